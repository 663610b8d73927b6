/-
  The table of the functions on slices of data; the walks of Compare, Same and the two inserts.
-/
import Derived.Test.YtfoadgepblojpaaW4
import Derived.Test.YtfoadgepblojpaaW5
import Derived.Test.YtfoadgepblojpaaAmV
namespace Go.Proofs.Ytfoadgepblojpaa
open Go.AM Go.Proofs

attribute [simp] effF firstOwn V.ownName V.frz1 U.frz1 C.frz1
theorem frzE_apply (s : Nat) (x : L) (ρ : Env) (t : Nat) : frzE s x ρ t = (ρ t).frz1 s x := by unfold frzE; rfl
theorem dropS_apply (s : Nat) (σ : Sto) (t : Nat) : dropS s σ t = if t = s then none else σ t := by unfold dropS; rfl
attribute [simp] frzE_apply dropS_apply

def dCl : List L → Option Cl
  | [.int .i64 x, .int .i64 y, .int .i64 s] => some ⟨x, y, s⟩
  | _ => none
def dCh : List L → Option Ch
  | [.int .i64 x, .int .i64 y, .int .i64 f, .int .i64 t] => some ⟨x, y, f, t⟩
  | _ => none
theorem dCl_row (c : Cl) : dCl c.row = some c := rfl
theorem dCh_row (c : Ch) : dCh c.row = some c := rfl
theorem dCl_eq : ∀ r c, dCl r = some c → r = Cl.row c := by
  intro r c h
  unfold dCl at h
  split at h
  · cases h; rfl
  · cases h
theorem dCh_eq : ∀ r c, dCh r = some c → r = Ch.row c := by
  intro r c h
  unfold dCh at h
  split at h
  · cases h; rfl
  · cases h
def clV (v : V) : Option (List Cl) := decSl 3 dCl v
def chV (v : V) : Option (List Ch) := decSl 4 dCh v
theorem clV_nil : clV (.u (.one (.d .nil))) = some [] := rfl
theorem chV_nil : chV (.u (.one (.d .nil))) = some [] := rfl
theorem clV_map (cs : List Cl) : clV (.u (.one (.d (.sl 3 (cs.map Cl.row))))) = some cs := by unfold clV; rw [decSl_sl, decs_map dCl_row]
theorem chV_map (cs : List Ch) : chV (.u (.one (.d (.sl 4 (cs.map Ch.row))))) = some cs := by unfold chV; rw [decSl_sl, decs_map dCh_row]
theorem clV_wk {v : V} {cs : List Cl} (h : clV v = some cs) : v.wk (.one (.d (clL cs))) := decSl_wk dCl_eq h
theorem chV_wk {v : V} {cs : List Ch} (h : chV v = some cs) : v.wk (.one (.d (chL cs))) := decSl_wk dCh_eq h
attribute [simp] clV_nil chV_nil clV_map chV_map

/-- What a function of one list of cells gives, where the list is not too long. -/
def fCl (v : V) (f : List Cl → V) : Option V := match clV v with
  | some cs => if cs.length ≤ 100000 then some (f cs) else none
  | none => none
def fCh (v : V) (f : List Ch → V) : Option V := match chV v with
  | some cs => if cs.length ≤ 100000 then some (f cs) else none
  | none => none
theorem fCl_eq {v r : V} {f : List Cl → V} (h : fCl v f = some r) : ∃ cs, cs.length ≤ 100000 ∧ v.wk (.one (.d (clL cs))) ∧ r = f cs := by
  unfold fCl at h
  split at h
  · rename_i cs hc
    split at h
    · rename_i hl; cases h; exact ⟨cs, hl, clV_wk hc, rfl⟩
    · cases h
  · cases h
theorem fCh_eq {v r : V} {f : List Ch → V} (h : fCh v f = some r) : ∃ cs, cs.length ≤ 100000 ∧ v.wk (.one (.d (chL cs))) ∧ r = f cs := by
  unfold fCh at h
  split at h
  · rename_i cs hc
    split at h
    · rename_i hl; cases h; exact ⟨cs, hl, chV_wk hc, rfl⟩
    · cases h
  · cases h
theorem big {n : Nat} (h : n ≤ 100000) : n ≤ maxLen := by unfold maxLen; omega
attribute [simp] fCl fCh

def c25 (us : List V) : Option V := match us with
  | [v] => fCl v fun cs => .bool (rightCl cs)
  | _ => none
def c13 (us : List V) : Option V := match us with
  | [v] => fCh v fun cs => .bool (rightCh cs)
  | _ => none
def c30 (us : List V) : Option V := match us with
  | [v, .u (.one (.d (.int .i64 x))), .u (.one (.d (.int .i64 y)))] => fCl v fun cs => .int (getP cs x y)
  | _ => none
def c39 (us : List V) : Option V := match us with
  | [v, .u (.agg [.d (.int .i64 x), .d (.int .i64 y)])] => fCh v fun cs => .int (findP 0 cs x y)
  | _ => none
def ct5 (f : FuncId) (us : List V) : Option V := match f with
  | 25 => c25 us
  | 26 => c25 us
  | 13 => c13 us
  | 14 => c13 us
  | 30 => c30 us
  | 39 => c39 us
  | _ => ct4 f us
theorem wk1 {v v' : V} (h : v.wk v') : V.wkl [v] [v'] := ⟨h, trivial⟩
theorem wk2 {v v' : V} (h : v.wk v') (x : V) : V.wkl [v, x] [v', x] := ⟨h, V.wk_refl x, trivial⟩
theorem wk3 {v v' : V} (h : v.wk v') (x y : V) : V.wkl [v, x, y] [v', x, y] := ⟨h, V.wk_refl x, V.wk_refl y, trivial⟩
theorem ct5_ok : ∀ f us v, ct5 f us = some v → PureCall Try.prog f us v := by
  intro f us v h
  unfold ct5 at h
  split at h
  · unfold c25 at h
    split at h
    · obtain ⟨cs, hl, hw, rfl⟩ := fCl_eq h
      exact (right05_spec cs (big hl)).pure.wk (wk1 hw)
    · cases h
  · unfold c25 at h
    split at h
    · obtain ⟨cs, hl, hw, rfl⟩ := fCl_eq h
      exact (rightP_spec cs (big hl)).pure.wk (wk1 hw)
    · cases h
  · unfold c13 at h
    split at h
    · obtain ⟨cs, hl, hw, rfl⟩ := fCh_eq h
      exact (rightD_spec cs (big hl)).pure.wk (wk1 hw)
    · cases h
  · unfold c13 at h
    split at h
    · obtain ⟨cs, hl, hw, rfl⟩ := fCh_eq h
      exact (right53_spec cs (big hl)).pure.wk (wk1 hw)
    · cases h
  · unfold c30 at h
    split at h
    · obtain ⟨cs, hl, hw, rfl⟩ := fCl_eq h
      exact (get_spec cs _ _ (big hl)).pure.wk (wk3 hw _ _)
    · cases h
  · unfold c39 at h
    split at h
    · obtain ⟨cs, hl, hw, rfl⟩ := fCh_eq h
      exact (find_spec cs _ _ (big hl)).pure.wk (wk2 hw _)
    · cases h
  · exact ct4_ok f us v h
def tb5 : Tb := { tb with call := ct5, eff := effF ct5 }
theorem tb5_ok : TbOk Try.prog tb5 := { tb_ok with call := ct5_ok, eff := fun cx f us d ρ σ T K hd h hT => effF_ok ct5_ok cx f us d ρ σ T K hd h hT }
theorem tb5_ty : tb5.ty = ty := rfl
theorem tb5_eqn : tb5.eqn = eqn := rfl
theorem tb5_key : tb5.key = key := rfl
theorem tb5_mid : tb5.mid = fun _ => none := rfl
theorem tb5_call : tb5.call = ct5 := rfl
theorem tb5_eff : tb5.eff = effF ct5 := rfl
attribute [simp] tb5_mid tb5_ty tb5_eqn tb5_key tb5_call tb5_eff ct5 c25 c13 c30 c39

def cmpCl (c d : Cl) : Int := if c.y ≠ d.y then cmpI c.y d.y else if c.x ≠ d.x then cmpI c.x d.x else cmpI c.s d.s
def cmpPat : List Cl → List Cl → Int
  | [], [] => 0
  | [], _ :: _ => -1
  | _ :: _, [] => 1
  | c :: cs, d :: ds => if c = d then cmpPat cs ds else cmpCl c d
theorem cmpPat_zero : ∀ cs ds : List Cl, cmpPat cs ds = 0 ↔ cs = ds
  | [], [] => by simp [cmpPat]
  | [], _ :: _ => by simp [cmpPat]
  | _ :: _, [] => by simp [cmpPat]
  | c :: cs, d :: ds => by
    simp only [cmpPat, List.cons.injEq]
    split
    · rename_i h; simp [h, cmpPat_zero cs ds]
    · rename_i h
      cases c; cases d
      simp only [cmpCl, cmpI, Cl.mk.injEq] at *
      grind

theorem compare_spec (cs ds : List Cl) (hl : cs.length ≤ maxLen) : PFn Try.prog 41 [.one (.d (clL cs)), .one (.d (clL ds))] (· = .int (cmpPat cs ds)) := by
  refine pfn_L tb5_ok mixed _ Try.func41 rfl (by kernel_rfl) (by simp [Try.ntmps41]) (by kernel_rfl) fun cx hn => ?_
  simp -dsimp
  refine loop_up tb5_ok mixed cs.length (fun i ρ σ => i ≤ ds.length ∧ ρ 0 = .one (.d (clL cs)) ∧ ρ 1 = .one (.d (clL ds)) ∧ ρ 5 = .int i ∧ cmpPat cs ds = cmpPat (cs.drop i) (ds.drop i)) (by rw [hn]; kernel_rfl) (by simp) ?_
  rintro i ρ σ hi ⟨hi', h0, h1, h5, hp⟩
  by_cases hlt : i < cs.length
  · by_cases hlt' : i < ds.length
    · have hc : cs[i]? = some cs[i] := List.getElem?_eq_getElem hlt
      have hd : ds[i]? = some ds[i] := List.getElem?_eq_getElem hlt'
      simp -dsimp [h0, h1, h5, clL, hlt, hlt', Cl.row, Try.results41, wrap_up hlt hl]
      rw [List.drop_eq_getElem_cons hlt, List.drop_eq_getElem_cons hlt', cmpPat] at hp
      have he : cs[i] = ds[i] ↔ cs[i].x = ds[i].x ∧ cs[i].y = ds[i].y ∧ cs[i].s = ds[i].s := by
        cases cs[i]; cases ds[i]; simp
      simp only [he] at hp
      unfold cmpCl at hp
      grind
    · simp -dsimp [h0, h1, h5, clL, hlt, hlt', Try.results41]
      have : i = ds.length := by omega
      subst this
      rw [hp, List.drop_of_length_le (Nat.le_refl _), List.drop_eq_getElem_cons hlt]
      simp [cmpPat, cmpI]
      omega
  · simp -dsimp [h0, h1, h5, clL, hlt, Try.results41]
    have : i = cs.length := by omega
    subst this
    rw [hp, List.drop_of_length_le (Nat.le_refl _)]
    by_cases hlt' : cs.length < ds.length
    · rw [List.drop_eq_getElem_cons hlt']
      simp [cmpPat, cmpI]
      omega
    · rw [List.drop_of_length_le (by omega)]
      simp [cmpPat, cmpI]
      omega

def before (c d : Cl) : Bool := ltP c.x c.y d.x d.y
/-- Ahead of the first one that c stands ahead of. -/
def insCl (cs : List Cl) (c : Cl) : List Cl := match cs with
  | [] => [c]
  | d :: ds => if before c d then c :: d :: ds else d :: insCl ds c
/-- Ahead of the first one that does not stand ahead of c. -/
def insCh (cs : List Ch) (c : Ch) : List Ch := match cs with
  | [] => [c]
  | d :: ds => if Ch.lt d c then d :: insCh ds c else c :: d :: ds
theorem insCl_length (c : Cl) : ∀ cs : List Cl, (insCl cs c).length = cs.length + 1
  | [] => rfl
  | d :: ds => by
    unfold insCl
    split
    · simp
    · simp [insCl_length c ds]
theorem insCh_length (c : Ch) : ∀ cs : List Ch, (insCh cs c).length = cs.length + 1
  | [] => rfl
  | d :: ds => by
    unfold insCh
    split
    · simp [insCh_length c ds]
    · simp

theorem take_len {α β : Type} (f : α → β) (cs : List α) : List.take cs.length (List.map f cs) = List.map f cs := List.take_of_length_le (by simp)
/-- A list that grows in slot t: nil, or the row s. -/
def acc (ρ : Env) (σ : Sto) (t s sz e : Nat) (rows : List (List L)) : Prop := (ρ t = .one (.d .nil) ∧ rows = []) ∨ (ρ t = .one (.own s) ∧ σ s = some (.row sz e rows))

theorem take_up {α : Type} {cs : List α} {i : Nat} (h : i < cs.length) : cs.take (i + 1) = cs.take i ++ [cs[i]] := by
  rw [List.take_add_one, List.getElem?_eq_getElem h]; rfl
theorem insCh_here {cs : List Ch} {c : Ch} {i : Nat} (h : i < cs.length) (hp : insCh cs c = cs.take i ++ insCh (cs.drop i) c) :
    (cmpP cs[i].x cs[i].y c.x c.y < 0 → insCh cs c = cs.take (i + 1) ++ insCh (cs.drop (i + 1)) c) ∧
    (0 ≤ cmpP cs[i].x cs[i].y c.x c.y → (insCh cs c).map Ch.row = (cs.take i).map Ch.row ++ c.row :: (cs.map Ch.row).drop i) := by
  have hlt' : Ch.lt cs[i] c = decide (cmpP cs[i].x cs[i].y c.x c.y < 0) := by
    have := cmpP_neg cs[i].x cs[i].y c.x c.y
    simp only [Ch.lt]
    grind
  rw [List.drop_eq_getElem_cons h, insCh, hlt'] at hp
  refine ⟨fun hc => ?_, fun hc => ?_⟩
  · rw [hp, if_pos (by simpa using hc), take_up h, List.append_assoc]; rfl
  · rw [hp, if_neg (by simpa using hc), ← List.drop_eq_getElem_cons h]
    simp
theorem insCh_last {cs : List Ch} {c : Ch} {i : Nat} (h : ¬ i < cs.length) (hp : insCh cs c = cs.take i ++ insCh (cs.drop i) c) :
    (insCh cs c).map Ch.row = (cs.take i).map Ch.row ++ c.row :: (cs.map Ch.row).drop i := by
  rw [hp, List.drop_of_length_le (by omega), List.drop_of_length_le (by simp; omega)]
  simp [insCh]

theorem insert53_spec (cs : List Ch) (c : Ch) (hl : cs.length ≤ 100000) : PFn Try.prog 31 [.one (.d (chL cs)), .agg [.d (.int .i64 c.x), .d (.int .i64 c.y), .d (.int .i64 c.f), .d (.int .i64 c.t)]] (fun v => v.wk (.one (.d (chL (insCh cs c))))) := by
  refine pfn_L tb5_ok mixed _ Try.func31 rfl (by kernel_rfl) (by simp [Try.ntmps31]) (by kernel_rfl) fun cx hn => ?_
  simp -dsimp
  refine loop_up tb5_ok mixed cs.length (fun i ρ σ => ρ 0 = .one (.d (chL cs)) ∧ ρ 3 = .one (.box 3 0) ∧ ρ 6 = .int i ∧ σ 3 = some (.box [.d (.int .i64 c.x), .d (.int .i64 c.y), .d (.int .i64 c.f), .d (.int .i64 c.t)]) ∧ acc ρ σ 5 28 4 49 ((cs.take i).map Ch.row) ∧
    insCh cs c = cs.take i ++ insCh (cs.drop i) c) (by rw [hn]; kernel_rfl) (by simp [acc]) ?_
  rintro i ρ σ hi ⟨h0, h3, h6, s3, ha, hp⟩
  have hl' : cs.length ≤ maxLen := big hl
  have hsz : ((i : Int) + 1) * 32 ≤ 140737488355328 := by omega
  by_cases hlt : i < cs.length
  · have hc : cs[i]? = some cs[i] := List.getElem?_eq_getElem hlt
    have ht : List.take (i + 1) (List.map Ch.row cs) = List.map Ch.row (cs.take i) ++ [[.int .i64 cs[i].x, .int .i64 cs[i].y, .int .i64 cs[i].f, .int .i64 cs[i].t]] := by
      rw [List.take_add_one, List.map_take, List.getElem?_map, hc]; rfl
    obtain ⟨hA, hB⟩ := insCh_here hlt hp
    rcases ha with ⟨h5, hr⟩ | ⟨h5, s28⟩
    · simp -dsimp [h0, h3, h6, s3, h5, acc, chL, hlt, Ch.row, hi, hr, Try.results31, wrap_up hlt hl', ht, take_len]
      refine ⟨hA, fun h => ⟨by omega, ?_⟩⟩
      rw [hB h, hr]; rfl
    · simp -dsimp [h0, h3, h6, s3, h5, s28, acc, chL, hlt, Ch.row, hi, Try.results31, wrap_up hlt hl', ht, take_len]
      refine ⟨fun h => ⟨by omega, hA h⟩, fun h => ⟨by omega, by omega, ?_⟩⟩
      rw [hB h, List.map_take]; rfl
  · have hB := insCh_last hlt hp
    rcases ha with ⟨h5, hr⟩ | ⟨h5, s28⟩
    · simp -dsimp [h0, h3, h6, s3, h5, chL, hlt, hi, Try.results31, take_len]
      refine ⟨by omega, ?_⟩
      rw [hB, hr]; rfl
    · simp -dsimp [h0, h3, h6, s3, h5, s28, chL, hlt, hi, Try.results31, take_len]
      refine ⟨by omega, by omega, ?_⟩
      rw [hB, List.map_take]; rfl

theorem insCl_here {cs : List Cl} {c : Cl} {i : Nat} (h : i < cs.length) (hp : insCl cs c = cs.take i ++ insCl (cs.drop i) c) :
    (before c cs[i] = false → insCl cs c = cs.take (i + 1) ++ insCl (cs.drop (i + 1)) c) ∧
    (before c cs[i] = true → insCl cs c = cs.take i ++ c :: cs.drop i) := by
  rw [List.drop_eq_getElem_cons h, insCl] at hp
  refine ⟨fun hc => ?_, fun hc => ?_⟩
  · rw [hp, if_neg (by simp [hc]), take_up h, List.append_assoc]; rfl
  · rw [hp, if_pos hc, ← List.drop_eq_getElem_cons h]
theorem insert05_spec (cs : List Cl) (c : Cl) (hl : cs.length ≤ 100000) : PFn Try.prog 53 [.one (.d (clL cs)), .agg [.d (.int .i64 c.x), .d (.int .i64 c.y), .d (.int .i64 c.s)]] (fun v => v.wk (.one (.d (clL (insCl cs c))))) := by
  refine pfn_L tb5_ok mixed _ Try.func53 rfl (by kernel_rfl) (by simp [Try.ntmps53]) (by kernel_rfl) fun cx hn => ?_
  simp -dsimp
  refine loop_up tb5_ok mixed cs.length (fun i ρ σ => ρ 0 = .one (.d (clL cs)) ∧ ρ 3 = .one (.box 3 0) ∧ ρ 7 = .int i ∧ σ 3 = some (.box [.d (.int .i64 c.x), .d (.int .i64 c.y), .d (.int .i64 c.s)]) ∧
    ∃ b out, ρ 6 = .bool b ∧ acc ρ σ 5 34 3 47 (out.map Cl.row) ∧ (b = true → insCl cs c = out ++ cs.drop i ∧ out.length = i + 1) ∧ (b = false → out = cs.take i ∧ insCl cs c = cs.take i ++ insCl (cs.drop i) c)) (by rw [hn]; kernel_rfl)
    (by simp -dsimp [acc]) ?_
  rintro i ρ σ hi ⟨h0, h3, h7, s3, b, out, h6, ha, ht, hf⟩
  have hl' : cs.length ≤ maxLen := big hl
  by_cases hlt : i < cs.length
  · have hc : cs[i]? = some cs[i] := List.getElem?_eq_getElem hlt
    have hb : before c cs[i] = decide (c.y < cs[i].y ∨ c.y = cs[i].y ∧ c.x < cs[i].x) := rfl
    cases b with
    | true =>
      obtain ⟨ht, ho⟩ := ht rfl
      rcases ha with ⟨h5, hr⟩ | ⟨h5, s34⟩
      · cases out with
        | nil => simp at ho
        | cons _ _ => simp at hr
      · simp -dsimp [h0, h3, h6, h7, s3, h5, s34, acc, clL, hlt, Cl.row, Try.results53, wrap_up hlt hl', ho]
        refine ⟨by omega, out ++ [cs[i]], by simp [Cl.row], ?_, by simp [ho]⟩
        rw [ht, List.drop_eq_getElem_cons hlt]; simp
    | false =>
      obtain ⟨rfl, hg⟩ := hf rfl
      obtain ⟨hA, hB⟩ := insCl_here hlt hg
      rw [hb] at hA hB
      have hB' : c.y < cs[i].y ∨ c.y = cs[i].y ∧ c.x < cs[i].x → insCl cs c = (cs.take i ++ [c, cs[i]]) ++ cs.drop (i + 1) := fun h => by
        rw [hB (by simpa using h), List.drop_eq_getElem_cons hlt]; simp
      have hm : min i cs.length = i := by omega
      rcases ha with ⟨h5, hr⟩ | ⟨h5, s34⟩
      · simp -dsimp [h0, h3, h6, h7, s3, h5, acc, clL, hlt, Cl.row, Try.results53, wrap_up hlt hl']
        refine ⟨fun h => ⟨_, ?_, hB' h, by simp [hm]⟩, fun h1 h2 => ⟨_, ?_, rfl, hA (by simp; omega)⟩⟩
        · rw [List.map_append, hr]; rfl
        · rw [take_up hlt, List.map_append, hr]; rfl
      · simp -dsimp [h0, h3, h6, h7, s3, h5, s34, acc, clL, hlt, Cl.row, Try.results53, wrap_up hlt hl']
        refine ⟨fun h => ⟨by omega, by omega, _, ?_, hB' h, by simp [hm]⟩, fun h1 h2 => ⟨by omega, _, ?_, rfl, hA (by simp; omega)⟩⟩
        · simp [Cl.row]
        · rw [take_up hlt, List.map_append, ← List.map_take]; rfl
  · cases b with
    | true =>
      obtain ⟨ht, ho⟩ := ht rfl
      rcases ha with ⟨h5, hr⟩ | ⟨h5, s34⟩
      · cases out with
        | nil => simp at ho
        | cons _ _ => simp at hr
      · simp -dsimp [h0, h3, h6, h7, s3, h5, s34, clL, hlt, Try.results53, ho]
        rw [ht, List.drop_of_length_le (by omega), List.append_nil]
    | false =>
      obtain ⟨rfl, hg⟩ := hf rfl
      have hm : min i cs.length = i := by omega
      rw [List.drop_of_length_le (by omega)] at hg
      rcases ha with ⟨h5, hr⟩ | ⟨h5, s34⟩
      · simp -dsimp [h0, h3, h6, h7, s3, h5, clL, hlt, Try.results53]
        rw [hg, List.map_append, hr]; rfl
      · simp -dsimp [h0, h3, h6, h7, s3, h5, s34, clL, hlt, Try.results53]
        refine ⟨by omega, ?_⟩
        rw [hg]; simp [insCl, Cl.row]
end Go.Proofs.Ytfoadgepblojpaa
