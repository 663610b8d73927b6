/-
  The walks of the reference: Same of patterns, Of, Invert.
-/
import Derived.Test.YtfoadgepblojpaaW6
namespace Go.Proofs.Ytfoadgepblojpaa
open Go.AM Go.Proofs

def c15 (us : List V) : Option V := match us with
  | [v, v'] => match chV v, chV v' with
    | some xs, some ys => if xs.length ≤ 100000 then some (.bool (decide (xs = ys))) else none
    | _, _ => none
  | _ => none
def c41 (us : List V) : Option V := match us with
  | [v, v'] => match clV v, clV v' with
    | some xs, some ys => if xs.length ≤ 100000 then some (.int (cmpPat xs ys)) else none
    | _, _ => none
  | _ => none
def c31 (us : List V) : Option V := match us with
  | [v, .u (.agg [.d (.int .i64 x), .d (.int .i64 y), .d (.int .i64 f), .d (.int .i64 t)])] => fCh v fun cs => .one (.d (.sl 4 ((insCh cs ⟨x, y, f, t⟩).map Ch.row)))
  | _ => none
def c53 (us : List V) : Option V := match us with
  | [v, .u (.agg [.d (.int .i64 x), .d (.int .i64 y), .d (.int .i64 s)])] => fCl v fun cs => .one (.d (.sl 3 ((insCl cs ⟨x, y, s⟩).map Cl.row)))
  | _ => none
def ct6 (f : FuncId) (us : List V) : Option V := match f with
  | 15 => c15 us
  | 41 => c41 us
  | 31 => c31 us
  | 53 => c53 us
  | _ => ct5 f us
theorem wk22 {v v' x x' : V} (h : v.wk v') (h' : x.wk x') : V.wkl [v, x] [v', x'] := ⟨h, h', trivial⟩
theorem ct6_ok : ∀ f us v, ct6 f us = some v → PureCall Try.prog f us v := by
  intro f us v h
  unfold ct6 at h
  split at h
  · unfold c15 at h
    split at h
    · split at h
      · rename_i xs ys hx hy
        split at h
        · rename_i hl; cases h; exact (same53_spec xs ys (big hl)).pure.wk (wk22 (chV_wk hx) (chV_wk hy))
        · cases h
      · cases h
    · cases h
  · unfold c41 at h
    split at h
    · split at h
      · rename_i xs ys hx hy
        split at h
        · rename_i hl; cases h; exact (compare_spec xs ys (big hl)).pure.wk (wk22 (clV_wk hx) (clV_wk hy))
        · cases h
      · cases h
    · cases h
  · unfold c31 at h
    split at h
    · obtain ⟨cs, hl, hw, rfl⟩ := fCh_eq h
      exact (insert53_spec cs ⟨_, _, _, _⟩ hl).pureW.wk (wk2 hw _)
    · cases h
  · unfold c53 at h
    split at h
    · obtain ⟨cs, hl, hw, rfl⟩ := fCl_eq h
      exact (insert05_spec cs ⟨_, _, _⟩ hl).pureW.wk (wk2 hw _)
    · cases h
  · exact ct5_ok f us v h
def tb6 : Tb := { tb with call := ct6, eff := effF ct6 }
theorem tb6_ok : TbOk Try.prog tb6 := { tb_ok with call := ct6_ok, eff := fun cx f us d ρ σ T K hd h hT => effF_ok ct6_ok cx f us d ρ σ T K hd h hT }
theorem tb6_ty : tb6.ty = ty := rfl
theorem tb6_eqn : tb6.eqn = eqn := rfl
theorem tb6_key : tb6.key = key := rfl
theorem tb6_mid : tb6.mid = fun _ => none := rfl
theorem tb6_call : tb6.call = ct6 := rfl
theorem tb6_eff : tb6.eff = effF ct6 := rfl
attribute [simp] tb6_mid tb6_ty tb6_eqn tb6_key tb6_call tb6_eff ct6 c15 c41 c31 c53

theorem same05_spec (cs ds : List Cl) (hl : cs.length ≤ 100000) : PFn Try.prog 20 [.one (.d (clL cs)), .one (.d (clL ds))] (· = .bool (decide (cs = ds))) := by
  refine pfn_L tb6_ok mixed _ Try.func20 rfl (by kernel_rfl) (by simp [Try.ntmps20]) (by kernel_rfl) fun cx hn => ?_
  simp -dsimp [clL, hl, Try.results20]
  have := cmpPat_zero cs ds
  grind

theorem take_map_up {α β : Type} (f : α → β) {cs : List α} {i : Nat} (h : i < cs.length) : List.take (i + 1) (List.map f cs) = List.take i (List.map f cs) ++ [f cs[i]] := by
  rw [← List.map_take, ← List.map_take, take_up h, List.map_append]; rfl
theorem foldl_up {α β : Type} (f : β → α → β) (z : β) {cs : List α} {i : Nat} (h : i < cs.length) : (cs.take (i + 1)).foldl f z = f ((cs.take i).foldl f z) cs[i] := by
  rw [take_up h, List.foldl_append]; rfl
theorem chV_cases {v : V} {cs : List Ch} (h : chV v = some cs) : (v = .one (.d .nil) ∧ cs = []) ∨ (v = .one (.d .emp) ∧ cs = []) ∨ v = .one (.d (.sl 4 (cs.map Ch.row))) := by
  unfold chV decSl at h
  split at h
  · cases h; exact .inl ⟨rfl, rfl⟩
  · cases h; exact .inr (.inl ⟨rfl, rfl⟩)
  · split at h
    · rename_i hs
      subst hs
      rw [decs_eq dCh_eq h]
      exact .inr (.inr rfl)
    · cases h
  · cases h
theorem clV_cases {v : V} {cs : List Cl} (h : clV v = some cs) : (v = .one (.d .nil) ∧ cs = []) ∨ (v = .one (.d .emp) ∧ cs = []) ∨ v = .one (.d (.sl 3 (cs.map Cl.row))) := by
  unfold clV decSl at h
  split at h
  · cases h; exact .inl ⟨rfl, rfl⟩
  · cases h; exact .inr (.inl ⟨rfl, rfl⟩)
  · split at h
    · rename_i hs
      subst hs
      rw [decs_eq dCl_eq h]
      exact .inr (.inr rfl)
    · cases h
  · cases h

def stepA (b : List Cl) (out : List Ch) (c : Cl) : List Ch := if getP b c.x c.y = c.s then out else insCh out ⟨c.x, c.y, c.s, getP b c.x c.y⟩
def stepB (a : List Cl) (out : List Ch) (c : Cl) : List Ch := if getP a c.x c.y = 0 then insCh out ⟨c.x, c.y, 0, c.s⟩ else out
def ofR (a b : List Cl) : List Ch := b.foldl (stepB a) (a.foldl (stepA b) [])
theorem stepA_length (b : List Cl) (out : List Ch) (c : Cl) : (stepA b out c).length ≤ out.length + 1 := by
  unfold stepA
  split
  · omega
  · rw [insCh_length]; omega
theorem stepB_length (b : List Cl) (out : List Ch) (c : Cl) : (stepB b out c).length ≤ out.length + 1 := by
  unfold stepB
  split
  · rw [insCh_length]; omega
  · omega
theorem foldl_length {α β : Type} (f : List β → α → List β) (h : ∀ out c, (f out c).length ≤ out.length + 1) : ∀ (cs : List α) (z : List β), (cs.foldl f z).length ≤ z.length + cs.length
  | [], z => by simp
  | c :: cs, z => by
    have := foldl_length f h cs (f z c)
    have := h z c
    simp only [List.foldl_cons, List.length_cons]
    omega
def pairV (l : L) (e : Int) : V := .tup [.one (.d l), .one (.d (.int .i64 e))]
def ofV (a b : List Cl) : V := if rightCl a && rightCl b then pairV (chL (ofR a b)) 0 else pairV (chL []) 2

theorem of53_spec (a b : List Cl) (ha : a.length ≤ 1000) (hb : b.length ≤ 1000) : PFn Try.prog 12 [.one (.d (clL a)), .one (.d (clL b))] (fun v => v.wk (ofV a b)) := by
  have ha' : a.length ≤ 100000 := by omega
  have hb' : b.length ≤ 100000 := by omega
  refine pfn_L tb6_ok mixed _ Try.func12 rfl (by kernel_rfl) (by simp [Try.ntmps12]) (by kernel_rfl) fun cx hn => ?_
  have hla := big ha'
  have hlb := big hb'
  have hA : (a.foldl (stepA b) []).length ≤ 1000 := by have := foldl_length (stepA b) (stepA_length b) a []; simp at this; omega
  simp -dsimp [clL, ha', hb', Try.results12]
  refine ⟨fun h1 => ⟨fun h2 => by simp [ofV, h1, h2, pairV, chL], fun h2 => ?_⟩, fun h1 => by simp [ofV, h1, pairV, chL]⟩
  refine loop_up tb6_ok mixed a.length (fun i ρ σ => ρ 0 = .one (.d (clL a)) ∧ ρ 1 = .one (.d (clL b)) ∧ ρ 5 = .int 0 ∧ ρ 7 = .int i ∧ chV (ρ 6) = some ((a.take i).foldl (stepA b) [])) (by rw [hn]; kernel_rfl) (by simp [clL]) ?_
  rintro i ρ σ hi ⟨h0, h1', h5, h7, h6⟩
  have hlen : ((a.take i).foldl (stepA b) []).length ≤ 100000 := by have := foldl_length (stepA b) (stepA_length b) (a.take i) []; simp at this; omega
  by_cases hlt : i < a.length
  · have hc : a[i]? = some a[i] := List.getElem?_eq_getElem hlt
    simp -dsimp [h0, h1', h5, h6, h7, clL, hlt, hlen, hb', Cl.row, wrap_up hlt hla]
    rw [foldl_up _ _ hlt]
    unfold stepA
    grind
  · simp -dsimp [h0, h1', h7, clL, hlt]
    have hia : a.take i = a := List.take_of_length_le (by omega)
    rw [hia] at h6
    clear h7 hlen hlt hi
    refine loop_up tb6_ok mixed b.length (fun i ρ σ => ρ 0 = .one (.d (clL a)) ∧ ρ 1 = .one (.d (clL b)) ∧ ρ 5 = .int 0 ∧ ρ 9 = .int i ∧ chV (ρ 6) = some ((b.take i).foldl (stepB a) (a.foldl (stepA b) []))) (by rw [hn]; kernel_rfl) (by simp [clL, h0, h1', h5, h6]) ?_
    rintro i ρ σ hi ⟨h0, h1', h5, h9, h6⟩
    have hlen : ((b.take i).foldl (stepB a) (a.foldl (stepA b) [])).length ≤ 100000 := by have := foldl_length (stepB a) (stepB_length a) (b.take i) (a.foldl (stepA b) []); simp at this; omega
    by_cases hlt : i < b.length
    · have hc : b[i]? = some b[i] := List.getElem?_eq_getElem hlt
      simp -dsimp [h0, h1', h5, h6, h9, clL, hlt, hlen, ha', Cl.row, Try.results12, wrap_up hlt hlb]
      rw [foldl_up _ _ hlt]
      unfold stepB
      grind
    · have hib : b.take i = b := List.take_of_length_le (by omega)
      rw [hib] at h6
      rcases chV_cases h6 with ⟨h6, hr⟩ | ⟨h6, hr⟩ | h6
      · simp -dsimp [h0, h1', h6, h9, clL, hlt, Try.results12, ofV, h1, h2, pairV, chL, ofR, hr]
      · simp -dsimp [h0, h1', h6, h9, clL, hlt, Try.results12, ofV, h1, h2, pairV, chL, ofR, hr]
      · simp -dsimp [h0, h1', h6, h9, clL, hlt, Try.results12, ofV, h1, h2, pairV, chL, ofR]

def Ch.inv (c : Ch) : Ch := ⟨c.x, c.y, c.t, c.f⟩
def invV (cs : List Ch) : V := .one (.d (chL (if rightCh cs then cs.map Ch.inv else [])))
theorem invert53_spec (cs : List Ch) (hl : cs.length ≤ 1000) : PFn Try.prog 17 [.one (.d (chL cs))] (fun v => v.wk (invV cs)) := by
  have hl' : cs.length ≤ 100000 := by omega
  have hla := big hl'
  refine pfn_L tb6_ok mixed _ Try.func17 rfl (by kernel_rfl) (by simp [Try.ntmps17]) (by kernel_rfl) fun cx hn => ?_
  simp -dsimp [chL, hl', Try.results17]
  refine ⟨fun h1 => by simp [invV, h1, chL], fun h1 => ?_⟩
  refine loop_up tb6_ok mixed cs.length (fun i ρ σ => ρ 0 = .one (.d (chL cs)) ∧ ρ 4 = .int i ∧ acc ρ σ 3 37 4 49 (((cs.take i).map Ch.inv).map Ch.row)) (by rw [hn]; kernel_rfl) (by simp [chL, acc]) ?_
  rintro i ρ σ hi ⟨h0, h4, ha⟩
  by_cases hlt : i < cs.length
  · have hc : cs[i]? = some cs[i] := List.getElem?_eq_getElem hlt
    have ht := take_map_up (Ch.row ∘ Ch.inv) hlt
    have hm : min i cs.length = i := by omega
    rcases ha with ⟨h3, hr⟩ | ⟨h3, s37⟩
    · rw [List.map_map, List.map_take] at hr
      simp -dsimp [h0, h3, h4, acc, chL, hlt, Ch.row, ht, hr, Ch.inv, Try.results17, wrap_up hlt hla]
    · simp -dsimp [h0, h3, h4, s37, acc, chL, hlt, Ch.row, ht, Ch.inv, Try.results17, wrap_up hlt hla, hm]
      omega
  · have hia : cs.take i = cs := List.take_of_length_le (by omega)
    rw [hia] at ha
    rcases ha with ⟨h3, hr⟩ | ⟨h3, s37⟩
    · simp -dsimp [h0, h3, h4, chL, hlt, Try.results17, invV, h1, hr]
    · simp -dsimp [h0, h3, h4, s37, chL, hlt, Try.results17, invV, h1]
end Go.Proofs.Ytfoadgepblojpaa
