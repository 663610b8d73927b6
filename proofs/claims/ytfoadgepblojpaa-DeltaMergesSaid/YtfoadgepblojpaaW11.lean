/-
  The sort at changes and at cells; Clone; the maps by position.
-/
import Derived.Test.YtfoadgepblojpaaW10
import Derived.Test.YtfoadgepblojpaaLays
import Derived.Test.YtfoadgepblojpaaAmZ
namespace Go.Proofs.Ytfoadgepblojpaa
open Go.AM Go.Proofs Go.Sort

theorem bits_spec (n : Int) (h0 : 0 ≤ n) (h1 : n ≤ 18446744073709551615) : PureCall Try.prog 50 [.one (.d (.int .u64 n))] (.int (Lib.bitLen n.toNat)) := by
  refine ⟨⟨_, Try.func50, by decide, rfl⟩, fun φ w F hF vals hl hv => ?_⟩
  obtain ⟨v, rfl⟩ : ∃ v, vals = [v] := by
    match vals, hl with
    | [a], _ => exact ⟨a, rfl⟩
  have : v = .int .u64 n := hv 0 _ v rfl rfl
  subst this
  refine (Any.bits_Len (SlLaysF0.n15.bits bitsLen) n w h0 h1).mono fun e w' ⟨he, hw⟩ => ⟨_, he, ?_, rfl⟩
  subst hw
  exact Blw.refl _ _

def Ch.ints (c : Ch) : List Int := [c.x, c.y, c.f, c.t]
def Cl.ints (c : Cl) : List Int := [c.x, c.y, c.s]
def cfCh (a b : Ch) : Int := cmpP a.x a.y b.x b.y
def cfCl (a b : Cl) : Int := cmpP a.x a.y b.x b.y
instance : Inhabited Ch := ⟨⟨0, 0, 0, 0⟩⟩
instance : Inhabited Cl := ⟨⟨0, 0, 0⟩⟩
theorem swoCh : SWO (ltOf cfCh) where
  irrefl x := by simp [ltOf, cfCh, cmpP]
  trans x y z h1 h2 := by
    simp only [ltOf, cfCh, cmpP] at *
    grind
  ntrans x y z h1 h2 := by
    simp only [ltOf, cfCh, cmpP] at *
    grind
theorem swoCl : SWO (ltOf cfCl) where
  irrefl x := by simp [ltOf, cfCl, cmpP]
  trans x y z h1 h2 := by
    simp only [ltOf, cfCl, cmpP] at *
    grind
  ntrans x y z h1 h2 := by
    simp only [ltOf, cfCl, cmpP] at *
    grind
theorem pdqCh_mut (xs : List Ch) (hx : xs.length ≤ 100000) (lim : Nat) (hlim : lim < 4611686018427387904) :
    MutFn Try.prog 49 [.one (.own inBase), .int 0, .int xs.length, .int lim, .one (.fn 29 [])] (.row 4 49 (xs.map Ch.row)) (Sorts Ch.ints cfCh 4 49 xs) :=
  pdq_mut pdqCh (k := 4) (encI := Ch.ints) (fun _ => rfl) Try.isAgg49 Try.sizeOf49 swoCh (fun x y => dOrder_spec _ _ _ _ _ _ _ _) xs (by omega) lim hlim
theorem pdqCl_mut (xs : List Cl) (hx : xs.length ≤ 100000) (lim : Nat) (hlim : lim < 4611686018427387904) :
    MutFn Try.prog 67 [.one (.own inBase), .int 0, .int xs.length, .int lim, .one (.fn 48 [])] (.row 3 47 (xs.map Cl.row)) (Sorts Cl.ints cfCl 3 47 xs) :=
  pdq_mut pdqCl (k := 3) (encI := Cl.ints) (fun _ => rfl) Try.isAgg47 Try.sizeOf47 swoCl (fun x y => pOrder_spec _ _ _ _ _ _) xs (by omega) lim hlim

def c50 (us : List V) : Option V := match us with
  | [.u (.one (.d (.int .u64 n)))] => if 0 ≤ n ∧ n ≤ 18446744073709551615 then some (.int (Lib.bitLen n.toNat)) else none
  | _ => none
def c49 (us : List V) : Option V := match us with
  | [.u (.one (.d .nil)), .u (.one (.d (.int .i64 0))), .u (.one (.d (.int .i64 0))), .u (.one (.d (.int .i64 _))), .u (.one (.fn _ []))] => some (.tup [])
  | _ => none
def ct8 (f : FuncId) (us : List V) : Option V := match f with
  | 50 => c50 us
  | 49 => c49 us
  | 67 => c49 us
  | _ => ct7 f us
theorem ct8_ok : ∀ f us v, ct8 f us = some v → PureCall Try.prog f us v := by
  intro f us v h
  unfold ct8 at h
  split at h
  · unfold c50 at h
    split at h
    · split at h
      · rename_i hn; cases h; exact bits_spec _ hn.1 hn.2
      · cases h
    · cases h
  · unfold c49 at h
    split at h
    · cases h; exact pdq_none pdqCh _ _
    · cases h
  · unfold c49 at h
    split at h
    · cases h; exact pdq_none pdqCl _ _
    · cases h
  · exact ct7_ok f us v h
def tb8 : Tb := { tb with call := ct8, eff := effF ct8 }
theorem tb8_ok : TbOk Try.prog tb8 := { tb_ok with call := ct8_ok, eff := fun cx f us d ρ σ T K hd h hT => effF_ok ct8_ok cx f us d ρ σ T K hd h hT }
theorem tb8_ty : tb8.ty = ty := rfl
theorem tb8_eqn : tb8.eqn = eqn := rfl
theorem tb8_key : tb8.key = key := rfl
theorem tb8_mid : tb8.mid = fun _ => none := rfl
theorem tb8_call : tb8.call = ct8 := rfl
theorem tb8_eff : tb8.eff = effF ct8 := rfl
attribute [simp] tb8_mid tb8_ty tb8_eqn tb8_key tb8_call tb8_eff ct8 c50 c49

theorem wrap_u64 {n : Nat} (h : n ≤ 100000) : IntKind.u64.wrap (n : Int) = (n : Int) := by
  simp [IntKind.wrap, IntKind.bits, IntKind.signed]; omega
theorem stoIn_apply (ins : List Ob) (s : Nat) : stoIn ins s = if 10000 ≤ s then ins[s - 10000]? else none := rfl
theorem inBase_eq : inBase = 10000 := rfl
attribute [simp] stoIn_apply inBase_eq ti73

theorem sortCh_mut (xs : List Ch) (hx : xs.length ≤ 100000) :
    MutFn Try.prog 28 [.one (.own inBase), .one (.fn 29 [])] (.row 4 49 (xs.map Ch.row)) (Sorts Ch.ints cfCh 4 49 xs) := by
  have hb := Lib.bitLen_le xs.length 62 (by omega) (by omega)
  refine mut_L tb8_ok mixed _ Try.func28 rfl (by kernel_rfl) (by simp [Try.ntmps28]) (by kernel_rfl) fun cx hn => ?_
  have h64 : (xs.length : Int) ≤ 18446744073709551615 := by omega
  simp -dsimp [wrap_u64 hx, h64]
  refine callK_mut (pdqCh_mut xs hx (Lib.bitLen xs.length) (by omega)) (s := 10000) (by simp) rfl ⟨_, _, _, rfl⟩ (fun v o' h => ⟨_, _, _, h.2.choose_spec.1⟩) (by simp [V.ren, U.ren, C.ren, C.rens, nameF]) (by rintro x ⟨⟩; rw [hn, Try.ntmps28]; decide) fun v o' h => ?_
  obtain ⟨rfl, ys, rfl, hp, hs⟩ := h
  simp -dsimp [Try.results28, obFree]
  exact ⟨rfl, ys, rfl, hp, hs⟩
theorem sortCl_mut (xs : List Cl) (hx : xs.length ≤ 100000) :
    MutFn Try.prog 52 [.one (.own inBase), .one (.fn 48 [])] (.row 3 47 (xs.map Cl.row)) (Sorts Cl.ints cfCl 3 47 xs) := by
  have hb := Lib.bitLen_le xs.length 62 (by omega) (by omega)
  refine mut_L tb8_ok mixed _ Try.func52 rfl (by kernel_rfl) (by simp [Try.ntmps52]) (by kernel_rfl) fun cx hn => ?_
  have h64 : (xs.length : Int) ≤ 18446744073709551615 := by omega
  simp -dsimp [wrap_u64 hx, h64]
  refine callK_mut (pdqCl_mut xs hx (Lib.bitLen xs.length) (by omega)) (s := 10000) (by simp) rfl ⟨_, _, _, rfl⟩ (fun v o' h => ⟨_, _, _, h.2.choose_spec.1⟩) (by simp [V.ren, U.ren, C.ren, C.rens, nameF]) (by rintro x ⟨⟩; rw [hn, Try.ntmps52]; decide) fun v o' h => ?_
  obtain ⟨rfl, ys, rfl, hp, hs⟩ := h
  simp -dsimp [Try.results52, obFree]
  exact ⟨rfl, ys, rfl, hp, hs⟩

theorem sortCh_nil : PFn Try.prog 28 [.one (.d .nil), .one (.fn 29 [])] (· = .tup []) := by
  refine pfn_L tb8_ok mixed _ Try.func28 rfl (by kernel_rfl) (by simp [Try.ntmps28]) (by kernel_rfl) fun cx hn => ?_
  have hw : IntKind.u64.wrap 0 = 0 := by decide
  simp -dsimp [hw, Try.results28]
theorem sortCl_nil : PFn Try.prog 52 [.one (.d .nil), .one (.fn 48 [])] (· = .tup []) := by
  refine pfn_L tb8_ok mixed _ Try.func52 rfl (by kernel_rfl) (by simp [Try.ntmps52]) (by kernel_rfl) fun cx hn => ?_
  have hw : IntKind.u64.wrap 0 = 0 := by decide
  simp -dsimp [hw, Try.results52]
theorem clone_new (xs : List Ch) (hx : xs.length ≤ 100000) : NewFn Try.prog 36 [.one (.d (chL xs))] (· = .row 4 49 (xs.map Ch.row)) := by
  refine new_L tb8_ok mixed _ Try.func36 rfl (by kernel_rfl) (by simp [Try.ntmps36]) (by kernel_rfl) fun cx hn => ?_
  cases xs with
  | nil => simp -dsimp [Try.results36, chL]
  | cons x xs =>
    simp at hx
    simp -dsimp [Try.results36, chL]
    omega
theorem wf_i64 {n : Int} (h1 : -1048576 ≤ n) (h2 : n ≤ 1048576) : (Lit.int .i64 n).wf = true := by
  simp [Lit.wf, IntKind.min, IntKind.max, IntKind.bits, IntKind.signed]
  omega
def keyP (x y : Int) : Key := .ints [x, y]
def setS (es : List (Key × U)) (c : Cl) : List (Key × U) := mset es (keyP c.x c.y) (.one (.d (.int .i64 c.s)))
def setC (es : List (Key × U)) (c : Ch) : List (Key × U) := mset es (keyP c.x c.y) (.agg [.d (.int .i64 c.x), .d (.int .i64 c.y), .d (.int .i64 c.f), .d (.int .i64 c.t)])
def cellsM (cs : List Cl) : List (Key × U) := cs.foldl setS []
def changesM (cs : List Ch) : List (Key × U) := cs.foldl setC []
theorem cellsM_free (cs : List Cl) : esFree (cellsM cs) = true := by
  have : ∀ (cs : List Cl) (es : List (Key × U)), esFree es = true → esFree (cs.foldl setS es) = true := by
    intro cs
    induction cs with
    | nil => intro es h; exact h
    | cons c cs ih => intro es h; exact ih _ (esFree_mset h rfl)
  exact this cs [] rfl
theorem changesM_free (cs : List Ch) : esFree (changesM cs) = true := by
  have : ∀ (cs : List Ch) (es : List (Key × U)), esFree es = true → esFree (cs.foldl setC es) = true := by
    intro cs
    induction cs with
    | nil => intro es h; exact h
    | cons c cs ih => intro es h; exact ih _ (esFree_mset h rfl)
  exact this cs [] rfl
theorem cells_new (cs : List Cl) (hl : cs.length ≤ 100000) (hr : ∀ c ∈ cs, c.placed = true) : NewFn Try.prog 27 [.one (.d (clL cs))] (· = .map (.ints 2) (cellsM cs)) := by
  have hla := big hl
  refine new_L tb8_ok mixed _ Try.func27 rfl (by kernel_rfl) (by simp [Try.ntmps27]) (by kernel_rfl) fun cx hn => ?_
  simp -dsimp [clL]
  refine loop_up tb8_ok mixed cs.length (fun i ρ σ => ρ 3 = .one (.map 8) ∧ ρ 9 = .one (.d (clL cs)) ∧ ρ 10 = .int cs.length ∧ ρ 11 = .int i ∧ σ 8 = some (.map (.ints 2) (cellsM (cs.take i)))) (by rw [hn]; kernel_rfl) (by simp [clL, cellsM]) ?_
  rintro i ρ σ hi ⟨h3, h9, h10, h11, s8⟩
  have hw := fun d => es_wipe (cellsM_free (cs.take i)) d
  by_cases hlt : i < cs.length
  · have hc : cs[i]? = some cs[i] := List.getElem?_eq_getElem hlt
    have hp := hr cs[i] (List.getElem_mem hlt)
    simp only [Cl.placed, decide_eq_true_eq] at hp
    have hf1 := wf_i64 hp.1 hp.2.1
    have hf2 := wf_i64 hp.2.2.1 hp.2.2.2
    have hup : cellsM (cs.take (i + 1)) = mset (cellsM (cs.take i)) (.ints [cs[i].x, cs[i].y]) (.one (.d (.int .i64 cs[i].s))) := by unfold cellsM; rw [foldl_up _ _ hlt]; rfl
    simp -dsimp [h3, h9, h10, h11, s8, hw, hf1, hf2, clL, hlt, Cl.row, Try.results27, wrap_up hlt hla, hup]
  · have hia : cs.take i = cs := List.take_of_length_le (by omega)
    rw [hia] at s8
    simp -dsimp [h3, h9, h10, h11, s8, clL, hlt, Try.results27, cellsM_free]
theorem changes_new (cs : List Ch) (hl : cs.length ≤ 100000) (hr : ∀ c ∈ cs, -1048576 ≤ c.x ∧ c.x ≤ 1048576 ∧ -1048576 ≤ c.y ∧ c.y ≤ 1048576) : NewFn Try.prog 42 [.one (.d (chL cs))] (· = .map (.ints 2) (changesM cs)) := by
  have hla := big hl
  refine new_L tb8_ok mixed _ Try.func42 rfl (by kernel_rfl) (by simp [Try.ntmps42]) (by kernel_rfl) fun cx hn => ?_
  simp -dsimp [chL]
  refine loop_up tb8_ok mixed cs.length (fun i ρ σ => ρ 3 = .one (.map 8) ∧ ρ 9 = .one (.d (chL cs)) ∧ ρ 10 = .int cs.length ∧ ρ 11 = .int i ∧ σ 8 = some (.map (.ints 2) (changesM (cs.take i)))) (by rw [hn]; kernel_rfl) (by simp [chL, changesM]) ?_
  rintro i ρ σ hi ⟨h3, h9, h10, h11, s8⟩
  have hw := fun d => es_wipe (changesM_free (cs.take i)) d
  by_cases hlt : i < cs.length
  · have hc : cs[i]? = some cs[i] := List.getElem?_eq_getElem hlt
    have hp := hr cs[i] (List.getElem_mem hlt)
    have hf1 := wf_i64 hp.1 hp.2.1
    have hf2 := wf_i64 hp.2.2.1 hp.2.2.2
    have hup : changesM (cs.take (i + 1)) = mset (changesM (cs.take i)) (.ints [cs[i].x, cs[i].y]) (.agg [.d (.int .i64 cs[i].x), .d (.int .i64 cs[i].y), .d (.int .i64 cs[i].f), .d (.int .i64 cs[i].t)]) := by unfold changesM; rw [foldl_up _ _ hlt]; rfl
    simp -dsimp [h3, h9, h10, h11, s8, hw, hf1, hf2, chL, hlt, Ch.row, Try.results42, wrap_up hlt hla, hup]
  · have hia : cs.take i = cs := List.take_of_length_le (by omega)
    rw [hia] at s8
    simp -dsimp [h3, h9, h10, h11, s8, chL, hlt, Try.results42, changesM_free]
end Go.Proofs.Ytfoadgepblojpaa
