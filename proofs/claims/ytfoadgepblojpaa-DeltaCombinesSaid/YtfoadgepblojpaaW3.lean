/-
  The walks of the functions that go through a slice of data.
-/
import Derived.Test.YtfoadgepblojpaaW2
namespace Go.Proofs.Ytfoadgepblojpaa
open Go.AM Go.Proofs

/-- A loop that counts up. -/
theorem loop_up {P : Program} {tb : Tb} {cx : Cx} {ρ : Env} {σ : Sto} {c : Code} {Q : Exit → Env → Sto → Prop} (ht : TbOk P tb) (hm : P.follows .mixedOrders = true) {j} (N : Nat) (I : Nat → Env → Sto → Prop) (hc : codeOk tb.mid cx.n c = true) (h0 : I 0 ρ σ)
    (hr : ∀ i ρ σ, i ≤ N → I i ρ σ → aswpL P cx tb c ρ σ (thenL (fun ρ σ => i < N ∧ I (i + 1) ρ σ) Q .mk) .mk) : SwpL P cx (.loop c) ρ σ Q j := by
  refine swp_loop (fun n ρ σ => ∃ i, i ≤ N ∧ n = N - i ∧ I i ρ σ) N ⟨0, Nat.zero_le _, rfl, h0⟩ ?_
  rintro n ρ σ ⟨i, hi, rfl, hI⟩
  refine (aswp_sound ht hm c ρ σ _ hc (hr i ρ σ hi hI)).mono fun e ρ σ h => ?_
  cases e with
  | normal => exact ⟨N - (i + 1), by have := h.1; omega, i + 1, h.1, rfl, h.2⟩
  | _ => exact h

structure Cl where
  x : Int
  y : Int
  s : Int
  deriving DecidableEq
structure Ch where
  x : Int
  y : Int
  f : Int
  t : Int
  deriving DecidableEq
def Cl.row (c : Cl) : List L := [.int .i64 c.x, .int .i64 c.y, .int .i64 c.s]
def Ch.row (c : Ch) : List L := [.int .i64 c.x, .int .i64 c.y, .int .i64 c.f, .int .i64 c.t]
def clL (cs : List Cl) : L := .sl 3 (cs.map Cl.row)
def chL (cs : List Ch) : L := .sl 4 (cs.map Ch.row)
theorem wrap_up {i n : Nat} (h : i < n) (hn : n ≤ maxLen) : IntKind.i64.wrap ((i : Int) + 1) = ((i + 1 : Nat) : Int) := by
  rw [IntWalk.i64_in _ (by unfold maxLen at hn; omega)]; rfl

def getP (cs : List Cl) (x y : Int) : Int := match cs with
  | [] => 0
  | c :: cs => if c.x = x ∧ c.y = y then c.s else getP cs x y
theorem get_spec (cs : List Cl) (x y : Int) (hl : cs.length ≤ maxLen) : PFn Try.prog 30 [.one (.d (clL cs)), .int x, .int y] (· = .int (getP cs x y)) := by
  refine pfn_L tb_ok mixed _ Try.func30 rfl (by kernel_rfl) (by simp [Try.ntmps30]) (by kernel_rfl) fun cx hn => ?_
  simp -dsimp
  refine loop_up tb_ok mixed cs.length (fun i ρ σ => ρ 0 = .one (.d (clL cs)) ∧ ρ 1 = .int x ∧ ρ 2 = .int y ∧ ρ 7 = .int i ∧ getP cs x y = getP (cs.drop i) x y) (by rw [hn]; kernel_rfl) (by simp) ?_
  rintro i ρ σ hi ⟨h0, h1, h2, h7, hp⟩
  by_cases hlt : i < cs.length
  · have hc : cs[i]? = some cs[i] := List.getElem?_eq_getElem hlt
    simp -dsimp [h0, h1, h2, h7, clL, hlt, Cl.row, Try.results30, wrap_up hlt hl]
    rw [List.drop_eq_getElem_cons hlt, getP] at hp
    grind
  · simp -dsimp [h0, h7, clL, hlt, Try.results30]
    rw [hp, List.drop_of_length_le (by omega)]
    rfl

/-! the slices that are right -/
def chk {α : Type} (ok : α → Bool) (lt : α → α → Bool) : Option α → List α → Bool
  | _, [] => true
  | p, c :: cs => ok c && (match p with | none => true | some p => lt p c) && chk ok lt (some c) cs
def Cl.ok (c : Cl) : Bool := decide (-1048576 ≤ c.x ∧ c.x ≤ 1048576 ∧ -1048576 ≤ c.y ∧ c.y ≤ 1048576) && decide (1 ≤ c.s ∧ c.s < 8)
def Ch.ok (c : Ch) : Bool := decide (-1048576 ≤ c.x ∧ c.x ≤ 1048576 ∧ -1048576 ≤ c.y ∧ c.y ≤ 1048576) && decide (0 ≤ c.f ∧ c.f < 8 ∧ 0 ≤ c.t ∧ c.t < 8 ∧ c.f ≠ c.t)
def ltP (x y x' y' : Int) : Bool := decide (y < y' ∨ y = y' ∧ x < x')
def Cl.lt (a b : Cl) : Bool := ltP a.x a.y b.x b.y
def Ch.lt (a b : Ch) : Bool := ltP a.x a.y b.x b.y
def rightCl (cs : List Cl) : Bool := decide (cs.length ≤ 5000) && chk Cl.ok Cl.lt none cs
def rightCh (cs : List Ch) : Bool := decide (cs.length ≤ 10000) && chk Ch.ok Ch.lt none cs
def prevAt {α : Type} (cs : List α) (i : Nat) : Option α := if i = 0 then none else cs[i - 1]?
theorem chk_step {α : Type} {ok : α → Bool} {lt : α → α → Bool} {cs : List α} {i : Nat} (h : i < cs.length) : chk ok lt (prevAt cs i) (cs.drop i) = (ok cs[i] && (match prevAt cs i with | none => true | some p => lt p cs[i]) && chk ok lt (prevAt cs (i + 1)) (cs.drop (i + 1))) := by
  rw [List.drop_eq_getElem_cons h]
  cases hp : prevAt cs i <;> simp [chk, prevAt, List.getElem?_eq_getElem h]
theorem chk_end {α : Type} {ok : α → Bool} {lt : α → α → Bool} {cs : List α} {i : Nat} (h : ¬ i < cs.length) : chk ok lt (prevAt cs i) (cs.drop i) = true := by
  rw [List.drop_of_length_le (by omega)]
  rfl
theorem wrap_down {i n : Nat} (h : i < n) (hn : n ≤ maxLen) (h0 : i ≠ 0) : IntKind.i64.wrap ((i : Int) - 1) = ((i - 1 : Nat) : Int) := by
  rw [IntWalk.i64_in _ (by unfold maxLen at hn; omega)]; omega
theorem cmpP_neg (x y x' y' : Int) : decide (0 ≤ cmpP x y x' y') = !(ltP x y x' y') := by
  unfold cmpP ltP
  grind
theorem toNat_pred (i : Nat) : ((i - 1 : Nat) : Int).toNat = i - 1 := by simp

def c48 (us : List V) : Option V := match us with
  | [.u (.agg [.d (.int .i64 x), .d (.int .i64 y), .d (.int .i64 _)]), .u (.agg [.d (.int .i64 x'), .d (.int .i64 y'), .d (.int .i64 _)])] => some (.int (cmpP x y x' y'))
  | _ => none
def c29 (us : List V) : Option V := match us with
  | [.u (.agg [.d (.int .i64 x), .d (.int .i64 y), .d (.int .i64 _), .d (.int .i64 _)]), .u (.agg [.d (.int .i64 x'), .d (.int .i64 y'), .d (.int .i64 _), .d (.int .i64 _)])] => some (.int (cmpP x y x' y'))
  | _ => none
def ct4 (f : FuncId) (us : List V) : Option V := match f with
  | 48 => c48 us
  | 29 => c29 us
  | _ => ct3 f us
theorem ct4_ok : ∀ f us v, ct4 f us = some v → PureCall Try.prog f us v := by
  intro f us v h
  unfold ct4 at h
  split at h
  · unfold c48 at h
    split at h
    · cases h; exact (pOrder_spec _ _ _ _ _ _).pure
    · cases h
  · unfold c29 at h
    split at h
    · cases h; exact (dOrder_spec _ _ _ _ _ _ _ _).pure
    · cases h
  · exact ct3_ok f us v h
def tb4 : Tb := { tb with call := ct4 }
theorem tb4_ok : TbOk Try.prog tb4 := { tb_ok with call := ct4_ok }
theorem tb4_ty : tb4.ty = ty := rfl
theorem tb4_eqn : tb4.eqn = eqn := rfl
theorem tb4_key : tb4.key = key := rfl
theorem tb4_mid : tb4.mid = fun _ => none := rfl
theorem tb4_call : tb4.call = ct4 := rfl
theorem tb4_eff (f : FuncId) (us : List V) (d : Option Nat) (ρ : Env) (σ : Sto) : tb4.eff f us d ρ σ = none := rfl
attribute [simp] tb4_mid tb4_ty tb4_eqn tb4_key tb4_call tb4_eff ct4 c48 c29

theorem right05_spec (cs : List Cl) (hl : cs.length ≤ maxLen) : PFn Try.prog 25 [.one (.d (clL cs))] (· = .bool (rightCl cs)) := by
  refine pfn_L tb1_ok mixed _ Try.func25 rfl (by kernel_rfl) (by simp [Try.ntmps25]) (by kernel_rfl) fun cx hn => ?_
  simp -dsimp
  refine loop_up tb1_ok mixed cs.length (fun i ρ σ => ρ 0 = .one (.d (clL cs)) ∧ ρ 3 = .int i ∧ chk Cl.ok Cl.lt none cs = chk Cl.ok Cl.lt (prevAt cs i) (cs.drop i)) (by rw [hn]; kernel_rfl) (by simp [prevAt]) ?_
  rintro i ρ σ hi ⟨h0, h3, hp⟩
  by_cases hlt : i < cs.length
  · have hc : cs[i]? = some cs[i] := List.getElem?_eq_getElem hlt
    rw [chk_step hlt] at hp
    by_cases hi0 : i = 0
    · subst hi0
      simp -dsimp [h0, h3, clL, hlt, Cl.row, Try.results25]
      have hw : IntKind.i64.wrap 1 = 1 := by decide
      simp only [prevAt, Cl.ok, rightCl, Nat.zero_add, List.drop_one] at *
      grind
    · have hc' : cs[i - 1]? = some cs[i - 1] := List.getElem?_eq_getElem (by omega)
      simp -dsimp [h0, h3, clL, hlt, hc', Cl.row, Try.results25, wrap_up hlt hl, wrap_down hlt hl hi0]
      have hpv : prevAt cs i = some cs[i - 1] := by unfold prevAt; rw [if_neg hi0, hc']
      simp only [hpv, Cl.ok, Cl.lt, ltP, rightCl] at *
      grind
  · rw [chk_end hlt] at hp
    simp -dsimp [h0, h3, clL, hlt, Try.results25]
    simp [rightCl, hp]
    omega

theorem rightP_spec (cs : List Cl) (hl : cs.length ≤ maxLen) : PFn Try.prog 26 [.one (.d (clL cs))] (· = .bool (rightCl cs)) := by
  refine pfn_L tb4_ok mixed _ Try.func26 rfl (by kernel_rfl) (by simp [Try.ntmps26]) (by kernel_rfl) fun cx hn => ?_
  simp -dsimp [clL, Try.results26]
  refine ⟨fun h => by simp [rightCl]; omega, fun h5 => ?_⟩
  refine loop_up tb4_ok mixed cs.length (fun i ρ σ => ρ 0 = .one (.d (clL cs)) ∧ ρ 8 = .one (.d (clL cs)) ∧ ρ 9 = .int cs.length ∧ ρ 10 = .int i ∧ chk Cl.ok Cl.lt none cs = chk Cl.ok Cl.lt (prevAt cs i) (cs.drop i)) (by rw [hn]; kernel_rfl) (by simp [prevAt, clL]) ?_
  rintro i ρ σ hi ⟨h0, h8, h9, h10, hp⟩
  by_cases hlt : i < cs.length
  · have hc : cs[i]? = some cs[i] := List.getElem?_eq_getElem hlt
    rw [chk_step hlt] at hp
    by_cases hi0 : i = 0
    · subst hi0
      simp -dsimp [h0, h8, h9, h10, clL, hlt, Cl.row, Try.results26]
      have hw : IntKind.i64.wrap 1 = 1 := by decide
      simp only [prevAt, Cl.ok, rightCl, Nat.zero_add, List.drop_one] at *
      grind
    · have hc' : cs[i - 1]? = some cs[i - 1] := List.getElem?_eq_getElem (by omega)
      simp -dsimp [h0, h8, h9, h10, clL, hlt, hc', Cl.row, Try.results26, wrap_up hlt hl, wrap_down hlt hl hi0]
      have hpv : prevAt cs i = some cs[i - 1] := by unfold prevAt; rw [if_neg hi0, hc']
      simp only [hpv, Cl.ok, Cl.lt, ltP, rightCl, cmpP] at *
      grind
  · rw [chk_end hlt] at hp
    simp -dsimp [h8, h9, h10, clL, hlt, Try.results26]
    simp [rightCl, hp]
    omega
end Go.Proofs.Ytfoadgepblojpaa
