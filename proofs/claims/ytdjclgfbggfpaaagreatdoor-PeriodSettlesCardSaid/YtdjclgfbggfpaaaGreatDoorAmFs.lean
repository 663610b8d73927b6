/-
  A region that draws its order, with effects in the midst: the rule for generated proofs.
-/
import Derived.Test.YtdjclgfbggfpaaaGreatDoorAmW
import Derived.Test.YtdjclgfbggfpaaaGreatDoorAmFm
namespace Go.AM
open Go.RowKit
def pk : List Oper → Nat → List Oper
 | [], _ => []
 | o :: _, 0 => [o]
 | _ :: l, n + 1 => pk l n
def uopsD (l : List Oper) : List Nat → List Oper
 | [] => []
 | i :: us => pk l i ++ uopsD l us
def midsD (l : List Oper) : List Oper → List (List Nat) → List (Oper × List Oper)
 | o :: e, us :: uss => (o, uopsD l us) :: midsD l e uss
 | _, _ => []
theorem pk_eq : ∀ (l : List Oper) (n : Nat), pk l n = (l[n]?).toList
 | [], n => by simp [pk]
 | o :: l, 0 => by simp [pk]
 | o :: l, n + 1 => by rw [pk, pk_eq l n]; simp
theorem uopsD_eq (l : List Oper) : ∀ us : List Nat, uops l us = uopsD l us
 | [] => rfl
 | i :: us => by
  rw [uopsD, ← uopsD_eq l us, pk_eq]
  unfold uops
  rw [List.filterMap_cons]
  cases l[i]? <;> rfl
theorem midsD_eq (l : List Oper) : ∀ (e : List Oper) (uss : List (List Nat)), e.zip (uss.map (uops l)) = midsD l e uss
 | [], _ => by simp [midsD]
 | _ :: _, [] => by simp [midsD]
 | o :: e, us :: uss => by rw [List.map_cons, List.zip_cons_cons, midsD_eq l e uss, midsD, uopsD_eq]
section
variable {P : Program} {cx : Cx} {tb : Tb} {all l : List Oper} {ρ ρx : Env} {σ : Sto} {K : Env → Sto → Prop} {o : Oper} {Q : Exit → Env → Sto → Prop} {c y : Code} {d : Option Nat} {op : Op}
 {ty : TypeId} {pos : String} {af : Array Edge} {g : Option (Nat × Bool)} {k : V → Prop} {J : Env → Prop} {ds : List Nat} {X : Prop} {us : List Oper} {ml : List (Oper × List Oper)}
def gC (P : Program) (tb : Tb) (all : List Oper) (ds : List Nat) (σ : Sto) (l : List Oper) (ρ : Env) (J : Env → Prop) (_ : Lk (all, l, σ, J)) : Prop := qopsF P tb all ds σ l ρ J
def midsL (P : Program) (tb : Tb) (all : List Oper) (ds : List Nat) (ρx : Env) (l : List (Oper × List Oper)) (ρ : Env) (σ : Sto) (K : Env → Sto → Prop) (_ : Lk (all, l, ρx, K)) : Prop := midsP P tb all ds ρx l ρ σ K
def rchkL (P : Program) (tb : Tb) (all : List Oper) (ds : List Nat) (ρx : Env) (σ : Sto) (us : List Oper) (X : Prop) (_ : Lk (all, us, ρx, σ, X)) : Prop := rchk P tb all ds ρx σ us X
theorem qopsFL_nil {j} : gC P tb all ds σ [] ρ J j = J ρ := by unfold gC; rw [qopsF]
theorem qopsFL_cons {j} : gC P tb all ds σ ({ dst := d, op := op, type := ty, pos := pos, after := af, guard := g } :: l) ρ J j =
  agL all g ρ (fun ρ => qstL P tb op ρ σ (fun v => gC P tb all ds σ l (putE ρ d (v.wipes ds)) J .mk) .mk) (fun ρ => gC P tb all ds σ l (putE ρ d (.tup [])) J .mk) .mk := by
 unfold gC agL
 rw [qopsF]
 simp only [qstep_L]
theorem midsL_nil {j} : midsL P tb all ds ρx [] ρ σ K j = K ρ σ := by unfold midsL; rw [midsP]
theorem midsL_cons {j} : midsL P tb all ds ρx (({ dst := d, op := op, type := ty, pos := pos, after := af, guard := g }, us) :: ml) ρ σ K j =
  agL all g ρ (fun ρ => i9 tb op d ρ σ (fun ρ σ => rchkL P tb all ds ρx σ us (midsL P tb all ds ρx ml ρ σ K .mk) .mk) .mk) (fun ρ => rchkL P tb all ds ρx σ us (midsL P tb all ds ρx ml (putE ρ d (.tup [])) σ K .mk) .mk) .mk := by
 unfold midsL rchkL i9 agL
 rw [midsP]
 exact rfl
theorem rchkL_nil {j} : rchkL P tb all ds ρx σ [] X j = X := by unfold rchkL; rw [rchk]
theorem rchkL_cons {j} : rchkL P tb all ds ρx σ ({ dst := d, op := op, type := ty, pos := pos, after := af, guard := g } :: us) X j =
  agL all g ρx (fun _ => qstL P tb op ρx σ (fun v => rchkd ds ρx d v ∧ rchkL P tb all ds ρx σ us X .mk) .mk) (fun _ => rchkL P tb all ds ρx σ us X .mk) .mk := by
 unfold rchkL agL
 rw [rchk]
 simp only [qstep_L]
theorem rchkd_some (ds : List Nat) (ρx : Env) (d : Nat) (v : V) : rchkd ds ρx (some d) v = (v.wipes ds = ρx d) := rfl
theorem sw_mid (ht : TbOk P tb) (hm : P.follows .mixedOrders = true) (x y nT : Nat) (uss : List (List Nat)) (ds : List Nat) {id : Nat} {l : List Oper}
  (hc : (eP cx.n l && Region.lexB .any l.toArray && midsB l.toArray x y nT uss && decide (ds = dsts ((l.take y).drop x))) = true)
  (h : gC P tb l ds σ (l.take x) (wipesE ds ρ) (fun ρx => midsL P tb l ds ρx (midsD l ((l.take y).drop x) uss) ρx σ (fun ρ σ => gC P tb l ds σ ((l.take nT).drop y) ρ (fun ρ => gx P cx tb l (l.drop nT) ρ σ (Q .normal) .mk) .mk) .mk) .mk) :
  Swp P cx (.region id l.toArray true) ρ σ Q := by
 simp only [Bool.and_eq_true, decide_eq_true_eq] at hc
 unfold gC midsL gx at h
 rw [← midsD_eq] at h
 exact fun φ a w hs => draw_mids (ops := l.toArray) ht hc.1.1.1 hm hc.1.1.2 hc.1.2 (fun φ ρ σ a w hs hk => ⟨(fun _ h => by cases h), (fun h => by cases h), φ, ρ, σ, hs, hk⟩) hs hc.2 h
theorem sw_mids (ht : TbOk P tb) (hm : P.follows .mixedOrders = true) (x y nT : Nat) (uss : List (List Nat)) (ds : List Nat) {id : Nat} {l : List Oper} {z : Code}
  (hc : (eP cx.n l && Region.lexB .any l.toArray && midsB l.toArray x y nT uss && decide (ds = dsts ((l.take y).drop x))) = true)
  (h : gC P tb l ds σ (l.take x) (wipesE ds ρ) (fun ρx => midsL P tb l ds ρx (midsD l ((l.take y).drop x) uss) ρx σ (fun ρ σ => gC P tb l ds σ ((l.take nT).drop y) ρ (fun ρ => gx P cx tb l (l.drop nT) ρ σ (fun ρ σ => Swp P cx z ρ σ Q) .mk) .mk) .mk) .mk) :
  Swp P cx (.seq (.region id l.toArray true) z) ρ σ Q := ai (sw_mid ht hm x y nT uss ds hc h)
end
attribute [simp] qopsFL_nil qopsFL_cons midsL_nil midsL_cons rchkL_nil rchkL_cons rchkd_some wipes_nil gI wipesE_apply
end Go.AM
