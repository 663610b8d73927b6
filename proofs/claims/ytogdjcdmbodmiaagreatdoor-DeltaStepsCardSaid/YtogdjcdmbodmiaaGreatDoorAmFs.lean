/- A region that draws its order, with effects in the midst: the rule for generated proofs. -/
import Derived.Test.YtogdjcdmbodmiaaGreatDoorAmW
import Derived.Test.YtogdjcdmbodmiaaGreatDoorAmFm
namespace Go.AM
open Go.RowKit
def pk : List Oper → Nat → List Oper
 | [], _ => []
 | o :: _, 0 => [o]
 | _ :: l, n + 1 => pk l n
def uopsD (l : List Oper) : List Nat → List Oper
 | [] => []
 | i :: us => pk l i ++ uopsD l us
def midsD (l : List Oper) : List Oper → List (List Nat) → List (List Nat) → List (Oper × List Oper × List Nat)
 | o :: e, us :: uss, ns :: nss => (o, uopsD l us, ns) :: midsD l e uss nss
 | _, _, _ => []
theorem pk_eq : ∀ (l : List Oper) (n : Nat), pk l n = (l[n]?).toList
 | [], n => by simp [pk]
 | o :: l, 0 => by simp [pk]
 | o :: l, n + 1 => by rw [pk, pk_eq l n]; simp
theorem uopsD_eq (l : List Oper) : ∀ us : List Nat, uops l us = uopsD l us
 | [] => rfl
 | i :: us => by
  rw [uopsD, ← uopsD_eq l us, pk_eq]
  unfold uops
  rw [List.filterMap_cons]
  cases l[i]? <;> rfl
theorem midsD_eq (l : List Oper) : ∀ (e : List Oper) (uss nss : List (List Nat)), e.zip ((uss.map (uops l)).zip nss) = midsD l e uss nss
 | [], _, _ => by simp [midsD]
 | _ :: _, [], _ => by simp [midsD]
 | _ :: _, _ :: _, [] => by simp [midsD]
 | o :: e, us :: uss, ns :: nss => by rw [List.map_cons, List.zip_cons_cons, List.zip_cons_cons, midsD_eq l e uss nss, midsD, uopsD_eq]
section
variable {P : Program} {cx : Cx} {tb : Tb} {all l : List Oper} {ρ ρx : Env} {σ : Sto} {K : Env → Sto → Prop} {o : Oper} {Q : Exit → Env → Sto → Prop} {c y : Code} {d : Option Nat} {op : Op}
 {ty : TypeId} {pos : String} {af : Array Edge} {g : Option (Nat × Bool)} {k : V → Prop} {J : Env → Prop} {ds : List Nat} {X : Prop} {us : List Oper} {ml : List (Oper × List Oper × List Nat)} {fl : Flt} {ns later : List Nat}
def i1 (P : Program) (tb : Tb) (all : List Oper) (ds : List Nat) (σ : Sto) (l : List Oper) (ρ : Env) (J : Env → Prop) (_ : Lk (all, l, σ, J)) : Prop := qopsF P tb all ds σ l ρ J
def midsL (P : Program) (cx : Cx) (tb : Tb) (all : List Oper) (ds : List Nat) (fl : Flt) (ρx : Env) (l : List (Oper × List Oper × List Nat)) (ρ : Env) (σ : Sto) (K : Env → Sto → Prop) (_ : Lk (all, l, ρx, K)) : Prop := midsP P cx tb all ds fl ρx l ρ σ K
def est1 (P : Program) (cx : Cx) (tb : Tb) (fl : Flt) (gc : Option Call) (op : Op) (d : Option Nat) (ns later : List Nat) (ρ : Env) (σ : Sto) (K : Env → Sto → Prop) (_ : Lk (op, ρ, σ, K)) : Prop := match gc with
 | some c => match bn ρ c with
  | some (f, args) => CallE P cx tb fl f args d ns later σ fun v σ' => K (putE ρ d v) σ'
  | none => False
 | none => fl = none ∧ ns = d.toList ∧ aeff tb ρ σ { dst := d, op := op, type := 0, pos := "", after := #[], guard := none } K
def estc (P : Program) (cx : Cx) (tb : Tb) (fl : Flt) (fa : Option (FuncId × List V)) (d : Option Nat) (ns later : List Nat) (ρ : Env) (σ : Sto) (K : Env → Sto → Prop) (_ : Lk (ρ, σ, K)) : Prop := match fa with
 | some (f, args) => CallE P cx tb fl f args d ns later σ fun v σ' => K (putE ρ d v) σ'
 | none => False
def CallEL (P : Program) (cx : Cx) (tb : Tb) (fl : Flt) (f : FuncId) (args : List V) (d : Option Nat) (ns later : List Nat) (ρ : Env) (σ : Sto) (K : Env → Sto → Prop) (_ : Lk (ρ, σ, K)) : Prop := CallE P cx tb fl f args d ns later σ fun v σ' => K (putE ρ d v) σ'
theorem est1_none {j} : est1 P cx tb fl none op d ns later ρ σ K j = (fl = none ∧ ns = d.toList ∧ f7 tb op d ρ σ K .mk) := by unfold est1 f7; exact rfl
theorem est1_some {c : Call} {j} : est1 P cx tb fl (some c) op d ns later ρ σ K j = estc P cx tb fl (bn ρ c) d ns later ρ σ K .mk := by unfold est1 estc; exact rfl
theorem estc_some {f : FuncId} {args : List V} {j} : estc P cx tb fl (some (f, args)) d ns later ρ σ K j = CallEL P cx tb fl f args d ns later ρ σ K .mk := by unfold estc CallEL; exact rfl
def lateD : List Oper → List Bool → List (Oper × Bool)
 | o :: l, b :: bs => (o, b) :: lateD l bs
 | _, _ => []
theorem lateD_eq : ∀ (l : List Oper) (bs : List Bool), l.zip bs = lateD l bs
 | [], _ => by simp [lateD]
 | _ :: _, [] => by simp [lateD]
 | o :: l, b :: bs => by rw [List.zip_cons_cons, lateD_eq l bs, lateD]
def lateL (P : Program) (cx : Cx) (tb : Tb) (all : List Oper) (ds : List Nat) (fl : Flt) (σ : Sto) (l : List (Oper × Bool)) (ρ : Env) (J : Env → Prop) (_ : Lk (all, l, σ, J)) : Prop := gD P cx tb all ds fl σ l ρ J
def late1 (P : Program) (cx : Cx) (tb : Tb) (all : List Oper) (ds : List Nat) (fl : Flt) (σ : Sto) (b la : Bool) (o : Oper) (l : List (Oper × Bool)) (ρ : Env) (J : Env → Prop) (_ : Lk (all, o, l, σ, J)) : Prop := match b with
 | true => fltE P cx tb fl o ρ ∧ gD P cx tb all ds fl σ l (putE ρ o.dst (flV fl)) J
 | false => dm all o.guard ρ (fun ρ => qstep P tb o ρ σ fun v => gD P cx tb all ds fl σ l (putE ρ o.dst (v.wipes (lw ds fl la))) J) (fun ρ => gD P cx tb all ds fl σ l (putE ρ o.dst (.tup [])) J)
theorem lateL_nil {j} : lateL P cx tb all ds fl σ [] ρ J j = J ρ := by unfold lateL; rw [gD]
theorem lateL_cons {ll : List (Oper × Bool)} {la : Bool} {j} : lateL P cx tb all ds fl σ ((o, la) :: ll) ρ J j = late1 P cx tb all ds fl σ (eN fl o.dst) la o ll ρ J .mk := by unfold lateL late1; rw [gD]; exact rfl
theorem late1_false {ll : List (Oper × Bool)} {la : Bool} {j} : late1 P cx tb all ds fl σ false la { dst := d, op := op, type := ty, pos := pos, after := af, guard := g } ll ρ J j =
  agL all g ρ (fun ρ => qstL P tb op ρ σ (fun v => lateL P cx tb all ds fl σ ll (putE ρ d (v.wipes (lw ds fl la))) J .mk) .mk) (fun ρ => lateL P cx tb all ds fl σ ll (putE ρ d (.tup [])) J .mk) .mk := by
 unfold late1 lateL agL
 simp only [qstep_L]
def rchkL (P : Program) (tb : Tb) (all : List Oper) (ds : List Nat) (ρx : Env) (σ : Sto) (us : List Oper) (X : Prop) (_ : Lk (all, us, ρx, σ, X)) : Prop := rchk P tb all ds ρx σ us X
theorem qopsFL_nil {j} : i1 P tb all ds σ [] ρ J j = J ρ := by unfold i1; rw [qopsF]
theorem qopsFL_cons {j} : i1 P tb all ds σ ({ dst := d, op := op, type := ty, pos := pos, after := af, guard := g } :: l) ρ J j =
  agL all g ρ (fun ρ => qstL P tb op ρ σ (fun v => i1 P tb all ds σ l (putE ρ d (v.wipes ds)) J .mk) .mk) (fun ρ => i1 P tb all ds σ l (putE ρ d (.tup [])) J .mk) .mk := by
 unfold i1 agL
 rw [qopsF]
 simp only [qstep_L]
theorem midsL_nil {j} : midsL P cx tb all ds fl ρx [] ρ σ K j = K ρ σ := by unfold midsL; rw [midsP]
theorem midsL_cons {j} : midsL P cx tb all ds fl ρx (({ dst := d, op := op, type := ty, pos := pos, after := af, guard := g }, us, ns) :: ml) ρ σ K j =
  agL all g ρ (fun ρ => est1 P cx tb fl (bQ op) op d ns (ml.flatMap (·.2.2) ++ flN fl) ρ σ (fun ρ σ => rchkL P tb all ds ρx σ us (midsL P cx tb all ds fl ρx ml ρ σ K .mk) .mk) .mk) (fun ρ => rchkL P tb all ds ρx σ us (midsL P cx tb all ds fl ρx ml (putE ρ d (.tup [])) σ K .mk) .mk) .mk := by
 unfold midsL rchkL est1 agL
 rw [midsP]
 exact rfl
theorem rchkL_nil {j} : rchkL P tb all ds ρx σ [] X j = X := by unfold rchkL; rw [rchk]
theorem rchkL_cons {j} : rchkL P tb all ds ρx σ ({ dst := d, op := op, type := ty, pos := pos, after := af, guard := g } :: us) X j =
  agL all g ρx (fun _ => qstL P tb op ρx σ (fun v => rchkd ds ρx d v ∧ rchkL P tb all ds ρx σ us X .mk) .mk) (fun _ => rchkL P tb all ds ρx σ us X .mk) .mk := by
 unfold rchkL agL
 rw [rchk]
 simp only [qstep_L]
theorem rchkd_some (ds : List Nat) (ρx : Env) (d : Nat) (v : V) : rchkd ds ρx (some d) v = (v.wipes ds = ρx d) := rfl
theorem fltT_none {l : List Oper} : fltT tb none l := fun _ _ h => by cases h
theorem sw_midc (ht : TbOk P tb) (hm : P.follows .mixedOrders = true) (x y nT A : Nat) (uss nss : List (List Nat)) (las : List Bool) (fl : Flt) {id : Nat} {l : List Oper}
  (hc : (e9 cx.n l && Region.lexB .any l.toArray && fm l.toArray x y nT A uss nss las fl) = true) (hf : fltT tb fl l)
  (h : i1 P tb l (nss.flatten ++ flN fl) (flI fl σ) (l.take x) (dr (nss.flatten ++ flN fl) ρ) (fun ρx => midsL P cx tb l (nss.flatten ++ flN fl) fl ρx (midsD l ((l.take y).drop x) uss nss) ρx (flI fl σ) (fun ρ σ => lateL P cx tb l (nss.flatten ++ flN fl) fl σ (lateD ((l.take nT).drop y) las) ρ (fun ρ => eO P cx tb l (l.drop nT) ρ (flS fl σ) (Q .normal) .mk) .mk) .mk) .mk) :
  Swp P cx (.region id l.toArray true) ρ σ Q := by
 simp only [Bool.and_eq_true] at hc
 unfold i1 midsL lateL eO at h
 rw [← midsD_eq] at h
 simp only [← lateD_eq] at h
 exact fun φ a w hs => draw_mids (ops := l.toArray) ht hc.1.1 hm hc.1.2 hc.2 (fun φ ρ σ a w hs hk => ⟨(fun _ h => by cases h), (fun h => by cases h), φ, ρ, σ, hs, hk⟩) hs rfl hf h
theorem sw_midcs (ht : TbOk P tb) (hm : P.follows .mixedOrders = true) (x y nT A : Nat) (uss nss : List (List Nat)) (las : List Bool) (fl : Flt) {id : Nat} {l : List Oper} {z : Code}
  (hc : (e9 cx.n l && Region.lexB .any l.toArray && fm l.toArray x y nT A uss nss las fl) = true) (hf : fltT tb fl l)
  (h : i1 P tb l (nss.flatten ++ flN fl) (flI fl σ) (l.take x) (dr (nss.flatten ++ flN fl) ρ) (fun ρx => midsL P cx tb l (nss.flatten ++ flN fl) fl ρx (midsD l ((l.take y).drop x) uss nss) ρx (flI fl σ) (fun ρ σ => lateL P cx tb l (nss.flatten ++ flN fl) fl σ (lateD ((l.take nT).drop y) las) ρ (fun ρ => eO P cx tb l (l.drop nT) ρ (flS fl σ) (fun ρ σ => Swp P cx z ρ σ Q) .mk) .mk) .mk) .mk) :
  Swp P cx (.seq (.region id l.toArray true) z) ρ σ Q := ae (sw_midc ht hm x y nT A uss nss las fl hc hf h)
end
theorem flI_none (σ : Sto) : flI none σ = σ := rfl
theorem flS_none (σ : Sto) : flS none σ = σ := rfl
theorem flN_none : flN none = [] := rfl
theorem flN_some (e : Nat) (cs : Ob) : flN (some (e, cs)) = [e] := rfl
theorem isFlt_none (d : Option Nat) : eN none d = false := by cases d <;> rfl
theorem lw_true (ds : List Nat) (fl : Flt) : lw ds fl true = flN fl := rfl
attribute [simp] lw_true flI_none flS_none flN_none flN_some isFlt_none lateL_nil lateL_cons late1_false est1_none est1_some estc_some qopsFL_nil qopsFL_cons midsL_nil midsL_cons rchkL_nil rchkL_cons rchkd_some wipes_nil gt wipesE_apply
end Go.AM
