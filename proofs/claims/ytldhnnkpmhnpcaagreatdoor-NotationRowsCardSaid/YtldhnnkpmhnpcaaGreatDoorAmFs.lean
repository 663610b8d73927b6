/- A region that draws its order, with effects in the midst: the rule for generated proofs. -/
import Derived.Test.YtldhnnkpmhnpcaaGreatDoorAmW
import Derived.Test.YtldhnnkpmhnpcaaGreatDoorAmFm
namespace Go.AM
open Go.RowKit
def pk : List Oper → Nat → List Oper
 | [], _ => []
 | o :: _, 0 => [o]
 | _ :: l, n + 1 => pk l n
def uopsD (l : List Oper) : List Nat → List Oper
 | [] => []
 | i :: us => pk l i ++ uopsD l us
def dx (l : List Oper) : List Oper → List (List Nat) → List (List Nat) → List (Oper × List Oper × List Nat)
 | o :: e, us :: uss, ns :: nss => (o, uopsD l us, ns) :: dx l e uss nss
 | _, _, _ => []
theorem pk_eq : ∀ (l : List Oper) (n : Nat), pk l n = (l[n]?).toList
 | [], n => by simp [pk]
 | o :: l, 0 => by simp [pk]
 | o :: l, n + 1 => by rw [pk, pk_eq l n]; simp
theorem uopsD_eq (l : List Oper) : ∀ us : List Nat, uops l us = uopsD l us
 | [] => rfl
 | i :: us => by
  rw [uopsD, ← uopsD_eq l us, pk_eq]
  unfold uops
  rw [List.filterMap_cons]
  cases l[i]? <;> rfl
theorem midsD_eq (l : List Oper) : ∀ (e : List Oper) (uss nss : List (List Nat)), e.zip ((uss.map (uops l)).zip nss) = dx l e uss nss
 | [], _, _ => by simp [dx]
 | _ :: _, [], _ => by simp [dx]
 | _ :: _, _ :: _, [] => by simp [dx]
 | o :: e, us :: uss, ns :: nss => by rw [List.map_cons, List.zip_cons_cons, List.zip_cons_cons, midsD_eq l e uss nss, dx, uopsD_eq]
section
variable {P : Program} {cx : Cx} {tb : Tb} {all l : List Oper} {ρ ρx : Env} {σ : Sto} {K : Env → Sto → Prop} {o : Oper} {Q : Exit → Env → Sto → Prop} {c y : Code} {d : Option Nat} {op : Op}
 {ty : TypeId} {pos : String} {af : Array Edge} {g : Option (Nat × Bool)} {k : V → Prop} {J : Env → Prop} {ds : List Nat} {X : Prop} {us : List Oper} {ml : List (Oper × List Oper × List Nat)} {fl : Flt} {ns later : List Nat}
def ew (P : Program) (tb : Tb) (all : List Oper) (ds : List Nat) (σ : Sto) (l : List Oper) (ρ : Env) (J : Env → Prop) (_ : Lk (all, l, σ, J)) : Prop := qopsF P tb all ds σ l ρ J
def midsL (P : Program) (cx : Cx) (tb : Tb) (all : List Oper) (ds : List Nat) (fl : Flt) (ρx : Env) (l : List (Oper × List Oper × List Nat)) (ρ : Env) (σ : Sto) (K : Env → Sto → Prop) (_ : Lk (all, l, ρx, K)) : Prop := midsP P cx tb all ds fl ρx l ρ σ K
def est1 (P : Program) (cx : Cx) (tb : Tb) (fl : Flt) (gc : Option Call) (op : Op) (d : Option Nat) (ns later : List Nat) (ρ : Env) (σ : Sto) (K : Env → Sto → Prop) (_ : Lk (op, ρ, σ, K)) : Prop := match gc with
 | some c => match aS ρ c with
  | some (f, args) => CallE P cx tb fl f args d ns later σ fun v σ' => K (putE ρ d v) σ'
  | none => False
 | none => match indep2 op with
  | true => ns = [] ∧ estq (qev tb ρ σ op) later fun v => K (putE ρ d v) σ
  | false => flOk tb fl op d ∧ ns = d.toList ∧ aeff tb ρ σ { dst := d, op := op, type := 0, pos := "", after := #[], guard := none } K
def estc (P : Program) (cx : Cx) (tb : Tb) (fl : Flt) (fa : Option (FuncId × List V)) (d : Option Nat) (ns later : List Nat) (ρ : Env) (σ : Sto) (K : Env → Sto → Prop) (_ : Lk (ρ, σ, K)) : Prop := match fa with
 | some (f, args) => CallE P cx tb fl f args d ns later σ fun v σ' => K (putE ρ d v) σ'
 | none => False
def CallEL (P : Program) (cx : Cx) (tb : Tb) (fl : Flt) (f : FuncId) (args : List V) (d : Option Nat) (ns later : List Nat) (ρ : Env) (σ : Sto) (K : Env → Sto → Prop) (_ : Lk (ρ, σ, K)) : Prop := CallE P cx tb fl f args d ns later σ fun v σ' => K (putE ρ d v) σ'
theorem est1_none (hi : indep2 op = false) {j} : est1 P cx tb fl none op d ns later ρ σ K j = (flOk tb fl op d ∧ ns = d.toList ∧ ev tb op d ρ σ K .mk) := by unfold est1 ev; rw [hi]
theorem est1_store {t : TypeId} {x y : Operand} {j} : est1 P cx tb fl none (.store t x y) d ns later ρ σ K j = (flOk tb fl (.store t x y) d ∧ ns = d.toList ∧ ev tb (.store t x y) d ρ σ K .mk) := est1_none rfl
def estqL (o : Option V) (later : List Nat) (d : Option Nat) (ρ : Env) (σ : Sto) (K : Env → Sto → Prop) (_ : Lk (ρ, σ, K)) : Prop := estq o later fun v => K (putE ρ d v) σ
theorem estqL_some {v : V} {j} : estqL (some v) later d ρ σ K j = ((∀ e ∈ later, v.wipe e = v) ∧ K (putE ρ d v) σ) := rfl
theorem est1_some {c : Call} {j} : est1 P cx tb fl (some c) op d ns later ρ σ K j = estc P cx tb fl (aS ρ c) d ns later ρ σ K .mk := by unfold est1 estc; exact rfl
theorem estc_some {f : FuncId} {args : List V} {j} : estc P cx tb fl (some (f, args)) d ns later ρ σ K j = CallEL P cx tb fl f args d ns later ρ σ K .mk := by unfold estc CallEL; exact rfl
def dQ : List Oper → List Bool → List (Oper × Bool)
 | o :: l, b :: bs => (o, b) :: dQ l bs
 | _, _ => []
theorem lateD_eq : ∀ (l : List Oper) (bs : List Bool), l.zip bs = dQ l bs
 | [], _ => by simp [dQ]
 | _ :: _, [] => by simp [dQ]
 | o :: l, b :: bs => by rw [List.zip_cons_cons, lateD_eq l bs, dQ]
def fltG (P : Program) (cx : Cx) (tb : Tb) (f : FuncId) (args : List V) (e sz : Nat) (et : TypeId) (rows : List (List L)) (X : Prop) (_ : Lk X) : Prop := fltE3 P cx tb f args e sz et rows ∧ X
def fltD (P : Program) (cx : Cx) (tb : Tb) (fa : Option (FuncId × List V)) (e sz : Nat) (et : TypeId) (rows : List (List L)) (X : Prop) (_ : Lk X) : Prop := fltE2 P cx tb fa e sz et rows ∧ X
def fltB (P : Program) (cx : Cx) (tb : Tb) (gc : Option Call) (d : Option Nat) (ρ : Env) (e sz : Nat) (et : TypeId) (rows : List (List L)) (X : Prop) (_ : Lk (X, ρ)) : Prop := fltE1 P cx tb gc d ρ e sz et rows ∧ X
def fltA (P : Program) (cx : Cx) (tb : Tb) (fl : Flt) (op : Op) (d : Option Nat) (ρ : Env) (X : Prop) (_ : Lk (X, ρ, op)) : Prop := match fl with
 | some (e, .row sz et rows) => fltE1 P cx tb (aU op) d ρ e sz et rows ∧ X
 | _ => X
theorem fltA_box {e : Nat} {cs : List C} {j} : fltA P cx tb (some (e, .box cs)) op d ρ X j = X := rfl
theorem fltA_row {e sz : Nat} {et : TypeId} {rows : List (List L)} {j} : fltA P cx tb (some (e, .row sz et rows)) op d ρ X j = fltB P cx tb (aU op) d ρ e sz et rows X .mk := by unfold fltA fltB; exact rfl
theorem fltB_some {c : Call} {e sz : Nat} {et : TypeId} {rows : List (List L)} {j} : fltB P cx tb (some c) (some e) ρ e sz et rows X j = fltD P cx tb (aS ρ c) e sz et rows X .mk := by
 unfold fltB fltE1 fltD
 simp only [true_and]
theorem fltD_some {f : FuncId} {args : List V} {e sz : Nat} {et : TypeId} {rows : List (List L)} {j} : fltD P cx tb (some (f, args)) e sz et rows X j = fltG P cx tb f args e sz et rows X .mk := by unfold fltD fltG fltE2; exact rfl
def lateL (P : Program) (cx : Cx) (tb : Tb) (all : List Oper) (ds : List Nat) (fl : Flt) (σ : Sto) (l : List (Oper × Bool)) (ρ : Env) (J : Env → Prop) (_ : Lk (all, l, σ, J)) : Prop := dd P cx tb all ds fl σ l ρ J
def late1 (P : Program) (cx : Cx) (tb : Tb) (all : List Oper) (ds : List Nat) (fl : Flt) (σ : Sto) (b la : Bool) (o : Oper) (l : List (Oper × Bool)) (ρ : Env) (J : Env → Prop) (_ : Lk (all, o, l, σ, J)) : Prop := match b with
 | true => fltE P cx tb fl o ρ ∧ dd P cx tb all ds fl σ l (putE ρ o.dst (flV fl)) J
 | false => bA all o.guard ρ (fun ρ => qstep P tb o ρ σ fun v => dd P cx tb all ds fl σ l (putE ρ o.dst (v.wipes (lw ds fl la))) J) (fun ρ => dd P cx tb all ds fl σ l (putE ρ o.dst (.tup [])) J)
theorem lateL_nil {j} : lateL P cx tb all ds fl σ [] ρ J j = J ρ := by unfold lateL; rw [dd]
theorem lateL_cons {ll : List (Oper × Bool)} {la : Bool} {j} : lateL P cx tb all ds fl σ ((o, la) :: ll) ρ J j = late1 P cx tb all ds fl σ (bT fl o.dst) la o ll ρ J .mk := by unfold lateL late1; rw [dd]; exact rfl
theorem late1_true {ll : List (Oper × Bool)} {la : Bool} {j} : late1 P cx tb all ds fl σ true la { dst := d, op := op, type := ty, pos := pos, after := af, guard := g } ll ρ J j = fltA P cx tb fl op d ρ (lateL P cx tb all ds fl σ ll (putE ρ d (flV fl)) J .mk) .mk := by
 unfold late1 lateL fltA fltE
 rcases fl with _ | ⟨e, ob⟩
 ·exact true_and _
 ·cases ob <;> first | exact rfl | exact true_and _
theorem late1_false {ll : List (Oper × Bool)} {la : Bool} {j} : late1 P cx tb all ds fl σ false la { dst := d, op := op, type := ty, pos := pos, after := af, guard := g } ll ρ J j =
  agL all g ρ (fun ρ => qstL P tb op ρ σ (fun v => lateL P cx tb all ds fl σ ll (putE ρ d (v.wipes (lw ds fl la))) J .mk) .mk) (fun ρ => lateL P cx tb all ds fl σ ll (putE ρ d (.tup [])) J .mk) .mk := by
 unfold late1 lateL agL
 simp only [qstep_L]
def rchkL (P : Program) (tb : Tb) (all : List Oper) (ds : List Nat) (ρx : Env) (σ : Sto) (us : List Oper) (X : Prop) (_ : Lk (all, us, ρx, σ, X)) : Prop := rchk P tb all ds ρx σ us X
theorem qopsFL_nil {j} : ew P tb all ds σ [] ρ J j = J ρ := by unfold ew; rw [qopsF]
theorem qopsFL_cons {j} : ew P tb all ds σ ({ dst := d, op := op, type := ty, pos := pos, after := af, guard := g } :: l) ρ J j =
  agL all g ρ (fun ρ => qstL P tb op ρ σ (fun v => ew P tb all ds σ l (putE ρ d (v.wipes ds)) J .mk) .mk) (fun ρ => ew P tb all ds σ l (putE ρ d (.tup [])) J .mk) .mk := by
 unfold ew agL
 rw [qopsF]
 simp only [qstep_L]
theorem midsL_nil {j} : midsL P cx tb all ds fl ρx [] ρ σ K j = K ρ σ := by unfold midsL; rw [midsP]
theorem midsL_cons {j} : midsL P cx tb all ds fl ρx (({ dst := d, op := op, type := ty, pos := pos, after := af, guard := g }, us, ns) :: ml) ρ σ K j =
  agL all g ρ (fun ρ => est1 P cx tb fl (aU op) op d ns (ml.flatMap (·.2.2) ++ flN fl) ρ σ (fun ρ σ => rchkL P tb all ds ρx σ us (midsL P cx tb all ds fl ρx ml ρ σ K .mk) .mk) .mk) (fun ρ => rchkL P tb all ds ρx σ us (midsL P cx tb all ds fl ρx ml (putE ρ d (.tup [])) σ K .mk) .mk) .mk := by
 unfold midsL rchkL est1 agL
 rw [midsP]
 exact rfl
theorem rchkL_nil {j} : rchkL P tb all ds ρx σ [] X j = X := by unfold rchkL; rw [rchk]
theorem rchkL_cons {j} : rchkL P tb all ds ρx σ ({ dst := d, op := op, type := ty, pos := pos, after := af, guard := g } :: us) X j =
  agL all g ρx (fun _ => qstL P tb op ρx σ (fun v => rchkd ds ρx d v ∧ rchkL P tb all ds ρx σ us X .mk) .mk) (fun _ => rchkL P tb all ds ρx σ us X .mk) .mk := by
 unfold rchkL agL
 rw [rchk]
 simp only [qstep_L]
theorem rchkd_some (ds : List Nat) (ρx : Env) (d : Nat) (v : V) : rchkd ds ρx (some d) v = (v.wipes ds = ρx d) := rfl
theorem fltT_row {l : List Oper} {e sz : Nat} {et : TypeId} {rows : List (List L)} : fltT tb (some (e, .row sz et rows)) l := fun _ _ h => by cases h
theorem dY {l : List Oper} : fltT tb none l := fun _ _ h => by cases h
theorem fltT_some {l : List Oper} {e : Nat} {cs : List C} (t : TypeId) (ti : TI) (h : l.all (fun o => o.dst != some e || (match o.op with | .alloc u => u == t | _ => false)) = true) (h1 : tb.ty t = some ti) (h2 : acells ti.zu = cs) (h3 : okZero ti = true) (h4 : cs.map (C.wipe e) = cs) : fltT tb (some (e, .box cs)) l := by
 intro e' cs' he o ho hd
 cases he
 have := List.all_eq_true.1 h o ho
 simp only [hd, bne_self_eq_false, Bool.false_or] at this
 split at this
 ·rename_i u hu
  exact ⟨u, ti, hu, by rw [beq_iff_eq] at this; rw [this]; exact h1, h2, h3, h4⟩
 ·cases this
theorem sw_midc (ht : TbOk P tb) (hm : P.follows .mixedOrders = true) (x y nT A : Nat) (uss nss : List (List Nat)) (las : List Bool) (fl : Flt) {id : Nat} {l : List Oper}
  (hc : (bJ cx.n l && Region.lexB .any l.toArray && cp l.toArray x y nT A uss nss las fl) = true) (hf : fltT tb fl l)
  (h : ew P tb l (nss.flatten ++ flN fl) (flI fl σ) (l.take x) (bB (nss.flatten ++ flN fl) ρ) (fun ρx => midsL P cx tb l (nss.flatten ++ flN fl) fl ρx (dx l ((l.take y).drop x) uss nss) ρx (flI fl σ) (fun ρ σ => lateL P cx tb l (nss.flatten ++ flN fl) fl σ (dQ ((l.take nT).drop y) las) ρ (fun ρ => bY P cx tb l (l.drop nT) ρ (flS fl σ) (Q .normal) .mk) .mk) .mk) .mk) :
  Swp P cx (.region id l.toArray true) ρ σ Q := by
 simp only [Bool.and_eq_true] at hc
 unfold ew midsL lateL bY at h
 rw [← midsD_eq] at h
 simp only [← lateD_eq] at h
 exact fun φ a w hs => draw_mids (ops := l.toArray) ht hc.1.1 hm hc.1.2 hc.2 (fun φ ρ σ a w hs hk => ⟨(fun _ h => by cases h), (fun h => by cases h), φ, ρ, σ, hs, hk⟩) hs rfl hf h
theorem sw_midcs (ht : TbOk P tb) (hm : P.follows .mixedOrders = true) (x y nT A : Nat) (uss nss : List (List Nat)) (las : List Bool) (fl : Flt) {id : Nat} {l : List Oper} {z : Code}
  (hc : (bJ cx.n l && Region.lexB .any l.toArray && cp l.toArray x y nT A uss nss las fl) = true) (hf : fltT tb fl l)
  (h : ew P tb l (nss.flatten ++ flN fl) (flI fl σ) (l.take x) (bB (nss.flatten ++ flN fl) ρ) (fun ρx => midsL P cx tb l (nss.flatten ++ flN fl) fl ρx (dx l ((l.take y).drop x) uss nss) ρx (flI fl σ) (fun ρ σ => lateL P cx tb l (nss.flatten ++ flN fl) fl σ (dQ ((l.take nT).drop y) las) ρ (fun ρ => bY P cx tb l (l.drop nT) ρ (flS fl σ) (fun ρ σ => Swp P cx z ρ σ Q) .mk) .mk) .mk) .mk) :
  Swp P cx (.seq (.region id l.toArray true) z) ρ σ Q := ae (sw_midc ht hm x y nT A uss nss las fl hc hf h)
end
theorem lenL_app {α : Type} (a b : List α) : al (a ++ b) = al a + al b := by simp [al]
theorem lenL_cons {α : Type} (a : α) (l : List α) : al (a :: l) = al l + 1 := by simp [al]
theorem lenL_nil {α : Type} : al ([] : List α) = 0 := rfl
theorem flOk_none (tb : Tb) (op : Op) (d : Option Nat) : flOk tb none op d ↔ True := by unfold flOk; exact iff_of_true trivial trivial
def flZ (ti : Option TI) : Prop := match ti with
 | some ti => ∀ s, (acells ti.zu).map (C.wipe s) = acells ti.zu
 | none => False
theorem flZ_some (ti : TI) : flZ (some ti) = ∀ s, (acells ti.zu).map (C.wipe s) = acells ti.zu := rfl
theorem flOk_some (tb : Tb) (e : Nat) (cs : List C) (t : TypeId) (d : Option Nat) : flOk tb (some (e, .box cs)) (.alloc t) d ↔ (d ≠ some e ∧ (∀ s, cs.map (C.wipe s) = cs) ∧ flZ (tb.ty t)) := Iff.rfl
theorem flI_none (σ : Sto) : flI none σ = σ := rfl
theorem flS_none (σ : Sto) : flS none σ = σ := rfl
theorem flI_some (e : Nat) (cs : Ob) (σ : Sto) : flI (some (e, cs)) σ = upd (wipeS e σ) e (some (.row 1 0 [])) := rfl
theorem flS_some (e : Nat) (cs : Ob) (σ : Sto) : flS (some (e, cs)) σ = upd σ e (some cs) := rfl
theorem d3 : flN none = [] := rfl
theorem d8 (e : Nat) (cs : Ob) : flN (some (e, cs)) = [e] := rfl
theorem flV_some (e : Nat) (cs : List C) : flV (some (e, .box cs)) = .u (.one (.box e 0)) := rfl
theorem flV_row (e sz : Nat) (et : TypeId) (rows : List (List L)) : flV (some (e, .row sz et rows)) = .u (.one (.own e)) := rfl
theorem isFlt_none (d : Option Nat) : bT none d = false := by cases d <;> rfl
theorem isFlt_ss (e d : Nat) (cs : Ob) : bT (some (e, cs)) (some d) = (d == e) := rfl
theorem lw_true (ds : List Nat) (fl : Flt) : lw ds fl true = flN fl := rfl
theorem lw_false (ds : List Nat) (fl : Flt) : lw ds fl false = ds := rfl
attribute [simp] est1_store estqL_some flOk_none flOk_some flZ_some lw_true lw_false flI_none flS_none flI_some flS_some d3 d8 flV_some isFlt_none isFlt_ss lateL_nil lateL_cons fltA_box fltA_row fltB_some fltD_some flV_row late1_true late1_false est1_some estc_some qopsFL_nil qopsFL_cons midsL_nil midsL_cons rchkL_nil rchkL_cons rchkd_some wipes_nil dz wipesE_apply lenL_app lenL_cons lenL_nil
end Go.AM
