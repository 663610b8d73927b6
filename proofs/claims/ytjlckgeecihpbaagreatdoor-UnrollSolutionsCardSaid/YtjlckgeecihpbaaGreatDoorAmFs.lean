/- A region that draws its order, with effects in the midst: the rule for generated proofs. -/
import Derived.Test.YtjlckgeecihpbaaGreatDoorAmW
import Derived.Test.YtjlckgeecihpbaaGreatDoorAmFm
namespace Go.AM
open Go.RowKit
def pk:List Oper->Nat->List Oper
 | [],_=>[]
 | o::_,0=>[o]
 | _::l,n+1=>pk l n
def jl (l:List Oper):List Nat->List Oper
 | []=>[]
 | i::us=>pk l i++jl l us
def gz (l:List Oper):List Oper->List (List Nat)->List (List Nat)->List (Oper×List Oper×List Nat)
 | o::e,us::uss,ns::nss=>(o,jl l us,ns)::gz l e uss nss
 | _,_,_=>[]
theorem pk_eq:∀ (l:List Oper) (n:Nat),pk l n=(l[n]?).toList
 | [],n=>by simp[pk]
 | o::l,0=>by simp[pk]
 | o::l,n+1=>by rw[pk,pk_eq l n]; simp
theorem uopsD_eq (l:List Oper):∀ us:List Nat,uops l us=jl l us
 | []=>rfl
 | i::us=>by
  rw[jl,<- uopsD_eq l us,pk_eq]
  grind [uops]
theorem midsD_eq (l:List Oper):∀ (e:List Oper) (uss nss:List (List Nat)),e.zip ((uss.map (uops l)).zip nss)=gz l e uss nss
 | [],_,_=>by simp[gz]
 | _::_,[],_=>by simp[gz]
 | _::_,_::_,[]=>by simp[gz]
 | o::e,us::uss,ns::nss=>by rw[List.map_cons,List.zip_cons_cons,List.zip_cons_cons,midsD_eq l e uss nss,gz,uopsD_eq]
section
variable {P:Program} {cx:Cx} {tb:Tb} {all l:List Oper} {Z ρx:Env} {O:Sto} {K:Env->Sto->Prop} {o:Oper} {Q:Exit->Env->Sto->Prop} {c y:Code} {d:Option Nat} {op:Op}
 {ty:TypeId} {pos:String} {af:Array Edge} {g:Option (Nat×Bool)} {k:V->Prop} {J:Env->Prop} {ds:List Nat} {X:Prop} {us:List Oper} {ml:List (Oper×List Oper×List Nat)} {fl:Flt} {ns later:List Nat}
def oL (P:Program) (tb:Tb) (all:List Oper) (ds:List Nat) (O:Sto) (l:List Oper) (Z:Env) (J:Env->Prop) (_:Lk (all,l,O,J)):Prop:=qopsF P tb all ds O l Z J
def midsL (P:Program) (cx:Cx) (tb:Tb) (all:List Oper) (ds:List Nat) (fl:Flt) (ρx:Env) (l:List (Oper×List Oper×List Nat)) (Z:Env) (O:Sto) (K:Env->Sto->Prop) (_:Lk (all,l,ρx,K)):Prop:=midsP P cx tb all ds fl ρx l Z O K
def est1 (P:Program) (cx:Cx) (tb:Tb) (fl:Flt) (gc:Option Call) (op:Op) (d:Option Nat) (ns later:List Nat) (Z:Env) (O:Sto) (K:Env->Sto->Prop) (_:Lk (op,Z,O,K)):Prop:=match gc with
 | some c=>match dz Z c with
  | some (f,args)=>CallE P cx tb fl f args d ns later O fun v O'=>K (cb Z d v) O'
  | none=>False
 | none=>match indep2 op with
  | true=>ns=[]/\estq (qev tb Z O op) later fun v=>K (cb Z d v) O
  | false=>flOk tb fl op d/\ns=d.toList/\fF tb Z O { dst:=d,op:=op,type:=0,pos := "",after:=#[],guard:=none } K
def estc (P:Program) (cx:Cx) (tb:Tb) (fl:Flt) (fa:Option (FuncId×List V)) (d:Option Nat) (ns later:List Nat) (Z:Env) (O:Sto) (K:Env->Sto->Prop) (_:Lk (Z,O,K)):Prop:=match fa with
 | some (f,args)=>CallE P cx tb fl f args d ns later O fun v O'=>K (cb Z d v) O'
 | none=>False
def CallEL (P:Program) (cx:Cx) (tb:Tb) (fl:Flt) (f:FuncId) (args:List V) (d:Option Nat) (ns later:List Nat) (Z:Env) (O:Sto) (K:Env->Sto->Prop) (_:Lk (Z,O,K)):Prop:=CallE P cx tb fl f args d ns later O fun v O'=>K (cb Z d v) O'
theorem pc (hi:indep2 op=false) {j}:est1 P cx tb fl none op d ns later Z O K j=(flOk tb fl op d/\ns=d.toList/\o8 tb op d Z O K .mk):=by unfold est1 o8; rw[hi]
theorem est1_alloc {t:TypeId} {j}:est1 P cx tb fl none (.alloc t) d ns later Z O K j=(flOk tb fl (.alloc t) d/\ns=d.toList/\o8 tb (.alloc t) d Z O K .mk):=pc rfl
theorem est1_store {t:TypeId} {x y:Operand} {j}:est1 P cx tb fl none (.store t x y) d ns later Z O K j=(flOk tb fl (.store t x y) d/\ns=d.toList/\o8 tb (.store t x y) d Z O K .mk):=pc rfl
theorem est1_call {c:Call} {j}:est1 P cx tb fl none (.call c) d ns later Z O K j=(flOk tb fl (.call c) d/\ns=d.toList/\o8 tb (.call c) d Z O K .mk):=pc rfl
theorem est1_makeSlice {t:TypeId} {x y:Operand} {j}:est1 P cx tb fl none (.makeSlice t x y) d ns later Z O K j=(flOk tb fl (.makeSlice t x y) d/\ns=d.toList/\o8 tb (.makeSlice t x y) d Z O K .mk):=pc rfl
theorem est1_makeMap {t:TypeId} {x:Option Operand} {j}:est1 P cx tb fl none (.makeMap t x) d ns later Z O K j=(flOk tb fl (.makeMap t x) d/\ns=d.toList/\o8 tb (.makeMap t x) d Z O K .mk):=pc rfl
theorem est1_some {c:Call} {j}:est1 P cx tb fl (some c) op d ns later Z O K j=estc P cx tb fl (dz Z c) d ns later Z O K .mk:=by rfl
theorem estc_some {f:FuncId} {args:List V} {j}:estc P cx tb fl (some (f,args)) d ns later Z O K j=CallEL P cx tb fl f args d ns later Z O K .mk:=by rfl
def gP:List Oper->List Bool->List (Oper×Bool)
 | o::l,b::bs=>(o,b)::gP l bs
 | _,_=>[]
theorem lateD_eq:∀ (l:List Oper) (bs:List Bool),l.zip bs=gP l bs
 | [],_=>by simp[gP]
 | _::_,[]=>by simp[gP]
 | o::l,b::bs=>by rw[List.zip_cons_cons,lateD_eq l bs,gP]
def fltA (P:Program) (cx:Cx) (tb:Tb) (fl:Flt) (op:Op) (d:Option Nat) (Z:Env) (X:Prop) (_:Lk (X,Z,op)):Prop:=match fl with
 | some (e,.row sz et rows)=>fltE1 P cx tb (dP op) d Z e sz et rows/\X
 | _=>X
theorem fltA_box {e:Nat} {cs:List C} {j}:fltA P cx tb (some (e,.box cs)) op d Z X j=X:=rfl
def lateL (P:Program) (cx:Cx) (tb:Tb) (all:List Oper) (ds:List Nat) (fl:Flt) (O:Sto) (l:List (Oper×Bool)) (Z:Env) (J:Env->Prop) (_:Lk (all,l,O,J)):Prop:=oz P cx tb all ds fl O l Z J
def late1 (P:Program) (cx:Cx) (tb:Tb) (all:List Oper) (ds:List Nat) (fl:Flt) (O:Sto) (b la:Bool) (o:Oper) (l:List (Oper×Bool)) (Z:Env) (J:Env->Prop) (_:Lk (all,o,l,O,J)):Prop:=match b with
 | true=>fltE P cx tb fl o Z/\oz P cx tb all ds fl O l (cb Z o.dst (flV fl)) J
 | false=>iH all o.guard Z (fun Z=>qstep P tb o Z O fun v=>oz P cx tb all ds fl O l (cb Z o.dst (v.wipes (lw ds fl la))) J) (fun Z=>oz P cx tb all ds fl O l (cb Z o.dst (.tup [])) J)
theorem lateL_nil {j}:lateL P cx tb all ds fl O [] Z J j=J Z:=by rfl
theorem lateL_cons {ll:List (Oper×Bool)} {la:Bool} {j}:lateL P cx tb all ds fl O ((o,la)::ll) Z J j=late1 P cx tb all ds fl O (jV fl o.dst) la o ll Z J .mk:=by rfl
theorem late1_true {ll:List (Oper×Bool)} {la:Bool} {j}:late1 P cx tb all ds fl O true la { dst:=d,op:=op,type:=ty,pos:=pos,after:=af,guard:=g } ll Z J j=fltA P cx tb fl op d Z (lateL P cx tb all ds fl O ll (cb Z d (flV fl)) J .mk) .mk:=by
 unfold late1 lateL fltA fltE
 grind
theorem late1_false {ll:List (Oper×Bool)} {la:Bool} {j}:late1 P cx tb all ds fl O false la { dst:=d,op:=op,type:=ty,pos:=pos,after:=af,guard:=g } ll Z J j =
  agL all g Z (fun Z=>qstL P tb op Z O (fun v=>lateL P cx tb all ds fl O ll (cb Z d (v.wipes (lw ds fl la))) J .mk) .mk) (fun Z=>lateL P cx tb all ds fl O ll (cb Z d (.tup [])) J .mk) .mk:=by
 rfl
def rchkL (P:Program) (tb:Tb) (all:List Oper) (ds:List Nat) (ρx:Env) (O:Sto) (us:List Oper) (X:Prop) (_:Lk (all,us,ρx,O,X)):Prop:=rchk P tb all ds ρx O us X
theorem qopsFL_nil {j}:oL P tb all ds O [] Z J j=J Z:=by rfl
theorem qopsFL_cons {j}:oL P tb all ds O ({ dst:=d,op:=op,type:=ty,pos:=pos,after:=af,guard:=g }::l) Z J j =
  agL all g Z (fun Z=>qstL P tb op Z O (fun v=>oL P tb all ds O l (cb Z d (v.wipes ds)) J .mk) .mk) (fun Z=>oL P tb all ds O l (cb Z d (.tup [])) J .mk) .mk:=by
 rfl
theorem midsL_nil {j}:midsL P cx tb all ds fl ρx [] Z O K j=K Z O:=by rfl
theorem midsL_cons {j}:midsL P cx tb all ds fl ρx (({ dst:=d,op:=op,type:=ty,pos:=pos,after:=af,guard:=g },us,ns)::ml) Z O K j =
  agL all g Z (fun Z=>est1 P cx tb fl (dP op) op d ns (ml.flatMap (·.2.2)++flN fl) Z O (fun Z O=>rchkL P tb all ds ρx O us (midsL P cx tb all ds fl ρx ml Z O K .mk) .mk) .mk) (fun Z=>rchkL P tb all ds ρx O us (midsL P cx tb all ds fl ρx ml (cb Z d (.tup [])) O K .mk) .mk) .mk:=by
 rfl
theorem rchkL_nil {j}:rchkL P tb all ds ρx O [] X j=X:=by rfl
theorem rchkL_cons {j}:rchkL P tb all ds ρx O ({ dst:=d,op:=op,type:=ty,pos:=pos,after:=af,guard:=g }::us) X j =
  agL all g ρx (fun _=>qstL P tb op ρx O (fun v=>rchkd ds ρx d v/\rchkL P tb all ds ρx O us X .mk) .mk) (fun _=>rchkL P tb all ds ρx O us X .mk) .mk:=by
 rfl
theorem rchkd_some (ds:List Nat) (ρx:Env) (d:Nat) (v:V):rchkd ds ρx (some d) v=(v.wipes ds=ρx d):=rfl
theorem ep {l:List Oper}:fltT tb none l:=fun _ _ h=>by cases h
theorem fltT_some {l:List Oper} {e:Nat} {cs:List C} (t:TypeId) (ti:TI) (h:l.all (fun o=>o.dst != some e || (match o.op with | .alloc u=>u == t | _=>false))=true) (h1:tb.ty t=some ti) (h2:iG ti.zu=cs) (h3:okZero ti=true) (h4:cs.map (C.wipe e)=cs):fltT tb (some (e,.box cs)) l:=by
 intro e' cs' he o ho hd
 cases he
 have:=List.all_eq_true.1 h o ho
 simp only[hd,bne_self_eq_false,Bool.false_or] at this
 split at this
 ·simp_all
 ·cases this
theorem sw_midc (ht:TbOk P tb) (hm:P.follows .mixedOrders=true) (x y nT A:Nat) (uss nss:List (List Nat)) (las:List Bool) (fl:Flt) {id:Nat} {l:List Oper}
  (hc:(io cx.n l && Region.lexB .any l.toArray && jU l.toArray x y nT A uss nss las fl)=true) (hf:fltT tb fl l)
  (h:oL P tb l (nss.flatten++flN fl) (flI fl O) (l.take x) (gf (nss.flatten++flN fl) Z) (fun ρx=>midsL P cx tb l (nss.flatten++flN fl) fl ρx (gz l ((l.take y).drop x) uss nss) ρx (flI fl O) (fun Z O=>lateL P cx tb l (nss.flatten++flN fl) fl O (gP ((l.take nT).drop y) las) Z (fun Z=>jT P cx tb l (l.drop nT) Z (flS fl O) (Q .normal) .mk) .mk) .mk) .mk) :
  Swp P cx (.region id l.toArray true) Z O Q:=by
 simp only[Bool.and_eq_true] at hc
 unfold oL midsL lateL jT at h
 rw[<- midsD_eq] at h
 simp only[<- lateD_eq] at h
 exact fun φ a w hs=>draw_mids (ops:=l.toArray) ht hc.1.1 hm hc.1.2 hc.2 (fun φ Z O a w hs hk=>⟨(fun _ h=>by cases h),(fun h=>by cases h),φ,Z,O,hs,hk⟩) hs rfl hf h
theorem ja (ht:TbOk P tb) (hm:P.follows .mixedOrders=true) (x y nT A:Nat) (uss nss:List (List Nat)) (las:List Bool) (fl:Flt) {id:Nat} {l:List Oper} {z:Code}
  (hc:(io cx.n l && Region.lexB .any l.toArray && jU l.toArray x y nT A uss nss las fl)=true) (hf:fltT tb fl l)
  (h:oL P tb l (nss.flatten++flN fl) (flI fl O) (l.take x) (gf (nss.flatten++flN fl) Z) (fun ρx=>midsL P cx tb l (nss.flatten++flN fl) fl ρx (gz l ((l.take y).drop x) uss nss) ρx (flI fl O) (fun Z O=>lateL P cx tb l (nss.flatten++flN fl) fl O (gP ((l.take nT).drop y) las) Z (fun Z=>jT P cx tb l (l.drop nT) Z (flS fl O) (fun Z O=>Swp P cx z Z O Q) .mk) .mk) .mk) .mk) :
  Swp P cx (.seq (.region id l.toArray true) z) Z O Q:=aZ (sw_midc ht hm x y nT A uss nss las fl hc hf h)
end
theorem lenL_app {α:Type} (a b:List α):b8 (a++b)=b8 a+b8 b:=by simp[b8]
theorem lenL_cons {α:Type} (a:α) (l:List α):b8 (a::l)=b8 l+1:=by simp[b8]
theorem lenL_nil {α:Type}:b8 ([]:List α)=0:=rfl
theorem flOk_none (tb:Tb) (op:Op) (d:Option Nat):flOk tb none op d↔True:=by rfl
def flZ (ti:Option TI):Prop:=match ti with
 | some ti=>∀ s,(iG ti.zu).map (C.wipe s)=iG ti.zu
 | none=>False
theorem flZ_some (ti:TI):flZ (some ti)=∀ s,(iG ti.zu).map (C.wipe s)=iG ti.zu:=rfl
theorem flOk_some (tb:Tb) (e:Nat) (cs:List C) (t:TypeId) (d:Option Nat):flOk tb (some (e,.box cs)) (.alloc t) d↔(d≠some e/\(∀ s,cs.map (C.wipe s)=cs)/\flZ (tb.ty t)):=Iff.rfl
theorem flI_none (O:Sto):flI none O=O:=rfl
theorem flS_none (O:Sto):flS none O=O:=rfl
theorem flI_some (e:Nat) (cs:Ob) (O:Sto):flI (some (e,cs)) O=upd (cj e O) e (some (.row 1 0 [])):=rfl
theorem flS_some (e:Nat) (cs:Ob) (O:Sto):flS (some (e,cs)) O=upd O e (some cs):=rfl
theorem dY:flN none=[]:=rfl
theorem dW (e:Nat) (cs:Ob):flN (some (e,cs))=[e]:=rfl
theorem flV_some (e:Nat) (cs:List C):flV (some (e,.box cs))=.u (.one (.box e 0)):=rfl
theorem isFlt_none (d:Option Nat):jV none d=false:=by cases d<;>rfl
theorem isFlt_ss (e d:Nat) (cs:Ob):jV (some (e,cs)) (some d)=(d == e):=rfl
theorem lw_true (ds:List Nat) (fl:Flt):lw ds fl true=flN fl:=rfl
attribute [simp] est1_alloc est1_store est1_call est1_makeSlice est1_makeMap flOk_none flOk_some flZ_some lw_true flI_none flS_none flI_some flS_some dY dW flV_some isFlt_none isFlt_ss lateL_nil lateL_cons fltA_box late1_true late1_false est1_some estc_some qopsFL_nil qopsFL_cons midsL_nil midsL_cons rchkL_nil rchkL_cons rchkd_some wipes_nil nU wipesE_apply lenL_app lenL_cons lenL_nil
end Go.AM
