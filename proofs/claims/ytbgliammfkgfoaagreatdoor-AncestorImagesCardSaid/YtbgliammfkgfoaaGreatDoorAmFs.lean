/- A region that draws its order, with effects in the midst: the rule for generated proofs. -/
import Derived.Test.YtbgliammfkgfoaaGreatDoorAmW
import Derived.Test.YtbgliammfkgfoaaGreatDoorAmFm
namespace Go.AM
open Go.RowKit
def pk:List Oper->Nat->List Oper
 | [],_=>[]
 | o::_,0=>[o]
 | _::l,n+1=>pk l n
def gp (l:List Oper):List Nat->List Oper
 | []=>[]
 | i::us=>pk l i++gp l us
def ef (l:List Oper):List Oper->List (List Nat)->List (List Nat)->List (Oper×List Oper×List Nat)
 | o::e,us::uss,ns::nss=>(o,gp l us,ns)::ef l e uss nss
 | _,_,_=>[]
theorem pk_eq:∀ (l:List Oper) (n:Nat),pk l n=(l[n]?).toList
 | [],n=>by simp[pk]
 | o::l,0=>by simp[pk]
 | o::l,n+1=>by rw[pk,pk_eq l n]; simp
theorem uopsD_eq (l:List Oper):∀ us:List Nat,uops l us=gp l us
 | []=>rfl
 | i::us=>by
  rw[gp,<- uopsD_eq l us,pk_eq]
  grind [uops]
theorem midsD_eq (l:List Oper):∀ (e:List Oper) (uss nss:List (List Nat)),e.zip ((uss.map (uops l)).zip nss)=ef l e uss nss
 | [],_,_=>by simp[ef]
 | _::_,[],_=>by simp[ef]
 | _::_,_::_,[]=>by simp[ef]
 | o::e,us::uss,ns::nss=>by rw[List.map_cons,List.zip_cons_cons,List.zip_cons_cons,midsD_eq l e uss nss,ef,uopsD_eq]
section
variable {P:Program} {cx:Cx} {tb:Tb} {all l:List Oper} {Z ρx:Env} {O:Sto} {K:Env->Sto->Prop} {o:Oper} {Q:Exit->Env->Sto->Prop} {c y:Code} {d:Option Nat} {op:Op}
 {ty:TypeId} {pos:String} {af:Array Edge} {g:Option (Nat×Bool)} {k:V->Prop} {J:Env->Prop} {ds:List Nat} {X:Prop} {us:List Oper} {ml:List (Oper×List Oper×List Nat)} {fl:Flt} {ns later:List Nat}
def lC (P:Program) (tb:Tb) (all:List Oper) (ds:List Nat) (O:Sto) (l:List Oper) (Z:Env) (J:Env->Prop) (_:Lk (all,l,O,J)):Prop:=qopsF P tb all ds O l Z J
def midsL (P:Program) (cx:Cx) (tb:Tb) (all:List Oper) (ds:List Nat) (fl:Flt) (ρx:Env) (l:List (Oper×List Oper×List Nat)) (Z:Env) (O:Sto) (K:Env->Sto->Prop) (_:Lk (all,l,ρx,K)):Prop:=midsP P cx tb all ds fl ρx l Z O K
def est1 (P:Program) (cx:Cx) (tb:Tb) (fl:Flt) (gc:Option Call) (op:Op) (d:Option Nat) (ns later:List Nat) (Z:Env) (O:Sto) (K:Env->Sto->Prop) (_:Lk (op,Z,O,K)):Prop:=match gc with
 | some c=>match cW Z c with
  | some (f,args)=>CallE P cx tb fl f args d ns later O fun v O'=>K (bQ Z d v) O'
  | none=>False
 | none=>match indep2 op with
  | true=>ns=[]/\estq (qev tb Z O op) later fun v=>K (bQ Z d v) O
  | false=>estp (preR tb Z O op d) fl d ns later K (flOk tb fl op d/\ns=d.toList/\fF tb Z O { dst:=d,op:=op,type:=0,pos := "",after:=#[],guard:=none } K)
def estc (P:Program) (cx:Cx) (tb:Tb) (fl:Flt) (fa:Option (FuncId×List V)) (d:Option Nat) (ns later:List Nat) (Z:Env) (O:Sto) (K:Env->Sto->Prop) (_:Lk (Z,O,K)):Prop:=match fa with
 | some (f,args)=>CallE P cx tb fl f args d ns later O fun v O'=>K (bQ Z d v) O'
 | none=>False
def CallEL (P:Program) (cx:Cx) (tb:Tb) (fl:Flt) (f:FuncId) (args:List V) (d:Option Nat) (ns later:List Nat) (Z:Env) (O:Sto) (K:Env->Sto->Prop) (_:Lk (Z,O,K)):Prop:=CallE P cx tb fl f args d ns later O fun v O'=>K (bQ Z d v) O'
def estpL (r:Option (Prop×Env×Sto)) (fl:Flt) (tb:Tb) (op:Op) (d:Option Nat) (ns later:List Nat) (Z:Env) (O:Sto) (K:Env->Sto->Prop) (_:Lk (op,Z,O,K)):Prop:=estp r fl d ns later K (flOk tb fl op d/\ns=d.toList/\lU tb op d Z O K .mk)
theorem estpL_none {j}:estpL none fl tb op d ns later Z O K j=(flOk tb fl op d/\ns=d.toList/\lU tb op d Z O K .mk):=by rfl
theorem estpL_some {p:Prop} {Z':Env} {O':Sto} {j}:estpL (some (p,Z',O')) fl tb op d ns later Z O K j=((fl=none/\ns=[]/\p/\∀ e∈later,(slotO d Z').wipe e=slotO d Z')/\K Z' O'):=by rfl
theorem slotO_some {d:Nat} {Z:Env}:slotO (some d) Z=Z d:=rfl
theorem est1_none (hi:indep2 op=false) (hp:preR tb Z O op d=none) {j}:est1 P cx tb fl none op d ns later Z O K j=(flOk tb fl op d/\ns=d.toList/\lU tb op d Z O K .mk):=by unfold est1 lU; rw[hi,hp]; rfl
theorem est1_alloc {t:TypeId} {j}:est1 P cx tb fl none (.alloc t) d ns later Z O K j=(flOk tb fl (.alloc t) d/\ns=d.toList/\lU tb (.alloc t) d Z O K .mk):=est1_none rfl rfl
theorem est1_store {t:TypeId} {x y:Operand} {j}:est1 P cx tb fl none (.store t x y) d ns later Z O K j=(flOk tb fl (.store t x y) d/\ns=d.toList/\lU tb (.store t x y) d Z O K .mk):=est1_none rfl rfl
theorem est1_call {c:Call} {j}:est1 P cx tb fl none (.call c) d ns later Z O K j=estpL (preR tb Z O (.call c) d) fl tb (.call c) d ns later Z O K .mk:=by unfold est1 estpL lU; rfl
theorem est1_makeMap {t:TypeId} {x:Option Operand} {j}:est1 P cx tb fl none (.makeMap t x) d ns later Z O K j=(flOk tb fl (.makeMap t x) d/\ns=d.toList/\lU tb (.makeMap t x) d Z O K .mk):=est1_none rfl rfl
theorem est1_some {c:Call} {j}:est1 P cx tb fl (some c) op d ns later Z O K j=estc P cx tb fl (cW Z c) d ns later Z O K .mk:=by rfl
theorem estc_some {f:FuncId} {args:List V} {j}:estc P cx tb fl (some (f,args)) d ns later Z O K j=CallEL P cx tb fl f args d ns later Z O K .mk:=by rfl
def eD:List Oper->List Bool->List (Oper×Bool)
 | o::l,b::bs=>(o,b)::eD l bs
 | _,_=>[]
theorem lateD_eq:∀ (l:List Oper) (bs:List Bool),l.zip bs=eD l bs
 | [],_=>by simp[eD]
 | _::_,[]=>by simp[eD]
 | o::l,b::bs=>by rw[List.zip_cons_cons,lateD_eq l bs,eD]
def fltA (P:Program) (cx:Cx) (tb:Tb) (fl:Flt) (op:Op) (d:Option Nat) (Z:Env) (X:Prop) (_:Lk (X,Z,op)):Prop:=match fl with
 | some (e,.row sz et rows)=>fltE1 P cx tb (cR op) d Z e sz et rows/\X
 | _=>X
theorem fltA_box {e:Nat} {cs:List C} {j}:fltA P cx tb (some (e,.box cs)) op d Z X j=X:=rfl
def nk (P:Program) (cx:Cx) (tb:Tb) (all:List Oper) (ds:List Nat) (fl:Flt) (O:Sto) (l:List (Oper×Bool)) (Z:Env) (J:Env->Prop) (_:Lk (all,l,O,J)):Prop:=np P cx tb all ds fl O l Z J
def late1 (P:Program) (cx:Cx) (tb:Tb) (all:List Oper) (ds:List Nat) (fl:Flt) (O:Sto) (b la:Bool) (o:Oper) (l:List (Oper×Bool)) (Z:Env) (J:Env->Prop) (_:Lk (all,o,l,O,J)):Prop:=match b with
 | true=>fltE P cx tb fl o Z/\np P cx tb all ds fl O l (bQ Z o.dst (flV fl)) J
 | false=>gI all o.guard Z (fun Z=>qstep P tb o Z O fun v=>np P cx tb all ds fl O l (bQ Z o.dst (v.wipes (lw ds fl la))) J) (fun Z=>np P cx tb all ds fl O l (bQ Z o.dst (.tup [])) J)
theorem lateL_nil {j}:nk P cx tb all ds fl O [] Z J j=J Z:=by rfl
theorem lateL_cons {ll:List (Oper×Bool)} {la:Bool} {j}:nk P cx tb all ds fl O ((o,la)::ll) Z J j=late1 P cx tb all ds fl O (iT fl o.dst) la o ll Z J .mk:=by rfl
theorem late1_true {ll:List (Oper×Bool)} {la:Bool} {j}:late1 P cx tb all ds fl O true la { dst:=d,op:=op,type:=ty,pos:=pos,after:=af,guard:=g } ll Z J j=fltA P cx tb fl op d Z (nk P cx tb all ds fl O ll (bQ Z d (flV fl)) J .mk) .mk:=by
 unfold late1 nk fltA fltE
 grind
theorem late1_false {ll:List (Oper×Bool)} {la:Bool} {j}:late1 P cx tb all ds fl O false la { dst:=d,op:=op,type:=ty,pos:=pos,after:=af,guard:=g } ll Z J j =
  agL all g Z (fun Z=>qstL P tb op Z O (fun v=>nk P cx tb all ds fl O ll (bQ Z d (v.wipes (lw ds fl la))) J .mk) .mk) (fun Z=>nk P cx tb all ds fl O ll (bQ Z d (.tup [])) J .mk) .mk:=by
 rfl
def rchkL (P:Program) (tb:Tb) (all:List Oper) (ds:List Nat) (ρx:Env) (O:Sto) (us:List Oper) (X:Prop) (_:Lk (all,us,ρx,O,X)):Prop:=rchk P tb all ds ρx O us X
theorem qopsFL_nil {j}:lC P tb all ds O [] Z J j=J Z:=by rfl
theorem qopsFL_cons {j}:lC P tb all ds O ({ dst:=d,op:=op,type:=ty,pos:=pos,after:=af,guard:=g }::l) Z J j =
  agL all g Z (fun Z=>qstL P tb op Z O (fun v=>lC P tb all ds O l (bQ Z d (v.wipes ds)) J .mk) .mk) (fun Z=>lC P tb all ds O l (bQ Z d (.tup [])) J .mk) .mk:=by
 rfl
theorem midsL_nil {j}:midsL P cx tb all ds fl ρx [] Z O K j=K Z O:=by rfl
theorem midsL_cons {j}:midsL P cx tb all ds fl ρx (({ dst:=d,op:=op,type:=ty,pos:=pos,after:=af,guard:=g },us,ns)::ml) Z O K j =
  agL all g Z (fun Z=>est1 P cx tb fl (cR op) op d ns (ml.flatMap (·.2.2)++flN fl) Z O (fun Z O=>rchkL P tb all ds ρx O us (midsL P cx tb all ds fl ρx ml Z O K .mk) .mk) .mk) (fun Z=>rchkL P tb all ds ρx O us (midsL P cx tb all ds fl ρx ml (bQ Z d (.tup [])) O K .mk) .mk) .mk:=by
 rfl
theorem rchkL_nil {j}:rchkL P tb all ds ρx O [] X j=X:=by rfl
theorem rchkL_cons {j}:rchkL P tb all ds ρx O ({ dst:=d,op:=op,type:=ty,pos:=pos,after:=af,guard:=g }::us) X j =
  agL all g ρx (fun _=>qstL P tb op ρx O (fun v=>rchkd ds ρx d v/\rchkL P tb all ds ρx O us X .mk) .mk) (fun _=>rchkL P tb all ds ρx O us X .mk) .mk:=by
 rfl
theorem rchkd_some (ds:List Nat) (ρx:Env) (d:Nat) (v:V):rchkd ds ρx (some d) v=(v.wipes ds=ρx d):=rfl
theorem cN {l:List Oper}:fltT tb none l:=fun _ _ h=>by cases h
theorem fltT_some {l:List Oper} {e:Nat} {cs:List C} (t:TypeId) (ti:TI) (h:l.all (fun o=>o.dst != some e || (match o.op with | .alloc u=>u == t | _=>false))=true) (h1:tb.ty t=some ti) (h2:jD ti.zu=cs) (h3:okZero ti=true) (h4:cs.map (C.wipe e)=cs):fltT tb (some (e,.box cs)) l:=by
 intro e' cs' he o ho hd
 cases he
 have:=List.all_eq_true.1 h o ho
 simp only[hd,bne_self_eq_false,Bool.false_or] at this
 split at this
 ·simp_all
 ·cases this
theorem oT (ht:TbOk P tb) (hm:P.follows .mixedOrders=true) (x y nT A:Nat) (uss nss:List (List Nat)) (las:List Bool) (fl:Flt) {id:Nat} {l:List Oper}
  (hc:(ga cx.n l && Region.lexB .any l.toArray && iy l.toArray x y nT A uss nss las fl)=true) (hf:fltT tb fl l)
  (h:lC P tb l (nss.flatten++flN fl) (flI fl O) (l.take x) (eM (nss.flatten++flN fl) Z) (fun ρx=>midsL P cx tb l (nss.flatten++flN fl) fl ρx (ef l ((l.take y).drop x) uss nss) ρx (flI fl O) (fun Z O=>nk P cx tb l (nss.flatten++flN fl) fl O (eD ((l.take nT).drop y) las) Z (fun Z=>i7 P cx tb l (l.drop nT) Z (flS fl O) (Q .normal) .mk) .mk) .mk) .mk) :
  Swp P cx (.region id l.toArray true) Z O Q:=by
 simp only[Bool.and_eq_true] at hc
 unfold lC midsL nk i7 at h
 rw[<- midsD_eq] at h
 simp only[<- lateD_eq] at h
 exact fun φ a w hs=>draw_mids (ops:=l.toArray) ht hc.1.1 hm hc.1.2 hc.2 (fun φ Z O a w hs hk=>⟨(fun _ h=>by cases h),(fun h=>by cases h),φ,Z,O,hs,hk⟩) hs rfl hf h
theorem gz (ht:TbOk P tb) (hm:P.follows .mixedOrders=true) (x y nT A:Nat) (uss nss:List (List Nat)) (las:List Bool) (fl:Flt) {id:Nat} {l:List Oper} {z:Code}
  (hc:(ga cx.n l && Region.lexB .any l.toArray && iy l.toArray x y nT A uss nss las fl)=true) (hf:fltT tb fl l)
  (h:lC P tb l (nss.flatten++flN fl) (flI fl O) (l.take x) (eM (nss.flatten++flN fl) Z) (fun ρx=>midsL P cx tb l (nss.flatten++flN fl) fl ρx (ef l ((l.take y).drop x) uss nss) ρx (flI fl O) (fun Z O=>nk P cx tb l (nss.flatten++flN fl) fl O (eD ((l.take nT).drop y) las) Z (fun Z=>i7 P cx tb l (l.drop nT) Z (flS fl O) (fun Z O=>Swp P cx z Z O Q) .mk) .mk) .mk) .mk) :
  Swp P cx (.seq (.region id l.toArray true) z) Z O Q:=ba (oT ht hm x y nT A uss nss las fl hc hf h)
end
theorem lenL_app {α:Type} (a b:List α):bf (a++b)=bf a+bf b:=by simp[bf]
theorem lenL_cons {α:Type} (a:α) (l:List α):bf (a::l)=bf l+1:=by simp[bf]
theorem lenL_nil {α:Type}:bf ([]:List α)=0:=rfl
theorem flOk_none (tb:Tb) (op:Op) (d:Option Nat):flOk tb none op d↔True:=by rfl
theorem flI_none (O:Sto):flI none O=O:=rfl
theorem flS_none (O:Sto):flS none O=O:=rfl
theorem flI_some (e:Nat) (cs:Ob) (O:Sto):flI (some (e,cs)) O=upd (bN e O) e (some (.row 1 0 [])):=rfl
theorem flS_some (e:Nat) (cs:Ob) (O:Sto):flS (some (e,cs)) O=upd O e (some cs):=rfl
theorem cO:flN none=[]:=rfl
theorem cP (e:Nat) (cs:Ob):flN (some (e,cs))=[e]:=rfl
theorem flV_some (e:Nat) (cs:List C):flV (some (e,.box cs))=.u (.one (.box e 0)):=rfl
theorem isFlt_none (d:Option Nat):iT none d=false:=by cases d<;>rfl
theorem isFlt_ss (e d:Nat) (cs:Ob):iT (some (e,cs)) (some d)=(d == e):=rfl
theorem lw_true (ds:List Nat) (fl:Flt):lw ds fl true=flN fl:=rfl
attribute [simp] estpL_none estpL_some slotO_some est1_alloc est1_store est1_call est1_makeMap flOk_none lw_true flI_none flS_none flI_some flS_some cO cP flV_some isFlt_none isFlt_ss lateL_nil lateL_cons fltA_box late1_true late1_false est1_some estc_some qopsFL_nil qopsFL_cons midsL_nil midsL_cons rchkL_nil rchkL_cons rchkd_some wipes_nil m8 wipesE_apply lenL_app lenL_cons lenL_nil
end Go.AM
