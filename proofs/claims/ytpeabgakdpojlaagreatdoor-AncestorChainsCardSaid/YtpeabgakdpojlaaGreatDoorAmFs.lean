/- Lemmas for the law. -/
import Derived.Test.YtpeabgakdpojlaaGreatDoorAmW
import Derived.Test.YtpeabgakdpojlaaGreatDoorAmFm
namespace Go.AM
open Go.RowKit
def pk:A6->Nat->A6|[],_=>[]|o::_,0=>[o]|_::l,n+1=>pk l n
def iz (l:A6):A5->A6|[]=>[]|i::us=>pk l i++iz l us
def fP (l:A6):A6->List A5->List A5->List (Oper×A6×A5)|o::e,us::uss,ns::nss=>(o,iz l us,ns)::fP l e uss nss|_,_,_=>[]
theorem pk_eq:∀(l:A6) (n:Nat),pk l n=(l[n]?).toList|[],n=>by simp[pk]|o::l,0=>by simp[pk]|o::l,n+1=>by rw[pk,pk_eq l n];simp
theorem uopsD_eq (l:A6):∀us:A5,uops l us=iz l us|[]=>rfl|i::us=>by rw[iz,<- uopsD_eq l us,pk_eq];grind[uops]
theorem midsD_eq (l:A6):∀(e:A6) (uss nss:List A5),e.zip ((uss.map (uops l)).zip nss)=fP l e uss nss|[],_,_=>by simp[fP]|_::_,[],_=>by simp[fP]|_::_,_::_,[]=>by simp[fP]|o::e,us::uss,ns::nss=>by rw[List.map_cons,List.zip_cons_cons,List.zip_cons_cons,midsD_eq l e uss nss,fP,uopsD_eq]
section
variable {P:Program} {cx:Cx} {tb:Tb} {all l:A6} {Z ρx:Env} {O:Sto} {K:A3} {o:Oper} {Q:Aa} {c y:Code} {d:Ac} {op:Op} {ty:TypeId} {pos:String} {af:Array Edge} {g:Aw} {k:Az} {Ja:Aq} {ds:A5} {X:Prop} {us:A6} {ml:List (Oper×A6×A5)} {fl:Flt} {ns later:A5}
def pq (P:Program) (tb:Tb) (all:A6) (ds:A5) (O:Sto) (l:A6) (Z:Env) (Ja:Aq) (_:Lk (all,l,O,Ja)):Prop:=qopsF P tb all ds O l Z Ja
def midsL (P:Program) (cx:Cx) (tb:Tb) (all:A6) (ds:A5) (fl:Flt) (ρx:Env) (l:List (Oper×A6×A5)) (Z:Env) (O:Sto) (K:A3) (_:Lk (all,l,ρx,K)):Prop:=midsP P cx tb all ds fl ρx l Z O K
def est1 (P:Program) (cx:Cx) (tb:Tb) (fl:Flt) (gc:Option Call) (op:Op) (d:Ac) (ns later:A5) (Z:Env) (O:Sto) (K:A3) (_:Lk (op,Z,O,K)):Prop:=match gc with
 |some c=>match eE Z c with
  |some (f,args)=>CallE P cx tb fl f args d ns later O λv O'=>K (cK Z d v) O'|none=>False
 |none=>match indep2 op with
  |true=>ns=[]/\estq (qev tb Z O op) later λv=>K (cK Z d v) O|false=>estp (preR tb Z O op d) fl d ns later K (flOk tb fl op d/\ns=d.toList/\jr tb Z O { dst:=d,op:=op,type:=0,pos := "",after:=#[],guard:=none } K)
def estc (P:Program) (cx:Cx) (tb:Tb) (fl:Flt) (fa:Option (FuncId×Ao)) (d:Ac) (ns later:A5) (Z:Env) (O:Sto) (K:A3) (_:Lk (Z,O,K)):Prop:=match fa with|some (f,args)=>CallE P cx tb fl f args d ns later O λv O'=>K (cK Z d v) O'|none=>False
def CallEL (P:Program) (cx:Cx) (tb:Tb) (fl:Flt) (f:FuncId) (args:Ao) (d:Ac) (ns later:A5) (Z:Env) (O:Sto) (K:A3) (_:Lk (Z,O,K)):Prop:=CallE P cx tb fl f args d ns later O λv O'=>K (cK Z d v) O'
def estpL (r:Ae) (fl:Flt) (tb:Tb) (op:Op) (d:Ac) (ns later:A5) (Z:Env) (O:Sto) (K:A3) (_:Lk (op,Z,O,K)):Prop:=estp r fl d ns later K (flOk tb fl op d/\ns=d.toList/\pm tb op d Z O K .mk)
theorem estpL_none {j}:estpL none fl tb op d ns later Z O K j=(flOk tb fl op d/\ns=d.toList/\pm tb op d Z O K .mk):=by rfl
theorem estpL_some {p:Prop} {Z':Env} {O':Sto} {j}:estpL (some (p,Z',O')) fl tb op d ns later Z O K j=((fl=none/\ns=[]/\p/\∀e∈later,(slotO d Z').wipe e=slotO d Z')/\K Z' O'):=by rfl
theorem slotO_some {d:Nat} {Z:Env}:slotO (some d) Z=Z d:=rfl
theorem est1_none (hi:indep2 op=false) (hp:preR tb Z O op d=none) {j}:est1 P cx tb fl none op d ns later Z O K j=(flOk tb fl op d/\ns=d.toList/\pm tb op d Z O K .mk):=by unfold est1 pm;rw[hi,hp];rfl
theorem est1_alloc {t:TypeId} {j}:est1 P cx tb fl none (.alloc t) d ns later Z O K j=(flOk tb fl (.alloc t) d/\ns=d.toList/\pm tb (.alloc t) d Z O K .mk):=est1_none rfl rfl
theorem est1_store {t:TypeId} {x y:Operand} {j}:est1 P cx tb fl none (.store t x y) d ns later Z O K j=(flOk tb fl (.store t x y) d/\ns=d.toList/\pm tb (.store t x y) d Z O K .mk):=est1_none rfl rfl
theorem est1_call {c:Call} {j}:est1 P cx tb fl none (.call c) d ns later Z O K j=estpL (preR tb Z O (.call c) d) fl tb (.call c) d ns later Z O K .mk:=by unfold est1 estpL pm;rfl
theorem est1_makeSlice {t:TypeId} {x y:Operand} {j}:est1 P cx tb fl none (.makeSlice t x y) d ns later Z O K j=(flOk tb fl (.makeSlice t x y) d/\ns=d.toList/\pm tb (.makeSlice t x y) d Z O K .mk):=est1_none rfl rfl
theorem est1_makeMap {t:TypeId} {x:Option Operand} {j}:est1 P cx tb fl none (.makeMap t x) d ns later Z O K j=(flOk tb fl (.makeMap t x) d/\ns=d.toList/\pm tb (.makeMap t x) d Z O K .mk):=est1_none rfl rfl
theorem est1_some {c:Call} {j}:est1 P cx tb fl (some c) op d ns later Z O K j=estc P cx tb fl (eE Z c) d ns later Z O K .mk:=by rfl
theorem estc_some {f:FuncId} {args:Ao} {j}:estc P cx tb fl (some (f,args)) d ns later Z O K j=CallEL P cx tb fl f args d ns later Z O K .mk:=by rfl
def gb:A6->Ag->AC|o::l,b::bs=>(o,b)::gb l bs|_,_=>[]
theorem lateD_eq:∀(l:A6) (bs:Ag),l.zip bs=gb l bs|[],_=>by simp[gb]|_::_,[]=>by simp[gb]|o::l,b::bs=>by rw[List.zip_cons_cons,lateD_eq l bs,gb]
def fltA (P:Program) (cx:Cx) (tb:Tb) (fl:Flt) (op:Op) (d:Ac) (Z:Env) (X:Prop) (_:Lk (X,Z,op)):Prop:=match fl with|some (e,.row sz et rows)=>fltE1 P cx tb (ep op) d Z e sz et rows/\X|_=>X
theorem fltA_box {e:Nat} {cs:As} {j}:fltA P cx tb (some (e,.box cs)) op d Z X j=X:=rfl
def sd (P:Program) (cx:Cx) (tb:Tb) (all:A6) (ds:A5) (fl:Flt) (O:Sto) (l:AC) (Z:Env) (Ja:Aq) (_:Lk (all,l,O,Ja)):Prop:=s9 P cx tb all ds fl O l Z Ja
def late1 (P:Program) (cx:Cx) (tb:Tb) (all:A6) (ds:A5) (fl:Flt) (O:Sto) (b la:Bool) (o:Oper) (l:AC) (Z:Env) (Ja:Aq) (_:Lk (all,o,l,O,Ja)):Prop:=match b with|true=>fltE P cx tb fl o Z/\s9 P cx tb all ds fl O l (cK Z o.dst (flV fl)) Ja|false=>lf all o.guard Z (λZ=>qstep P tb o Z O λv=>s9 P cx tb all ds fl O l (cK Z o.dst (v.wipes (lw ds fl la))) Ja) (λZ=>s9 P cx tb all ds fl O l (cK Z o.dst (.tup [])) Ja)
theorem lateL_nil {j}:sd P cx tb all ds fl O [] Z Ja j=Ja Z:=by rfl
theorem lateL_cons {ll:AC} {la:Bool} {j}:sd P cx tb all ds fl O ((o,la)::ll) Z Ja j=late1 P cx tb all ds fl O (mA fl o.dst) la o ll Z Ja .mk:=by rfl
theorem late1_true {ll:AC} {la:Bool} {j}:late1 P cx tb all ds fl O true la { dst:=d,op:=op,type:=ty,pos:=pos,after:=af,guard:=g } ll Z Ja j=fltA P cx tb fl op d Z (sd P cx tb all ds fl O ll (cK Z d (flV fl)) Ja .mk) .mk:=by unfold late1 sd fltA fltE;grind
theorem late1_false {ll:AC} {la:Bool} {j}:late1 P cx tb all ds fl O false la { dst:=d,op:=op,type:=ty,pos:=pos,after:=af,guard:=g } ll Z Ja j =
  agL all g Z (λZ=>qstL P tb op Z O (λv=>sd P cx tb all ds fl O ll (cK Z d (v.wipes (lw ds fl la))) Ja .mk) .mk) (λZ=>sd P cx tb all ds fl O ll (cK Z d (.tup [])) Ja .mk) .mk:=by rfl
def rchkL (P:Program) (tb:Tb) (all:A6) (ds:A5) (ρx:Env) (O:Sto) (us:A6) (X:Prop) (_:Lk (all,us,ρx,O,X)):Prop:=rchk P tb all ds ρx O us X
theorem qopsFL_nil {j}:pq P tb all ds O [] Z Ja j=Ja Z:=by rfl
theorem qopsFL_cons {j}:pq P tb all ds O ({ dst:=d,op:=op,type:=ty,pos:=pos,after:=af,guard:=g }::l) Z Ja j =
  agL all g Z (λZ=>qstL P tb op Z O (λv=>pq P tb all ds O l (cK Z d (v.wipes ds)) Ja .mk) .mk) (λZ=>pq P tb all ds O l (cK Z d (.tup [])) Ja .mk) .mk:=by rfl
theorem midsL_nil {j}:midsL P cx tb all ds fl ρx [] Z O K j=K Z O:=by rfl
theorem midsL_cons {j}:midsL P cx tb all ds fl ρx (({ dst:=d,op:=op,type:=ty,pos:=pos,after:=af,guard:=g },us,ns)::ml) Z O K j =
  agL all g Z (λZ=>est1 P cx tb fl (ep op) op d ns (ml.flatMap (·.2.2)++flN fl) Z O (λZ O=>rchkL P tb all ds ρx O us (midsL P cx tb all ds fl ρx ml Z O K .mk) .mk) .mk) (λZ=>rchkL P tb all ds ρx O us (midsL P cx tb all ds fl ρx ml (cK Z d (.tup [])) O K .mk) .mk) .mk:=by rfl
theorem rchkL_nil {j}:rchkL P tb all ds ρx O [] X j=X:=by rfl
theorem rchkL_cons {j}:rchkL P tb all ds ρx O ({ dst:=d,op:=op,type:=ty,pos:=pos,after:=af,guard:=g }::us) X j =
  agL all g ρx (λ_=>qstL P tb op ρx O (λv=>rchkd ds ρx d v/\rchkL P tb all ds ρx O us X .mk) .mk) (λ_=>rchkL P tb all ds ρx O us X .mk) .mk:=by rfl
theorem rchkd_some (ds:A5) (ρx:Env) (d:Nat) (v:V):rchkd ds ρx (some d) v=(v.wipes ds=ρx d):=rfl
theorem da {l:A6}:fltT tb none l:=λ_ _ h=>by cases h
theorem fltT_some {l:A6} {e:Nat} {cs:As} (t:TypeId) (ti:TI) (h:l.all (λo=>o.dst != some e||(match o.op with|.alloc u=>u==t|_=>false))=true) (h1:tb.ty t=some ti) (h2:nh ti.zu=cs) (h3:okZero ti=true) (h4:cs.map (C.wipe e)=cs):fltT tb (some (e,.box cs)) l:=by intro e' cs' he o ho hd;cases he;have:=List.all_eq_true.1 h o ho;simp only[hd,bne_self_eq_false,Bool.false_or] at this;split at this;{simp_all};{cases this}
theorem s7 (ht:TbOk P tb) (hm:P.follows .mixedOrders=true) (x y nT A:Nat) (uss nss:List A5) (las:Ag) (fl:Flt) {id:Nat} {l:A6} (hc:(kl cx.n l&&Region.lexB .any l.toArray&&mb l.toArray x y nT A uss nss las fl)=true) (hf:fltT tb fl l) (h:pq P tb l (nss.flatten++flN fl) (flI fl O) (l.take x) (iy (nss.flatten++flN fl) Z) (λρx=>midsL P cx tb l (nss.flatten++flN fl) fl ρx (fP l ((l.take y).drop x) uss nss) ρx (flI fl O) (λZ O=>sd P cx tb l (nss.flatten++flN fl) fl O (gb ((l.take nT).drop y) las) Z (λZ=>lP P cx tb l (l.drop nT) Z (flS fl O) (Q .normal) .mk) .mk) .mk) .mk) :
  Swp P cx (.region id l.toArray true) Z O Q:=by simp only[Bool.and_eq_true] at hc;unfold pq midsL sd lP at h;rw[<- midsD_eq] at h;simp only[<- lateD_eq] at h;exact λE a w hs=>draw_mids (ops:=l.toArray) ht hc.1.1 hm hc.1.2 hc.2 (λE Z O a w hs hk=>⟨(λ_ h=>by cases h),(λh=>by cases h),E,Z,O,hs,hk⟩) hs rfl hf h
theorem gC (ht:TbOk P tb) (hm:P.follows .mixedOrders=true) (x y nT A:Nat) (uss nss:List A5) (las:Ag) (fl:Flt) {id:Nat} {l:A6} {z:Code} (hc:(kl cx.n l&&Region.lexB .any l.toArray&&mb l.toArray x y nT A uss nss las fl)=true) (hf:fltT tb fl l) (h:pq P tb l (nss.flatten++flN fl) (flI fl O) (l.take x) (iy (nss.flatten++flN fl) Z) (λρx=>midsL P cx tb l (nss.flatten++flN fl) fl ρx (fP l ((l.take y).drop x) uss nss) ρx (flI fl O) (λZ O=>sd P cx tb l (nss.flatten++flN fl) fl O (gb ((l.take nT).drop y) las) Z (λZ=>lP P cx tb l (l.drop nT) Z (flS fl O) (λZ O=>Swp P cx z Z O Q) .mk) .mk) .mk) .mk) :
  Swp P cx (.seq (.region id l.toArray true) z) Z O Q:=bo (s7 ht hm x y nT A uss nss las fl hc hf h)
end
theorem lenL_app {I:Type} (a b:List I):br (a++b)=br a+br b:=by simp[br]
theorem lenL_cons {I:Type} (a:I) (l:List I):br (a::l)=br l+1:=by simp[br]
theorem lenL_nil {I:Type}:br ([]:List I)=0:=rfl
theorem flOk_none (tb:Tb) (op:Op) (d:Ac):flOk tb none op d↔True:=by rfl
theorem flI_none (O:Sto):flI none O=O:=rfl
theorem flS_none (O:Sto):flS none O=O:=rfl
theorem flI_some (e:Nat) (cs:Ob) (O:Sto):flI (some (e,cs)) O=upd (cM e O) e (some (.row 1 0 [])):=rfl
theorem flS_some (e:Nat) (cs:Ob) (O:Sto):flS (some (e,cs)) O=upd O e (some cs):=rfl
theorem dm:flN none=[]:=rfl
theorem dj (e:Nat) (cs:Ob):flN (some (e,cs))=[e]:=rfl
theorem flV_some (e:Nat) (cs:As):flV (some (e,.box cs))=.u (.one (.box e 0)):=rfl
theorem isFlt_none (d:Ac):mA none d=false:=by cases d<;>rfl
theorem isFlt_ss (e d:Nat) (cs:Ob):mA (some (e,cs)) (some d)=(d==e):=rfl
theorem lw_true (ds:A5) (fl:Flt):lw ds fl true=flN fl:=rfl
attribute [simp] estpL_none estpL_some slotO_some est1_alloc est1_store est1_call est1_makeSlice est1_makeMap flOk_none lw_true flI_none flS_none flI_some flS_some dm dj flV_some isFlt_none isFlt_ss lateL_nil lateL_cons fltA_box late1_true late1_false est1_some estc_some qopsFL_nil qopsFL_cons midsL_nil midsL_cons rchkL_nil rchkL_cons rchkd_some wipes_nil qv wipesE_apply lenL_app lenL_cons lenL_nil
