/- Lemmas for the law. -/
import Derived.Test.YtpeabgakdpojlaaGreatDoorAmGm
namespace Go.AM
open Go.RowKit
section
variable {κ ν:Type} [DecidableEq κ]
def gx:List (κ×ν)->κ->Option ν|[],_=>none|x::l,k=>if x.1=k then some x.2 else gx l k
def ga:List (κ×ν)->κ->ν->List (κ×ν)|[],k,v=>[(k,v)]|x::l,k,v=>if x.1=k then(k,v)::l else x::ga l k v
def eG (l:List (κ×ν)) (k:κ) (z:ν):ν:=(gx l k).getD z
def dh (l:List (κ×ν)) (k:κ):Bool:=(gx l k).isSome
end
class KeyF {κ:Type} (kf:κ->Key):Prop where
 inj:∀a b,kf a=kf b->a=b
class DataF {ν:Type} (vf:ν->U):Prop where
 wipe:∀d x,(vf x).wipe d=vf x
 ren:∀f x,(vf x).ren f=vf x
 inN:∀n x,(vf x).inN n=true
 free:∀x,(vf x).free=true
def kI (n:Int):Key:=.int .i64 n
def kS (s:A4):Key:=.str s
instance:KeyF kI:=⟨λa b h=>by unfold kI at h;injection h⟩
instance:KeyF kS:=⟨λa b h=>by unfold kS at h;injection h⟩
def uL {ν:Type} (f:ν->L) (x:ν):U:=.one (.d (f x))
def uA {ν:Type} (f:ν->Ak) (x:ν):U:=.agg ((f x).map C.d)
theorem rens_data (f:Aj):∀l:Ak,C.rens f (l.map C.d)=l.map C.d|[]=>rfl|x::l=>by simp only[List.map_cons,C.rens,C.ren,rens_data f l]
theorem inNs_data (n:Nat):∀l:Ak,C.inNs n (l.map C.d)=true|[]=>rfl|x::l=>by simp only[List.map_cons,C.inNs,C.inN,inNs_data n l,Bool.and_self]
theorem wipe_data (d:Nat) (l:Ak):(l.map C.d).map (C.wipe d)=l.map C.d:=by simp
theorem frees_data:∀l:Ak,C.frees (l.map C.d)=true|[]=>rfl|x::l=>by simp only[List.map_cons,C.frees,C.free,frees_data l,Bool.and_self]
instance {ν:Type} (f:ν->L):DataF (uL f):=⟨λ_ _=>rfl,λ_ _=>rfl,λ_ _=>rfl,λ_=>rfl⟩
instance {ν:Type} (f:ν->Ak):DataF (uA f):=⟨λd x=>by unfold uA;rw[uwipe_agg,wipe_data],λg x=>by unfold uA;simp only[U.ren];rw[rens_data],
 λn x=>by unfold uA;simp only[U.inN];exact inNs_data n _,λx=>by unfold uA;simp only[U.free];exact frees_data _⟩
def mOb {κ ν:Type} (kk:KK) (kf:κ->Key) (vf:ν->U) (m:List (κ×ν)):Ob:=.map kk (m.map λe=>(kf e.1,vf e.2))
def msetOb (o:Ob) (k:Key) (u:U):Ob:=match o with|.map kk es=>.map kk (mset es k u)|o=>o
def sA (o:Ob) (k:Key):Option U:=match o with|.map _ es=>ta es k|_=>none
section
variable {κ ν:Type} [DecidableEq κ] (kk:KK) (kf:κ->Key) (vf:ν->U) (m:List (κ×ν))
theorem mget_ob [hk:KeyF kf] (k:κ):sA (mOb kk kf vf m) (kf k)=(gx m k).map vf:=by
 unfold sA mOb;dsimp only;induction m with
 |nil=>rfl|cons x m ih=>rw[List.map_cons];unfold ta gx;by_cases h:x.1=k;{simp_all};{rw[if_neg λh'=>h (hk.inj _ _ h'),if_neg h];exact ih}
theorem mset_ob [hk:KeyF kf] (k:κ) (v:ν):msetOb (mOb kk kf vf m) (kf k) (vf v)=mOb kk kf vf (ga m k v):=by
 unfold msetOb mOb;dsimp only
 congr 1
 induction m with
 |nil=>rfl|cons x m ih=>rw[List.map_cons];unfold mset ga;by_cases h:x.1=k;{simp_all};{rw[if_neg λh'=>h (hk.inj _ _ h'),if_neg h,List.map_cons,ih]}
end
section
variable {κ ν:Type} (kk:KK) (kf:κ->Key) (vf:ν->U)
theorem mOb_nil:Ob.map kk []=mOb kk kf vf []:=rfl
end
section
variable {κ ν:Type} {kk:KK} {kf:κ->Key} {vf:ν->U} {m:List (κ×ν)}
theorem mOb_wipe [h:DataF vf] (d:Nat):Ob.wipe d (mOb kk kf vf m)=some (mOb kk kf vf m):=by unfold mOb;simp only[Ob.wipe,List.map_map,Function.comp_def,h.wipe]
theorem mOb_ren [h:DataF vf] (f:Aj):Ob.ren f (mOb kk kf vf m)=mOb kk kf vf m:=by unfold mOb;simp only[Ob.ren,List.map_map,Function.comp_def,h.ren]
theorem mOb_inN [h:DataF vf] (n:Nat):Ob.inN n (mOb kk kf vf m)=true:=by unfold mOb;simp only[Ob.inN,List.all_map,Function.comp_def,h.inN];simp
theorem mOb_frz1 (s:Nat) (x:Go.AM.L):Ob.frz1 s x (mOb kk kf vf m)=mOb kk kf vf m:=rfl
theorem mOb_wk:Ob.wk (mOb kk kf vf m) (mOb kk kf vf m)↔True:=iff_of_true (Ob.wk_refl _) trivial
theorem mOb_dropN1 (names:A5):dropN1 names (some (mOb kk kf vf m))=some (mOb kk kf vf m):=rfl
end
def dropI1 (s:Nat) (o:Ab):Ab:=match o with|some (.iter m l la)=>if m=s then none else some (.iter m l la)|o=>o
theorem dropI1_box (s:Nat) (cs:As):dropI1 s (some (.box cs))=some (.box cs):=rfl
theorem dropI1_row (s sz e:Nat) (rows:A8):dropI1 s (some (.row sz e rows))=some (.row sz e rows):=rfl
theorem dropIt_app (s:Nat) (O:Sto) (t:Nat):lm s O t=dropI1 s (O t):=rfl
theorem owipe_box (d:Nat) (cs:As):Ob.wipe d (.box cs)=some (.box (cs.map (C.wipe d))):=rfl
theorem owipe_row (d sz e:Nat) (rows:A8):Ob.wipe d (.row sz e rows)=some (.row sz e rows):=rfl
theorem owipe_map (d:Nat) (kk:KK) (es:Am):Ob.wipe d (.map kk es)=some (.map kk (es.map λx=>(x.1,x.2.wipe d))):=rfl
theorem owipe_nest (d:Nat) (e:NSp) (ie sz:Nat) (els:List NE):Ob.wipe d (.nest e ie sz els)=some (.nest e ie sz (els.map (NE.wipe d))):=rfl
theorem oren_nest (f:Aj) (e:NSp) (ie sz:Nat) (els:List NE):Ob.ren f (.nest e ie sz els)=.nest e ie sz (els.map (NE.ren f)):=rfl
theorem oin_nest (n:Nat) (e:NSp) (ie sz:Nat) (els:List NE):Ob.inN n (.nest e ie sz els)=els.all NE.closed:=rfl
theorem dropI1_nest (s:Nat) (e:NSp) (ie sz:Nat) (els:List NE):dropI1 s (some (.nest e ie sz els))=some (.nest e ie sz els):=rfl
theorem oren_box (f:Aj) (cs:As):Ob.ren f (.box cs)=.box (C.rens f cs):=rfl
theorem oren_row (f:Aj) (sz e:Nat) (rows:A8):Ob.ren f (.row sz e rows)=.row sz e rows:=rfl
theorem ofrz_box (s:Nat) (x:Go.AM.L) (cs:As):Ob.frz1 s x (.box cs)=.box (cs.map (C.frz1 s x)):=rfl
theorem ofrz_row (s:Nat) (x:Go.AM.L) (sz e:Nat) (rows:A8):Ob.frz1 s x (.row sz e rows)=.row sz e rows:=rfl
theorem oin_box (n:Nat) (cs:As):Ob.inN n (.box cs)=C.inNs n cs:=rfl
theorem oin_row (n sz e:Nat) (rows:A8):Ob.inN n (.row sz e rows)=true:=rfl
section
variable {tb:Tb} {Z:Env} {O:Sto} {κ ν:Type} {kk:KK} {kf:κ->Key} {vf:ν->U} {m:List (κ×ν)}
def msO (tb:Tb) (Z:Env) (O:Sto) (s:Nat) (kt:TypeId) (key:Key) (u:U) (ob:Ab):Ae:=match ob with|some (.map kk es)=>some ((tb.key kt=some kk/\key.fits kk=true),Z,upd (lm s O) s (some (.map kk (mset es key u))))|some (.nest (.map kk ks) ie sz els)=>rMapN (tb.key kt) kk ks ie sz els key u Z O s|_=>none
def msD (tb:Tb) (Z:Env) (O:Sto) (s:Nat) (d:TypeDesc) (key:Key) (u:U) (ob:Ab):Ae:=match d with|.map kt _=>msO tb Z O s kt key u ob|_=>none
def msT (tb:Tb) (Z:Env) (O:Sto) (s:Nat) (ti:Option TI) (key:Option Key) (u:Option U) (ob:Ab):Ae:=match ti,key,u with|some ti,some key,some u=>msD tb Z O s ti.desc key u ob|_,_,_=>none
theorem rMapSet_map (t:TypeId) (s:Nat) (k x:V):fi tb Z O t (.u (.one (.map s))) k x=msT tb Z O s (tb.ty t) (vkey k) (vu x) (O s):=by
 unfold fi msT;rcases tb.ty t with _|ti<;>rcases vkey k with _|key<;>rcases vu x with _|u<;>try rfl
 unfold msD msO;grind
theorem msT_some (s:Nat) (ti:TI) (key:Key) (u:U) (ob:Ab):msT tb Z O s (some ti) (some key) (some u) ob=msD tb Z O s ti.desc key u ob:=rfl
theorem msD_map (s:Nat) (kt e:TypeId) (key:Key) (u:U) (ob:Ab):msD tb Z O s (.map kt e) key u ob=msO tb Z O s kt key u ob:=rfl
theorem msO_mOb (s:Nat) (kt:TypeId) (key:Key) (u:U):msO tb Z O s kt key u (some (mOb kk kf vf m))=some ((tb.key kt=some kk/\key.fits kk=true),Z,upd (lm s O) s (some (msetOb (mOb kk kf vf m) key u))):=rfl
def mdO (tb:Tb) (Z:Env) (O:Sto) (d:Ac) (s:Nat) (kt:TypeId) (key:Key) (ob:Ab):Ae:=match ob with|some (.map kk es)=>some ((tb.key kt=some kk/\key.fits kk=true),cK Z d (.tup []),upd (lm s O) s (some (.map kk (mdel es key))))|_=>none
def mdD (tb:Tb) (Z:Env) (O:Sto) (d:Ac) (s:Nat) (de:TypeDesc) (key:Key) (ob:Ab):Ae:=match de with|.map kt _=>mdO tb Z O d s kt key ob|_=>none
def mdT (tb:Tb) (Z:Env) (O:Sto) (d:Ac) (s:Nat) (ti:Option TI) (key:Option Key) (ob:Ab):Ae:=match ti,key with|some ti,some key=>mdD tb Z O d s ti.desc key ob|_,_=>none
def lkM (o:Option U) (ok:Bool) (zu:U):At:=match o,ok with|some u,true=>some (.tup [u,.one (.d (.bool true))])|some u,false=>some (.u u)|none,true=>some (.tup [zu,.one (.d (.bool false))])|none,false=>some (.u zu)
def lkE (te:Option TI) (k':Option KK) (kk:KK) (o:Option U) (key:Key) (ok:Bool):At:=match te,k' with|some te,some k'=>if k'=kk/\key.fits kk=true then lkM o ok te.zu else none|_,_=>none
def lkO (tb:Tb) (kt e:TypeId) (key:Key) (ok:Bool) (ob:Ab):At:=match ob with|some (.map kk es)=>lkE (tb.ty e) (tb.key kt) kk (ta es key) key ok|_=>none
def lkD (tb:Tb) (d:TypeDesc) (key:Key) (ok:Bool) (ob:Ab):At:=match d with|.map kt e=>lkO tb kt e key ok ob|_=>none
def lkT (tb:Tb) (ti:Option TI) (key:Option Key) (ok:Bool) (ob:Ab):At:=match ti,key with|some ti,some key=>lkD tb ti.desc key ok ob|_,_=>none
theorem qlookup_map (t:TypeId) (s:Nat) (k:V) (ok:Bool):eC tb O t (.u (.one (.map s))) k ok=lkT tb (tb.ty t) (vkey k) ok (O s):=by
 unfold eC lkT;rcases tb.ty t with _|ti<;>rcases vkey k with _|key<;>try rfl
 unfold lkD lkO;dsimp only;cases ti.desc with
 |map kt e=>
  rcases O s with _|o;{rfl}
  ·cases o with
   |map kk es=>
    dsimp only;rcases tb.ty e with _|te;{rfl};{rcases tb.key kt with _|k';{rfl};{unfold lkE;dsimp only;by_cases h:k'=kk/\key.fits kk=true;{rw[if_pos ⟨by rw[h.1],h.2⟩,if_pos h];rcases ta es key with _|u<;>cases ok<;>rfl};grind}}
   |_=>rfl
 |_=>rfl
theorem lkT_some (ti:TI) (key:Key) (ok:Bool) (ob:Ab):lkT tb (some ti) (some key) ok ob=lkD tb ti.desc key ok ob:=rfl
theorem lkD_map (kt e:TypeId) (key:Key) (ok:Bool) (ob:Ab):lkD tb (.map kt e) key ok ob=lkO tb kt e key ok ob:=rfl
theorem lkO_mOb (kt e:TypeId) (key:Key) (ok:Bool):lkO tb kt e key ok (some (mOb kk kf vf m))=lkE (tb.ty e) (tb.key kt) kk (sA (mOb kk kf vf m) key) key ok:=rfl
theorem lkE_some (te:TI) (k':KK) (o:Option U) (key:Key) (ok:Bool):lkE (some te) (some k') kk o key ok=if k'=kk/\key.fits kk=true then lkM o ok te.zu else none:=rfl
variable [DecidableEq κ]
theorem lk_two [KeyF kf] (k:κ) (z:ν):lkM (sA (mOb kk kf vf m) (kf k)) true (vf z)=some (.tup [vf (eG m k z),.one (.d (.bool (dh m k)))]):=by rw[mget_ob];unfold eG dh;cases gx m k<;>rfl
end
def kckL (l:A0):Option Unit:=bif l.all (λn=>(Lit.int .i64 n).wf)then some ()else none
theorem mZ {l:A0} {u:Unit} (h:kckL l=some u) {x:Int} (hx:x∈l):(Lit.int .i64 x).wf=true:=by grind[kckL]
def kckS (s:A4):Option Unit:=if s.length<=maxLen then some ()else none
theorem qs {s:A4} {u:Unit} (h:kckS s=some u):s.length<=maxLen:=by simp_all[kckS]
attribute [simp] owipe_nest oren_nest oin_nest dropI1_nest owipe_box owipe_row owipe_map oren_box oren_row ofrz_box ofrz_row oin_box oin_row mOb_wipe mOb_ren mOb_inN mOb_frz1 mOb_wk mOb_dropN1 dropI1_box dropI1_row dropIt_app rMapSet_map msT_some msD_map msO_mOb qlookup_map lkT_some lkD_map lkO_mOb lkE_some
