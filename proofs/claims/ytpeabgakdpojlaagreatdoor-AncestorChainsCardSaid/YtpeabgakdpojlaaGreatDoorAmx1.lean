/- Lemmas for the law. -/
import Derived.WalkKit
import Derived.Still
import Derived.Maps.Own
import Derived.DeepKeys5
import Derived.Lib.SmallJoins
import Derived.Lib.ConvBytes
namespace Go.AM
inductive GL where
 |int (k:IntKind) (n:Int)|bool (b:Bool)|str (s:ByteArray)
def GL.val:GL->Value|.int k n=>.int k n|.bool b=>.bool b|.str s=>.string s
def glow:Nat:=3
def gtab:Nat->Option (List GL)|_=>none
def gany:Nat->Bool|_=>false
def drn (w:World):Nat:=w.drawn
theorem rt {w w':World} (h:w.drawn<=w'.drawn):drn w<=drn w':=h
def gpow:Nat->Bool|0=>true|_=>false
def gerr:Nat->Bool|_=>false
open Go.RowKit
structure Blw (B:Nat) (w w':World):Prop extends Below B w w' where
 drawn:drn w<=drn w'
theorem Blw.refl (B:Nat) (w:World):Blw B w w:=⟨Below.refl B w,Nat.le_refl _⟩
theorem Blw.alloc {B:Nat} {a w:World} (h:Blw B a w) (hB:B<=w.heap.size) (o:Obj):Blw B a (w.alloc o):=⟨h.toBelow.alloc hB o,h.drawn⟩
theorem sem_drawn0 {I:Type} {P:Program}:∀(s:Sem I) (w:World) (v:I) (w':World),s.run P w=.ok v w'->w.drawn<=w'.drawn:=by
 have ask:∀{I:Type} (k:Ask I) (w:World),w.drawn<=(w.ask k).2.drawn:=by
  intro I k;induction k with
  |done a=>intro w;exact Nat.le_refl _|ask what range k ih=>intro w;simp only[World.ask];grind
 intro s;induction s with
 |pure a=>simp|load m a k ih=>intro w v w' h;simp only[Sem.run] at h;grind|store m a x k ih=>
  intro w v w' h;have key:(match w.cell? a with
   |some _=>if w.frozen? a then Result.halt (.unsupported (.unsafePointer "a write to bytes that a string shares")) w else k.run P (w.setCell a x)|none=>match w.farStore P a x (m==Mode.atomic)with
    |.ok (w,_)=>k.run P w|.error h=>.halt h w)=.ok v w'->w.drawn<=w'.drawn:=by
   intro h;split at h;{split at h;{cases h};{have:=ih _ _ _ h;simp_all}}
   ·split at h
    ·rename_i w1 l he;refine Nat.le_trans (Nat.le_of_eq ?_) (ih _ _ _ h);unfold World.farStore at he;split at he
     ·split at he
      ·rename_i r hr;cases he;unfold World.viewStore at hr;simp only[bind,Except.bind,pure,Except.pure] at hr
       repeat' (split at hr<;>try (first|cases hr|skip))
       rfl
      ·cases he
     ·cases he
    ·cases h
  cases x<;>first|exact key h|(simp only[Sem.run] at h;cases h)
 |new o k ih=>intro w v w' h;simp only[Sem.run] at h;grind|shape r k ih=>intro w v w' h;simp only[Sem.run] at h;exact ih _ _ _ _ h|freeze a n k ih=>intro w v w' h;simp only[Sem.run] at h;have:=ih _ _ _ h;unfold World.freeze at this;grind|frozen a k ih=>intro w v w' h;simp only[Sem.run] at h;exact ih _ _ _ _ h|getObj r k ih=>intro w v w' h;simp only[Sem.run] at h;grind|setObj r o k ih=>intro w v w' h;simp only[Sem.run] at h;grind|choose q k ih=>intro w v w' h;simp only[Sem.run] at h;grind|sys c k ih=>intro w v w' h;simp only[Sem.run] at h;refine Nat.le_trans ?_ (ih _ _ _ _ h);have hs:=ask (Kernel.perform c w.os) w;unfold World.sys;grind|program k ih=>intro w v w' h;simp only[Sem.run] at h;exact ih _ _ _ _ h|mark m k ih=>intro w v w' h;simp only[Sem.run] at h;exact ih _ _ _ h|halt h=>simp
theorem tk {I:Type} {P:Program} (s:Sem I) (w:World) (v:I) (w':World) (h:s.run P w=.ok v w'):drn w<=drn w':=rt (sem_drawn0 s w v w' h)
inductive L where
 |int (k:IntKind) (n:Int)|bool (b:Bool)|str (s:ByteArray)|nil|emp|sl (sz:Nat) (rows:List (List L))|er (b:Bool)|slx (sz:Nat) (rows:List (List L))|any|ref (xs:List L) (off:Nat)
 deriving Inhabited
mutual
def rep (w:World) (F:Nat->Prop):L->Value->Prop|.int k n,v=>v=.int k n|.bool b,v=>v=.bool b|.str s,v=>v=.string s|.nil,v=>v=.slice none 0 0|.emp,v=>∃a,v=.slice a 0 0|.er false,v=>v=.nilIface|.er true,v=>∃te pe,v=.iface te pe|.any,v=>v.oneCell'=true|.ref xs off,v=>∃b o,v=.pointer (some ⟨b,o+off,none⟩)/\F b/\b<w.heap.size/\dM w F xs b o|.slx sz rows,v=>∃ao n,v=.slice ao n n/\n=rows.length/\n<=maxLen /\ (rows=[]\/∃b o,ao=some ⟨b,o,none⟩/\F b/\b<w.heap.size/\cJ w F sz rows b o)|.sl sz rows,v=>∃ao n c,v=.slice ao n c/\n=rows.length/\n<=c/\c<=maxLen /\ (rows=[]\/∃b o,ao=some ⟨b,o,none⟩/\F b/\b<w.heap.size/\cJ w F sz rows b o)
def dM (w:World) (F:Nat->Prop):List L->Nat->Nat->Prop|[],_,_=>True|x::xs,b,o=>(∃u,w.cell? ⟨b,o,none⟩=some u/\rep w F x u)/\dM w F xs b (o+1)
def cJ (w:World) (F:Nat->Prop) (sz:Nat):List (List L)->Nat->Nat->Prop|[],_,_=>True|r::rs,b,o=>(r.length=sz/\dM w F r b o)/\cJ w F sz rs b (o+sz)
end
structure Keep (F F':Nat->Prop) (w w':World):Prop where
 size:w.heap.size<=w'.heap.size
 block:∀b,F b->b<w.heap.size->w'.heap[b]?=w.heap[b]?
 sub:∀b,F b->b<w.heap.size->F' b
theorem Keep.refl (F:Nat->Prop) (w:World):Keep F F w w:=⟨Nat.le_refl _,λ_ _ _=>rfl,λ_ h _=>h⟩
theorem Keep.trans {F F' F'':Nat->Prop} {w w' w'':World} (h:Keep F F' w w') (k:Keep F' F'' w' w''):Keep F F'' w w'' :=⟨Nat.le_trans h.size k.size,λb hb hl=>(k.block b (h.sub b hb hl) (Nat.lt_of_lt_of_le hl h.size)).trans (h.block b hb hl),
  λb hb hl=>k.sub b (h.sub b hb hl) (Nat.lt_of_lt_of_le hl h.size)⟩
theorem Keep.cell {F F':Nat->Prop} {w w':World} (h:Keep F F' w w') {b o:Nat} (hb:F b) (hl:b<w.heap.size):w'.cell? ⟨b,o,none⟩=w.cell? ⟨b,o,none⟩ :=
 World.cell?_of_block (h.block b hb hl)
mutual
theorem rep_keep {F F':Nat->Prop} {w w':World} (h:Keep F F' w w'):∀(x:L) (v:Value),rep w F x v->rep w' F' x v
 |.int k n,v,hv=>by simpa [rep] using hv|.bool b,v,hv=>by simpa [rep] using hv|.str s,v,hv=>by simpa [rep] using hv|.nil,v,hv=>by simpa [rep] using hv|.emp,v,hv=>by simpa [rep] using hv|.er false,v,hv=>by simpa [rep] using hv|.er true,v,hv=>by simpa [rep] using hv|.any,v,hv=>by simpa [rep] using hv|.ref xs off,v,hv=>by
  simp only[rep] at hv⊢;obtain⟨b,o,rfl,hF,hl,hr⟩:=hv;exact⟨b,o,rfl,h.sub b hF hl,Nat.lt_of_lt_of_le hl h.size,sa h xs b o hF hl hr⟩
 |.sl sz rows,v,hv=>by
  simp only[rep] at hv⊢;obtain⟨ao,n,c,rfl,hn,hc,hm,hr⟩:=hv;refine⟨ao,n,c,rfl,hn,hc,hm,?_⟩;rcases hr with hr|⟨b,o,ha,hF,hl,hr⟩;{exact .inl hr};{exact .inr ⟨b,o,ha,h.sub b hF hl,Nat.lt_of_lt_of_le hl h.size,u9 h rows b o hF hl hr⟩}
 |.slx sz rows,v,hv=>by simp only[rep] at hv⊢;obtain⟨ao,n,rfl,hn,hm,hr⟩:=hv;refine⟨ao,n,rfl,hn,hm,?_⟩;rcases hr with hr|⟨b,o,ha,hF,hl,hr⟩;{exact .inl hr};{exact .inr ⟨b,o,ha,h.sub b hF hl,Nat.lt_of_lt_of_le hl h.size,u9 h rows b o hF hl hr⟩}
theorem sa {F F':Nat->Prop} {w w':World} (h:Keep F F' w w'):∀(xs:List L) (b o:Nat),F b->b<w.heap.size->dM w F xs b o->dM w' F' xs b o|[],_,_,_,_,_=>by simp[dM]|x::xs,b,o,hF,hl,hr=>by simp only[dM] at hr⊢;obtain⟨⟨u,hu,hx⟩,hr⟩:=hr;exact⟨⟨u,(h.cell hF hl).trans hu,rep_keep h x u hx⟩,sa h xs b (o+1) hF hl hr⟩
theorem u9 {F F':Nat->Prop} {w w':World} (h:Keep F F' w w') {sz:Nat}:∀(rs:List (List L)) (b o:Nat),F b->b<w.heap.size->cJ w F sz rs b o->cJ w' F' sz rs b o|[],_,_,_,_,_=>by simp[cJ]|r::rs,b,o,hF,hl,hr=>by simp only[cJ] at hr⊢;exact⟨⟨hr.1.1,sa h r b o hF hl hr.1.2⟩,u9 h rs b (o+sz) hF hl hr.2⟩
end
def GL.l:GL->L|.int k n=>.int k n|.bool b=>.bool b|.str s=>.str s
structure GW (w:World) (F:Nat->Prop):Prop where
 low:∀b,b<glow->F b/\b<w.heap.size
 dat:∀g row,gtab g=some row->g<glow/\∀i x,row[i]?=some x->w.cell? ⟨g,i,none⟩=some x.val
 any:∀g,gany g=true->g<glow/\∃n,w.cell? ⟨g,0,none⟩=some (.int .i64 n)
 pow:∀g,gpow g=true->g<glow/\∃t fz,w.heap[g]?=some (.cells ((List.range 20).map λi=>Value.int .u64 ((10 ^ i:Nat):Int)).toArray t fz)
 err:∀g,gerr g=true->g<glow/\∃v,w.cell? ⟨g,0,none⟩=some v/\(v=.nilIface\/∃te pe,v=.iface te pe)
theorem GW.mono {w:World} {F F':Nat->Prop} (h:GW w F) (hF:∀b,F b->F' b):GW w F':=⟨λb hb=>⟨hF b (h.low b hb).1,(h.low b hb).2⟩,h.dat,h.any,h.pow,h.err⟩
theorem GW.keep {w w':World} {F F':Nat->Prop} (h:GW w F) (hb:∀b,b<glow->w'.heap[b]?=w.heap[b]?) (hs:w.heap.size<=w'.heap.size) (hF:∀b,b<glow->F' b):GW w' F' :=⟨λb hl=>⟨hF b hl,Nat.lt_of_lt_of_le (h.low b hl).2 hs⟩,
  λg row hg=>⟨(h.dat g row hg).1,λi x hx=>(World.cell?_of_block (hb g (h.dat g row hg).1)).trans ((h.dat g row hg).2 i x hx)⟩,
  λg hg=>⟨(h.any g hg).1,let ⟨n,hn⟩:=(h.any g hg).2;⟨n,(World.cell?_of_block (hb g (h.any g hg).1)).trans hn⟩⟩,
  λg hg=>⟨(h.pow g hg).1,let ⟨t,fz,hc⟩:=(h.pow g hg).2;⟨t,fz,(hb g (h.pow g hg).1).trans hc⟩⟩,
  λg hg=>⟨(h.err g hg).1,let ⟨v,hv,hi⟩:=(h.err g hg).2;⟨v,(World.cell?_of_block (hb g (h.err g hg).1)).trans hv,hi⟩⟩⟩
structure Fr (w:World) (F:Nat->Prop):Prop where
 new:∀b,w.heap.size<=b->F b
 gw:GW w F
instance {w:World} {F:Nat->Prop}:CoeFun (Fr w F) λ_=>∀b,w.heap.size<=b->F b:=⟨Fr.new⟩
theorem rep_glob {w:World} {F:Nat->Prop} {g:Nat}:∀(row:List GL) (o:Nat),(∀i x,row[i]?=some x->w.cell? ⟨g,o+i,none⟩=some x.val)->dM w F (row.map GL.l) g o|[],_,_=>by simp[dM]|x::row,o,h=>by simp only[List.map_cons,dM];refine⟨⟨x.val,by simpa using h 0 x rfl,by cases x<;>simp[GL.l,GL.val,rep]⟩,rep_glob row (o+1) λi y hy=>?_⟩;have:=h (i+1) y (by simpa using hy);grind
inductive C where
 |top|d (x:L)|ref (xs:List L) (off:Nat)|box (s:Nat) (off:Nat)|own (s:Nat)|elt (s i sz off:Nat)|map (s:Nat)|nilmap|iter (s:Nat)|fn (f:FuncId) (caps:List C)|sub (s sz a n:Nat)|opq (u:Value)
 deriving Inhabited
inductive U where
 |one (c:C)|agg (cs:List C)
 deriving Inhabited
inductive V where
 |u (x:U)|tup (us:List U)
 deriving Inhabited
abbrev V.one (c:C):V:=.u (.one c)
abbrev V.agg (cs:List C):V:=.u (.agg cs)
abbrev V.top:V:=.u (.one .top)
abbrev V.int (n:Int):V:=.u (.one (.d (.int .i64 n)))
abbrev V.bool (b:Bool):V:=.u (.one (.d (.bool b)))
def hdv:Value->Value|.tuple arr=>arr[0]?.getD undef|v=>v
@[simp] theorem hdv_slice (a:Option Addr) (n c:Nat):hdv (.slice a n c)=.slice a n c:=rfl
@[simp] theorem hdv_ptr (a:Option Addr):hdv (.pointer a)=.pointer a:=rfl
@[simp] theorem hdv_map (a:Option Nat):hdv (.map a)=.map a:=rfl
def subA (ao:Option Addr) (cap a sz:Nat):Option Addr:=if cap=a then ao else ao.map (·.add (a*sz))
section
variable (E:Nat->Value) (w:World) (F:Nat->Prop)
mutual
def bG:C->Value->Prop|.top,_=>True|.d x,v=>rep w F x v|.ref xs off,v=>∃b o,v=.pointer (some ⟨b,o+off,none⟩)/\F b/\b<w.heap.size/\dM w F xs b o|.box s off,v=>∃b,E s=.pointer (some ⟨b,0,none⟩)/\v=.pointer (some ⟨b,off,none⟩)|.own s,v=>v=hdv (E s)/\v.oneCell'=true|.elt s i sz off,v=>∃b n c,hdv (E s)=.slice (some ⟨b,0,none⟩) n c/\v=.pointer (some ⟨b,i*sz+off,none⟩)|.map s,v=>v=hdv (E s)/\v.oneCell'=true|.nilmap,v=>v=.map none|.iter s,v=>v=hdv (E s)/\v.oneCell'=true|.fn f caps,v=>∃arr:Array Value,v=.func (.func f) #[] arr/\bB caps arr.toList|.sub s sz a n,v=>∃ao len cap,hdv (E s)=.slice ao len cap/\a<=n/\n<=len/\v=.slice (subA ao cap a sz) (n-a) (cap-a)|.opq u,v=>v=u/\u.oneCell'=true
def bB:List C->List Value->Prop|[],vs=>vs=[]|c::cs,vs=>∃v r,vs=v::r/\bG c v/\bB cs r
end
def ct:U->Value->Prop|.one c,v=>bG E w F c v|.agg cs,v=>∃arr:Array Value,v=.agg arr/\bB E w F cs arr.toList
def iN:List U->List Value->Prop|[],vs=>vs=[]|c::cs,vs=>∃v r,vs=v::r/\ct E w F c v/\iN cs r
def bI:V->Value->Prop|.u x,v=>ct E w F x v|.tup us,v=>∃arr:Array Value,v=.tuple arr/\iN E w F us arr.toList
end
section
variable {E:Nat->Value} {w w':World} {F F':Nat->Prop}
mutual
theorem eB (h:Keep F F' w w'):∀(c:C) (v:Value),bG E w F c v->bG E w' F' c v
 |.top,v,hv=>by simp[bG]|.d x,v,hv=>by simp only[bG] at hv ⊢;exact rep_keep h x v hv|.ref xs off,v,hv=>by
  simp only[bG] at hv⊢;obtain⟨b,o,rfl,hF,hl,hr⟩:=hv;exact⟨b,o,rfl,h.sub b hF hl,Nat.lt_of_lt_of_le hl h.size,sa h xs b o hF hl hr⟩
 |.box s off,v,hv=>by simpa [bG] using hv|.own s,v,hv=>by simpa [bG] using hv|.elt s i sz off,v,hv=>by simpa [bG] using hv|.map s,v,hv=>by simpa [bG] using hv|.nilmap,v,hv=>by simpa [bG] using hv|.iter s,v,hv=>by simpa [bG] using hv|.sub s sz a n,v,hv=>by simpa [bG] using hv|.opq u,v,hv=>by simpa [bG] using hv|.fn f caps,v,hv=>by simp only[bG] at hv⊢;obtain⟨arr,rfl,hc⟩:=hv;exact⟨arr,rfl,cF h caps _ hc⟩
theorem cF (h:Keep F F' w w'):∀(cs:List C) (vs:List Value),bB E w F cs vs->bB E w' F' cs vs|[],vs,hv=>by simpa [bB] using hv|c::cs,vs,hv=>by simp only[bB] at hv⊢;obtain⟨v,r,rfl,hc,hcs⟩:=hv;exact⟨v,r,rfl,eB h c v hc,cF h cs r hcs⟩
end
theorem qi (h:Keep F F' w w') (x:U) (v:Value) (hv:ct E w F x v):ct E w' F' x v:=by
 cases x with
 |one c=>exact eB h c v hv|agg cs=>obtain⟨arr,rfl,hc⟩:=hv;exact⟨arr,rfl,cF h cs _ hc⟩
theorem usims_keep (h:Keep F F' w w'):∀(us:List U) (vs:List Value),iN E w F us vs->iN E w' F' us vs|[],_,hv=>hv|x::us,vs,hv=>by obtain⟨v,r,rfl,hc,hcs⟩:=hv;exact⟨v,r,rfl,qi h x v hc,usims_keep h us r hcs⟩
theorem fb (h:Keep F F' w w') (x:V) (v:Value) (hv:bI E w F x v):bI E w' F' x v:=by
 cases x with
 |u x=>exact qi h x v hv|tup us=>obtain⟨arr,rfl,hc⟩:=hv;exact⟨arr,rfl,usims_keep h us _ hc⟩
end
mutual
def C.ment (s:Nat):C->Bool|.box t _|.own t|.elt t _ _ _|.map t|.iter t|.sub t _ _ _=>t==s|.fn _ caps=>C.ments s caps|_=>false
def C.ments (s:Nat):List C->Bool|[]=>false|c::cs=>C.ment s c||C.ments s cs
end
def C.wipe (s:Nat) (c:C):C:=match c with|.top=>.top|.d x=>.d x|.ref xs o=>.ref xs o|.nilmap=>.nilmap|.opq u=>.opq u|.sub t z a n=>if t=s then .top else .sub t z a n|.box t o=>if t=s then .top else .box t o|.own t=>if t=s then .top else .own t|.elt t i z o=>if t=s then .top else .elt t i z o|.map t=>if t=s then .top else .map t|.iter t=>if t=s then .top else .iter t|.fn f caps=>if C.ments s caps then .top else .fn f caps
def U.wipe (s:Nat):U->U|.one c=>.one (c.wipe s)|.agg cs=>.agg (cs.map (C.wipe s))
def V.wipe (s:Nat):V->V|.u x=>.u (x.wipe s)|.tup us=>.tup (us.map (U.wipe s))
mutual
def C.ren (f:Nat->Nat):C->C|.top=>.top|.d x=>.d x|.ref xs o=>.ref xs o|.nilmap=>.nilmap|.opq u=>.opq u|.sub t z a n=>.sub (f t) z a n|.box t o=>.box (f t) o|.own t=>.own (f t)|.elt t i z o=>.elt (f t) i z o|.map t=>.map (f t)|.iter t=>.iter (f t)|.fn g caps=>.fn g (C.rens f caps)
def C.rens (f:Nat->Nat):List C->List C|[]=>[]|c::cs=>c.ren f::C.rens f cs
end
def U.ren (f:Nat->Nat):U->U|.one c=>.one (c.ren f)|.agg cs=>.agg (C.rens f cs)
def U.rens (f:Nat->Nat):List U->List U|[]=>[]|c::cs=>c.ren f::U.rens f cs
def V.ren (f:Nat->Nat):V->V|.u x=>.u (x.ren f)|.tup us=>.tup (U.rens f us)
section
variable {E J:Nat->Value} {w:World} {F:Nat->Prop} {s:Nat}
mutual
theorem ua (h:∀t,t≠s->J t=E t):∀(c:C) (v:Value),c.ment s=false->bG E w F c v->bG J w F c v|.top,v,_,hv=>by simp[bG]|.d x,v,_,hv=>by simpa [bG] using hv|.ref xs off,v,_,hv=>by simpa [bG] using hv|.box t off,v,hm,hv=>by simp only[C.ment,beq_eq_false_iff_ne] at hm;simpa [bG,h t hm] using hv|.own t,v,hm,hv=>by simp only[C.ment,beq_eq_false_iff_ne] at hm;simpa [bG,h t hm] using hv|.elt t i z off,v,hm,hv=>by simp only[C.ment,beq_eq_false_iff_ne] at hm;simpa [bG,h t hm] using hv|.map t,v,hm,hv=>by simp only[C.ment,beq_eq_false_iff_ne] at hm;simpa [bG,h t hm] using hv|.nilmap,v,_,hv=>by simpa [bG] using hv|.iter t,v,hm,hv=>by simp only[C.ment,beq_eq_false_iff_ne] at hm;simpa [bG,h t hm] using hv|.sub t z a n,v,hm,hv=>by simp only[C.ment,beq_eq_false_iff_ne] at hm;simpa [bG,h t hm] using hv|.opq u,v,_,hv=>by simpa [bG] using hv|.fn f caps,v,hm,hv=>by simp only[bG,C.ment] at hm hv⊢;obtain⟨arr,rfl,hc⟩:=hv;exact⟨arr,rfl,csims_other h caps _ hm hc⟩
theorem csims_other (h:∀t,t≠s->J t=E t):∀(cs:List C) (vs:List Value),C.ments s cs=false->bB E w F cs vs->bB J w F cs vs|[],vs,_,hv=>by simpa [bB] using hv|c::cs,vs,hm,hv=>by simp only[C.ments,Bool.or_eq_false_iff] at hm;simp only[bB] at hv⊢;obtain⟨v,r,rfl,hc,hcs⟩:=hv;exact⟨v,r,rfl,ua h c v hm.1 hc,csims_other h cs r hm.2 hcs⟩
end
theorem csim_wipe (h:∀t,t≠s->J t=E t) (c:C) (v:Value) (hv:bG E w F c v):bG J w F (c.wipe s) v:=by
 cases c with
 |top|d _|ref _ _|nilmap|opq _=>exact ua h _ v rfl hv|box t o|own t|elt t i z o|map t|iter t|sub t z a n=>simp only[C.wipe];split;{simp[bG]};{rename_i hne;exact ua h _ v (by simpa [C.ment] using hne) hv}|fn f caps=>simp only[C.wipe];split;{simp[bG]};{rename_i hne;exact ua h _ v (by simpa [C.ment] using hne) hv}
theorem rC (h:∀t,t≠s->J t=E t):∀(cs:List C) (vs:List Value),bB E w F cs vs->bB J w F (cs.map (C.wipe s)) vs|[],_,hv=>hv|c::cs,vs,hv=>by simp only[bB] at hv;obtain⟨v,r,rfl,hc,hcs⟩:=hv;simp only[List.map_cons,bB];exact⟨v,r,rfl,csim_wipe h c v hc,rC h cs r hcs⟩
theorem usim_wipe (h:∀t,t≠s->J t=E t) (x:U) (v:Value) (hv:ct E w F x v):ct J w F (x.wipe s) v:=by
 cases x with
 |one c=>exact csim_wipe h c v hv|agg cs=>obtain⟨arr,rfl,hc⟩:=hv;exact⟨arr,rfl,rC h cs _ hc⟩
theorem usims_wipe (h:∀t,t≠s->J t=E t):∀(us:List U) (vs:List Value),iN E w F us vs->iN J w F (us.map (U.wipe s)) vs|[],_,hv=>hv|x::us,vs,hv=>by obtain⟨v,r,rfl,hc,hcs⟩:=hv;exact⟨v,r,rfl,usim_wipe h x v hc,usims_wipe h us r hcs⟩
theorem qg (h:∀t,t≠s->J t=E t) (x:V) (v:Value) (hv:bI E w F x v):bI J w F (x.wipe s) v:=by
 cases x with
 |u x=>exact usim_wipe h x v hv|tup us=>obtain⟨arr,rfl,hc⟩:=hv;exact⟨arr,rfl,usims_wipe h us _ hc⟩
end
section
variable {E:Nat->Value} {w:World} {F:Nat->Prop} {f:Nat->Nat}
mutual
theorem csim_ren:∀(c:C) (v:Value),bG E w F (c.ren f) v↔bG (λt=>E (f t)) w F c v|.top,v=>by simp[bG,C.ren]|.d x,v=>by simp[bG,C.ren]|.ref xs off,v=>by simp[bG,C.ren]|.box t off,v=>by simp[bG,C.ren]|.own t,v=>by simp[bG,C.ren]|.elt t i z off,v=>by simp[bG,C.ren]|.map t,v=>by simp[bG,C.ren]|.nilmap,v=>by simp[bG,C.ren]|.iter t,v=>by simp[bG,C.ren]|.sub t z a n,v=>by simp[bG,C.ren]|.opq u,v=>by simp[bG,C.ren]|.fn g caps,v=>by simp only[bG,C.ren];exact exists_congr λarr=>and_congr Iff.rfl (sW caps _)
theorem sW:∀(cs:List C) (vs:List Value),bB E w F (C.rens f cs) vs↔bB (λt=>E (f t)) w F cs vs|[],vs=>by simp[bB,C.rens]|c::cs,vs=>by simp only[bB,C.rens];exact exists_congr λv=>exists_congr λr=>and_congr Iff.rfl (and_congr (csim_ren c v) (sW cs r))
end
theorem usim_ren (x:U) (v:Value):ct E w F (x.ren f) v↔ct (λt=>E (f t)) w F x v:=by
 cases x with
 |one c=>exact csim_ren c v|agg cs=>exact exists_congr λarr=>and_congr Iff.rfl (sW cs _)
theorem usims_ren:∀(us:List U) (vs:List Value),iN E w F (U.rens f us) vs↔iN (λt=>E (f t)) w F us vs|[],_=>Iff.rfl|x::us,_=>exists_congr λv=>exists_congr λr=>and_congr Iff.rfl (and_congr (usim_ren x v) (usims_ren us r))
theorem vsim_ren (x:V) (v:Value):bI E w F (x.ren f) v↔bI (λt=>E (f t)) w F x v:=by
 cases x with
 |u x=>exact usim_ren x v|tup us=>exact exists_congr λarr=>and_congr Iff.rfl (usims_ren us _)
end
theorem cR {E:Nat->Value} {w:World} {F:Nat->Prop}:∀{cs:List C} {vs:List Value},bB E w F cs vs->cs.length=vs.length|[],_,h=>by simp_all[bB]|c::cs,vs,h=>by simp only[bB] at h;obtain⟨v,r,rfl,_,h⟩:=h;simp[cR h]
theorem csims_phi {E J:Nat->Value} {w:World} {F:Nat->Prop}:∀{xs:List L} {vs:List Value},bB E w F (xs.map C.d) vs->bB J w F (xs.map C.d) vs|[],_,h=>by simpa [bB] using h|x::xs,vs,h=>by simp only[List.map_cons,bB] at h⊢;obtain⟨v,r,rfl,hc,h⟩:=h;exact⟨v,r,rfl,by simpa [bG] using hc,csims_phi h⟩
theorem t7 {E:Nat->Value} {w:World} {F:Nat->Prop}:∀{cs:List C} {vs:List Value},bB E w F cs vs->∀{i:Nat} {c:C},cs[i]?=some c->∃v,vs[i]?=some v/\bG E w F c v
 |[],_,_,i,c,hi=>by simp at hi|c::cs,vs,h,i,x,hi=>by
  simp only[bB] at h;obtain⟨v,r,rfl,hc,h⟩:=h;cases i with
  |zero=>simp_all|succ i=>simp at hi;simpa using t7 h hi
theorem ek {E:Nat->Value} {w:World} {F:Nat->Prop}:∀{cs ds:List C} {vs us:List Value},bB E w F cs vs->bB E w F ds us->bB E w F (cs++ds) (vs++us)|[],_,_,_,h,h'=>by simp_all[bB]|c::cs,ds,vs,us,h,h'=>by simp only[bB] at h;obtain⟨v,r,rfl,hc,h⟩:=h;simp only[List.cons_append,bB];exact⟨v,r++us,rfl,hc,ek h h'⟩
theorem iL {E:Nat->Value} {w:World} {F:Nat->Prop}:∀{cs:List C} {vs:List Value} (n:Nat),bB E w F cs vs->bB E w F (cs.take n) (vs.take n)
 |[],_,n,h=>by simp_all[bB]|c::cs,vs,n,h=>by
  simp only[bB] at h;obtain⟨v,r,rfl,hc,h⟩:=h;cases n with
  |zero=>simp[bB]|succ n=>simp only[List.take_succ_cons,bB];exact⟨v,_,rfl,hc,iL n h⟩
theorem lq {E:Nat->Value} {w:World} {F:Nat->Prop}:∀{cs:List C} {vs:List Value} (n:Nat),bB E w F cs vs->bB E w F (cs.drop n) (vs.drop n)
 |[],_,n,h=>by simp_all[bB]|c::cs,vs,n,h=>by
  simp only[bB] at h;obtain⟨v,r,rfl,hc,h⟩:=h;cases n with
  |zero=>simp only[List.drop_zero,bB];grind|succ n=>simpa using lq n h
theorem csims_set {E:Nat->Value} {w:World} {F:Nat->Prop}:∀{cs:List C} {vs:List Value} {c:C} {v:Value} (i:Nat),bB E w F cs vs->bG E w F c v->bB E w F (cs.set i c) (vs.set i v)
 |[],_,_,_,i,h,_=>by simp_all[bB]|x::cs,vs,c,v,i,h,hc=>by
  simp only[bB] at h;obtain⟨u,r,rfl,hu,h⟩:=h;cases i with
  |zero=>simp only[List.set_cons_zero,bB];grind|succ i=>simp only[List.set_cons_succ,bB];exact⟨u,_,rfl,hu,csims_set i h hc⟩
end Go.AM
namespace Go.AM
open Go.RowKit
inductive Key where
 |int (k:IntKind) (n:Int)|str (s:List UInt8)|ints (l:List Int)
 deriving DecidableEq,Inhabited
def Key.val:Key->Value|.int k n=>.int k n|.str s=>.string ⟨s.toArray⟩|.ints l=>.agg (l.map (Value.int .i64)).toArray
def Key.u:Key->U|.int k n=>.one (.d (.int k n))|.str s=>.one (.d (.str ⟨s.toArray⟩))|.ints l=>.agg (l.map λn=>.d (.int .i64 n))
inductive KK where
 |int (k:IntKind)|str|ints (n:Nat)
 deriving DecidableEq,Inhabited
def Key.fits:KK->Key->Bool|.int k,.int k' n=>decide (k=k')&&(Lit.int k n).wf|.str,.str s=>decide (s.length<=maxLen)|.ints m,.ints l=>decide (l.length=m)&&l.all λn=>(Lit.int .i64 n).wf|_,_=>false
inductive NE where
 |rows (rows:List (List L))|own (t:Nat)|sub (t z n:Nat)|dead
 deriving Inhabited
inductive NSp where
 |row (e:TypeId)|map (kk:KK) (ks:List Key)
 deriving Inhabited
inductive Ob where
 |box (cs:List C)|row (sz:Nat) (e:TypeId) (rows:List (List L))|map (kk:KK) (es:List (Key×U))|iter (m:Nat) (left:List (Key×U)) (last:Option (Key×U))|nest (e:NSp) (ie:TypeId) (sz:Nat) (els:List NE)
 deriving Inhabited
abbrev Env:=Nat->V
abbrev Sto:=Nat->Option Ob
def upd {I:Type} (f:Nat->I) (t:Nat) (x:I):Nat->I:=λt'=>if t'=t then x else f t'
theorem upd_apply {I:Type} (f:Nat->I) (t:Nat) (x:I) (t':Nat):upd f t x t'=if t'=t then x else f t':=rfl
theorem upd_same {I:Type} (f:Nat->I) (t:Nat) (x:I):upd f t x t=x:=if_pos rfl
theorem bz {I:Type} (f:Nat->I) {t t':Nat} (x:I) (h:t'≠t):upd f t x t'=f t':=if_neg h
def gD:Value->Option Nat|.pointer (some a)=>some a.block|.slice (some a) _ c=>if c=0 then none else some a.block|.map (some r)=>some r|_=>none
def blks:Value->List Nat|.tuple arr=>arr.toList.filterMap gD|v=>(gD v).toList
def hbl (v:Value) (b:Nat):Prop:=b∈blks v
@[simp] theorem hbl_ptr (a:Addr) (b:Nat):hbl (.pointer (some a)) b↔b=a.block:=by simp[hbl,blks,gD]
@[simp] theorem hbl_slice (a:Addr) (n c b:Nat):hbl (.slice (some a) n c) b↔c≠0/\b=a.block:=by by_cases h:c=0<;>simp[hbl,blks,gD,h]
@[simp] theorem hbl_sliceN (n c b:Nat):hbl (.slice none n c) b↔False:=by simp[hbl,blks,gD]
@[simp] theorem hbl_slice0 (a:Option Addr) (n b:Nat):hbl (.slice a n 0) b↔False:=by cases a<;>simp
@[simp] theorem hbl_map (r b:Nat):hbl (.map (some r)) b↔b=r:=by simp[hbl,blks,gD]
grind_pattern hbl_ptr=>hbl (.pointer (some a)) b
grind_pattern hbl_slice=>hbl (.slice (some a) n c) b
grind_pattern hbl_map=>hbl (.map (some r)) b
def fL (E:Nat->Value) (w:World) (F:Nat->Prop):List (Key×U)->List MapEntry->Prop|[],l=>l=[]|x::es,l=>∃e r,l=e::r/\e.key=x.1.val/\ct E w F x.2 e.val/\fL E w F es r
def rowv (E:Nat->Value) (w:World) (F:Nat->Prop) (v:Value) (sz:Nat) (e:TypeId) (rows:List (List L)):Prop:=(∀r∈rows,r.length=sz)/\((rows=[]/\∃a,v=.slice a 0 0) \/ ∃b cap cur,0<cap/\v=.slice (some ⟨b,0,none⟩) rows.length cap/\rows.length<=cap/\cap<=maxLen/\w.heap[b]?=some (.cells cur e (0,0))/\cur.size=cap*sz /\ bB E w F (rows.flatten.map C.d) (cur.toList.take (rows.length*sz)))
def nsim (E:Nat->Value) (w:World) (F:Nat->Prop) (ie:TypeId) (sz:Nat) (c iv:Value):NE->Prop|.rows r=>c=iv/\rowv E w F iv sz ie r|.own t=>c=hdv (E t)/\c.oneCell'=true/\iv=undef|.sub t z n=>bG E w F (.sub t z 0 n) c/\iv=undef|.dead=>c.oneCell'=true/\iv=undef
def mM (E:Nat->Value) (w:World) (F:Nat->Prop) (ie:TypeId) (sz:Nat):List NE->List Value->List Value->Prop|[],cs,ivs=>cs=[]/\ivs=[]|x::els,cs,ivs=>∃c cs' iv ivs',cs=c::cs'/\ivs=iv::ivs'/\nsim E w F ie sz c iv x/\mM E w F ie sz els cs' ivs'
def vget (es:List (Key×Value)) (k:Key):Value:=((es.find? λx=>x.1=k).map (·.2)).getD (.slice none 0 0)
def opqs (es:List (Key×Value)):List (Key×U):=es.map λx=>(x.1,.one (.opq x.2))
def spine (w:World) (e:NSp) (n:Nat) (out:Value) (cs:List Value):Prop:=match e with|.row e=>(n=0/\cs=[]/\∃a,out=.slice a 0 0) \/ ∃b cap cur,0<cap/\out=.slice (some ⟨b,0,none⟩) n cap/\n<=cap/\cap<=maxLen/\w.heap[b]?=some (.cells cur e (0,0))/\cur.size=cap/\cs=cur.toList.take n|.map kk ks=>∃b ents clk es,out=.map (some b)/\w.heap[b]?=some (.map ents clk)/\fL (λ_=>undef) w (λ_=>False) (opqs es) ents.toList/\(ents.toList.map (·.born)).Nodup/\(∀e∈ents.toList,e.born<clk) /\ (∀x∈opqs es,x.1.fits kk=true)/\((opqs es).map (·.1)).Nodup/\ks.length=n/\cs=ks.map (vget es)/\ks.Nodup/\(∀k∈ks,k.fits kk=true)/\∀x∈es,x.1∈ks
def kq (E:Nat->Value) (w:World) (F:Nat->Prop) (s:Nat):Ob->Prop|.box cs=>∃b arr t,E s=.pointer (some ⟨b,0,none⟩)/\w.heap[b]?=some (.cells arr t (0,0))/\bB E w F cs arr.toList/\∀u∈arr.toList,u.oneCell'=true|.row sz e rows=>(∀r∈rows,r.length=sz)/\((rows=[]/\∃a,E s=.slice a 0 0) \/ ∃b cap cur,0<cap/\E s=.slice (some ⟨b,0,none⟩) rows.length cap/\rows.length<=cap/\cap<=maxLen/\w.heap[b]?=some (.cells cur e (0,0))/\cur.size=cap*sz /\ bB E w F (rows.flatten.map C.d) (cur.toList.take (rows.length*sz)))|.map kk es=>∃b ents clk,E s=.map (some b)/\w.heap[b]?=some (.map ents clk)/\fL E w F es ents.toList/\(ents.toList.map (·.born)).Nodup/\(∀e∈ents.toList,e.born<clk) /\ (∀x∈es,x.1.fits kk=true)/\(es.map (·.1)).Nodup|.iter m left last=>∃b c ents clk seen,E s=.pointer (some ⟨b,0,none⟩)/\E m=.map (some c)/\w.heap[b]?=some (.mapIter (some c) clk seen clk)/\w.heap[c]?=some (.map ents clk) /\ fL E w F left (ents.toList.filter λe=>!seen.contains e.born)/\(ents.toList.map (·.born)).Nodup/\(∀e∈ents.toList,e.born<clk) /\ ∀x,last=some x->∃e,seen.back?=some e.born/\ents.find? (·.born==e.born)=some e/\e.key=x.1.val/\ct E w F x.2 e.val|.nest e ie sz els=>∃out ivs cs,E s=.tuple (out::ivs).toArray/\(blks (E s)).Nodup/\spine w e els.length out cs/\mM E w F ie sz els cs ivs
theorem fB (out:Value) (ivs:List Value):hdv (.tuple (out::ivs).toArray)=out:=by simp[hdv]
def veq (a b:Value):Prop:=a=b\/∃out l l',a=.tuple (out::l).toArray/\b=.tuple (out::l').toArray
theorem veq.refl (a:Value):veq a a:=.inl rfl
theorem veq.symm {a b:Value} (h:veq a b):veq b a:=h.elim (λh=>.inl h.symm) λ⟨o,l,l',h1,h2⟩=>.inr ⟨o,l',l,h2,h1⟩
theorem veq.hd {a b:Value} (h:veq a b):hdv b=hdv a:=by rcases h with rfl|⟨o,l,l',rfl,rfl⟩;{rfl};{rw[fB,fB]}
theorem veq.trans {a b c:Value} (h:veq a b) (k:veq b c):veq a c:=by
 rcases h with rfl|⟨o,l,l',rfl,rfl⟩;{exact k}
 ·rcases k with rfl|⟨o2,l2,l3,h1,rfl⟩;{exact .inr ⟨o,l,l',rfl,rfl⟩}
  ·have:o=o2:=by have:=congrArg hdv h1;rwa [fB,fB] at this
   subst this;exact .inr ⟨o,l,l3,rfl,rfl⟩
theorem veq.eq {a b:Value} (h:veq a b) (ha:∀arr,a≠.tuple arr):b=a:=by rcases h with rfl|⟨o,l,l',rfl,rfl⟩;{rfl};{exact absurd rfl (ha _)}
def owned (E:Nat->Value) (O:Sto) (b:Nat):Prop:=∃s o,O s=some o/\hbl (E s) b
structure Cx where
 w0:World
 base:Nat->Prop
 inb:Nat->Prop
 n:Nat
 φ0:Nat->Value
 k:Nat:=0
 gw:GW w0 base
 gin:∀b,inb b->glow<=b
def inBase:Nat:=1000000
def Cx.fr (cx:Cx) (E:Nat->Value) (O:Sto) (b:Nat):Prop:=(cx.base b\/cx.w0.heap.size<=b\/cx.inb b)/\¬ owned E O b
structure Core (cx:Cx) (E:Nat->Value) (O:Sto) (w:World):Prop where
 os:w.os=cx.w0.os
 tape:w.tape=cx.w0.tape
 output:w.output=cx.w0.output
 drawn:drn cx.w0<=drn w
 size:cx.w0.heap.size<=w.heap.size
 block:∀b,b<cx.w0.heap.size->¬ cx.inb b->w.heap[b]?=cx.w0.heap[b]?
 objs:∀s o,O s=some o->kq E w (cx.fr E O) s o
 own:∀s o b,O s=some o->hbl (E s) b->(cx.w0.heap.size<=b\/cx.inb b)/\b<w.heap.size
 disj:∀s s' o o' b,O s=some o->O s'=some o'->hbl (E s) b->hbl (E s') b->s=s'
 inp:∀i,inBase<=i->i<inBase+cx.k->veq (cx.φ0 i) (E i)
 itm:∀s m left last,O s=some (.iter m left last)->∃kk es,O m=some (.map kk es)
structure Sim (cx:Cx) (E:Nat->Value) (Z:Env) (O:Sto) (a:Act) (w:World):Prop where
 core:Core cx E O w
 slots:∀t,bI E w (cx.fr E O) (Z t) (a.tmps.getD t undef)
 defers:a.defers=[]
 room:cx.n<=a.tmps.size
theorem Core.glob {cx:Cx} {E:Nat->Value} {O:Sto} {w:World} (h:Core cx E O w) {s:Nat} {o:Ob} {b:Nat} (hs:O s=some o) (hb:hbl (E s) b):glow<=b:=by rcases (h.own s o b hs hb).1 with h1|h1;{rcases Nat.lt_or_ge b glow with h2|h2;{have:=(cx.gw.low b h2).2;omega};{exact h2}};{exact cx.gin b h1}
theorem Core.gw {cx:Cx} {E:Nat->Value} {O:Sto} {w:World} (h:Core cx E O w):GW w (cx.fr E O) :=
 cx.gw.keep (λb hb=>h.block b (cx.gw.low b hb).2 λhi=>absurd (cx.gin b hi) (by omega)) h.size λb hb=>⟨.inl (cx.gw.low b hb).1,λ⟨_,_,ho,hk⟩=>absurd (h.glob ho hk) (by omega)⟩
theorem r8 {E:Nat->Value} {w w':World} {F F':Nat->Prop} (h:Keep F F' w w'):∀{es:List (Key×U)} {l:List MapEntry},fL E w F es l->fL E w' F' es l|[],_,hs=>hs|x::es,l,hs=>by obtain⟨e,r,rfl,hk,hv,hs⟩:=hs;exact⟨e,r,rfl,hk,qi h _ _ hv,r8 h hs⟩
theorem rowv_keep {E:Nat->Value} {w w':World} {F F':Nat->Prop} (h:Keep F F' w w') {v:Value} {sz:Nat} {e:TypeId} {rows:List (List L)} (hb:∀b,gD v=some b->w'.heap[b]?=w.heap[b]?) (ho:rowv E w F v sz e rows):rowv E w' F' v sz e rows:=by obtain⟨hsz,ho⟩:=ho;refine⟨hsz,?_⟩;rcases ho with ho|⟨b,cap,cur,h0,hp,hl,hm',hh,hs,hc⟩;{exact .inl ho};{exact .inr ⟨b,cap,cur,h0,hp,hl,hm',(hb b (by rw[hp];simp[gD];omega)).trans hh,hs,cF h _ _ hc⟩}
theorem k5 {E:Nat->Value} {w w':World} {F F':Nat->Prop} {ie:TypeId} {sz:Nat} (h:Keep F F' w w'):∀{els:List NE} {cs ivs:List Value},(∀iv∈ivs,∀b,gD iv=some b->w'.heap[b]?=w.heap[b]?)->mM E w F ie sz els cs ivs->mM E w' F' ie sz els cs ivs
 |[],_,_,_,hn=>hn|x::els,cs,ivs,hb,hn=>by
  obtain⟨c,cs',iv,ivs',rfl,rfl,h1,h2⟩:=hn;refine⟨c,cs',iv,ivs',rfl,rfl,?_,k5 h (λiv hi=>hb iv (List.mem_cons_of_mem _ hi)) h2⟩;cases x with
  |rows r=>exact⟨h1.1,rowv_keep h (hb iv (by simp)) h1.2⟩|own t=>exact h1|sub t z n=>exact⟨eB h _ _ h1.1,h1.2⟩|dead=>exact h1
theorem lE {out:Value} {ivs:List Value} {b:Nat}:hbl (.tuple (out::ivs).toArray) b↔gD out=some b\/∃iv∈ivs,gD iv=some b:=by simp[hbl,blks]
theorem uh {E J:Nat->Value} {w w':World} {F F':Nat->Prop}:∀{es:List (Key×Value)} {l:List MapEntry},fL E w F (opqs es) l->fL J w' F' (opqs es) l|[],_,h=>h|x::es,l,h=>by obtain⟨e,r,rfl,h1,h2,h3⟩:=h;exact⟨e,r,rfl,h1,by simpa [ct,bG] using h2,uh h3⟩
theorem spine_keep {w w':World} {e:NSp} {n:Nat} {out:Value} {cs:List Value} (hb:∀b,gD out=some b->w'.heap[b]?=w.heap[b]?) (h:spine w e n out cs):spine w' e n out cs:=by
 cases e with
 |row e=>
  rcases h with h|⟨b,cap,cur,h0,hp,hl,hm',hh,hs,hc⟩;{exact .inl h};{exact .inr ⟨b,cap,cur,h0,hp,hl,hm',(hb b (by rw[hp];simp[gD];omega)).trans hh,hs,hc⟩}
 |map kk ks=>obtain⟨b,ents,clk,es,hp,hh,hc,h1⟩:=h;exact⟨b,ents,clk,es,hp,(hb b (by rw[hp];rfl)).trans hh,uh hc,h1⟩
theorem fy {E:Nat->Value} {w w':World} {F F':Nat->Prop} (h:Keep F F' w w') {s:Nat} {o:Ob} (ho:kq E w F s o) (hb:∀b,hbl (E s) b->w'.heap[b]?=w.heap[b]?) (hm:∀m left last b,o=.iter m left last->hbl (E m) b->w'.heap[b]?=w.heap[b]?):kq E w' F' s o:=by
 cases o with
 |box cs=>
  obtain⟨b,arr,t,hp,hh,hc,h1⟩:=ho;exact⟨b,arr,t,hp,(hb b (by rw[hp];simp)).trans hh,cF h cs _ hc,h1⟩
 |row sz e rows=>
  obtain⟨hsz,ho⟩:=ho;refine⟨hsz,?_⟩;rcases ho with ho|⟨b,cap,cur,h0,hp,hl,hm',hh,hs,hc⟩;{exact .inl ho};{exact .inr ⟨b,cap,cur,h0,hp,hl,hm',(hb b (by rw[hp];simp only[hbl_slice];grind)).trans hh,hs,cF h _ _ hc⟩}
 |map kk es=>
  obtain⟨b,ents,clk,hp,hh,hc,h1,h2⟩:=ho;exact⟨b,ents,clk,hp,(hb b (by rw[hp];simp)).trans hh,r8 h hc,h1,h2⟩
 |iter m left last=>
  obtain⟨b,c,ents,clk,seen,hp,hq,hh,hh',hc,h1,h2,h3⟩:=ho;exact⟨b,c,ents,clk,seen,hp,hq,(hb b (by rw[hp];simp)).trans hh,(hm m left last c rfl (by rw[hq];simp)).trans hh',r8 h hc,h1,h2,
   λx hx=>let ⟨e,a1,a2,a3,a4⟩:=h3 x hx;⟨e,a1,a2,a3,qi h _ _ a4⟩⟩
 |nest e ie sz els=>obtain⟨out,ivs,cs,hp,hnd,hsp,hn⟩:=ho;rw[hp] at hb;exact⟨out,ivs,cs,hp,hnd,spine_keep (λb h=>hb b (lE.2 (.inl h))) hsp,k5 h (λiv hi b hbk=>hb b (lE.2 (.inr ⟨iv,hi,hbk⟩))) hn⟩
theorem osim_iter_block {E:Nat->Value} {w:World} {F:Nat->Prop} {s m:Nat} {left:List (Key×U)} {last:Option (Key×U)} (ho:kq E w F s (.iter m left last)) {b:Nat} (hb:hbl (E m) b):b<w.heap.size:=by obtain⟨_,c,ents,clk,seen,_,hq,_,hh',_⟩:=ho;grind
theorem Keep.of_below {F:Nat->Prop} {w w':World} (h:Blw w.heap.size w w'):Keep F F w w':=⟨h.size,λb _ hl=>h.block b hl,λ_ hb _=>hb⟩
theorem Core.below {cx:Cx} {E:Nat->Value} {O:Sto} {w w':World} (h:Core cx E O w) (hw:Blw w.heap.size w w'):Core cx E O w' where
 os:=hw.os.trans h.os
 tape:=hw.tape.trans h.tape
 output:=hw.output.trans h.output
 drawn:=Nat.le_trans h.drawn hw.drawn
 size:=Nat.le_trans h.size hw.size
 block:=λb hb hn=>(hw.block b (Nat.lt_of_lt_of_le hb h.size)).trans (h.block b hb hn)
 objs:=λs o hs=>fy (Keep.of_below hw) (h.objs s o hs) (λb hb=>hw.block b (h.own s o b hs hb).2) (λ_ _ _ b ho hb=>hw.block b (osim_iter_block (ho ▸ h.objs s o hs) hb))
 own:=λs o b hs hb=>⟨(h.own s o b hs hb).1,Nat.lt_of_lt_of_le (h.own s o b hs hb).2 hw.size⟩
 disj:=h.disj
 inp:=h.inp
 itm:=h.itm
theorem Core.drew {cx:Cx} {E:Nat->Value} {O:Sto} {w:World} (h:Core cx E O w):Core cx E O { w with drawn:=w.drawn+1 } :=
 h.below ⟨⟨rfl,rfl,rfl,Nat.le_refl _,λ_ _=>rfl⟩,rt (Nat.le_succ _)⟩
theorem Sim.below {cx:Cx} {E:Nat->Value} {Z:Env} {O:Sto} {a:Act} {w w':World} (h:Sim cx E Z O a w) (hw:Blw w.heap.size w w'):Sim cx E Z O a w' :=⟨h.core.below hw,λt=>fb (Keep.of_below hw) _ _ (h.slots t),h.defers,h.room⟩
theorem qh {E:Nat->Value} {w:World} {F:Nat->Prop} {Z:Env} {a:Act} (h:∀t,bI E w F (Z t) (a.tmps.getD t undef)) {d:Nat} {v:V} {u:Value} (hv:bI E w F v u) (hlt:d<a.tmps.size) :∀t,bI E w F (upd Z d v t) ((a.put (some d) u).tmps.getD t undef):=by intro t;by_cases htd:t=d;{subst htd;rw[upd_same];simp only[Act.put];simpa [hlt] using hv};{rw[bz _ _ htd];have:=h t;simpa [Act.put,Array.getElem?_setIfInBounds_ne (Ne.symm htd)] using this}
structure TI where
 size:Nat
 bytes:Nat
 zu:U
 zv:Value
 desc:TypeDesc
 offs:List (Nat×Nat):=[]
 deriving Inhabited
def TI.agg (ti:TI):Bool:=match ti.desc with|.struct _|.array _ _=>true|_=>false
structure TabFact (P:Program) (t:TypeId) (ti:TI):Prop where
 info:(P.info? t).map (λi=>(i.size,i.bytes,i.zero))=some (ti.size,ti.bytes,some ti.zv)
 und:P.underlying t=some ti.desc
 zero:∀E w F,ct E w F ti.zu ti.zv
 zsize:ti.zv.cells.size=ti.size
 offs:∀fs,ti.desc=.struct fs->(ti.offs=fs.toList.map λf=>(f.offset,P.cellsOf f.type))
 fty:∀fs,ti.desc=.struct fs->(fs.toList.all λf=>(P.info? f.type).isSome)=true
abbrev Tab:=Nat->Option TI
def TabOk (P:Program) (tb:Tab):Prop:=∀t ti,tb t=some ti->TabFact P t ti
section
variable {P:Program} {t:TypeId} {ti:TI}
theorem TabFact.get (h:TabFact P t ti):∃i,P.info? t=some i/\i.size=ti.size/\i.bytes=ti.bytes/\i.zero=some ti.zv:=by have:=h.info;simp_all
theorem TabFact.run_und (h:TabFact P t ti) (w:World):(underlying t).run P w=.ok ti.desc w:=run_underlying h.und w
theorem TabFact.run_size (h:TabFact P t ti) (w:World):(sizeOf t).run P w=.ok ti.size w:=by obtain⟨i,hi,hs,_,_⟩:=h.get;simp[sizeOf,typeInfo,hi,hs]
theorem TabFact.run_zero (h:TabFact P t ti) (w:World):(zeroValue t).run P w=.ok ti.zv w:=by obtain⟨i,hi,_,_,hz⟩:=h.get;simp[zeroValue,typeInfo,hi,hz]
theorem TabFact.run_agg (h:TabFact P t ti) (w:World):(isAgg t).run P w=.ok ti.agg w:=by unfold isAgg TI.agg;simp only[Sem.run_bind,h.run_und,Result.andThen_ok];cases ti.desc<;>rfl
end
theorem TabFact.cells {P:Program} {t:TypeId} {ti:TI} (h:TabFact P t ti):P.cellsOf t=ti.size:=by obtain⟨i,hi,hs,_,_⟩:=h.get;simp[Program.cellsOf,hi,hs]
def Mem (E:Nat->Value) (w:World) (F:Nat->Prop) (cs:List C) (b o:Nat):Prop :=∃us:List Value,bB E w F cs us/\∀(j:Nat) (u:Value),us[j]?=some u->w.cell? ⟨b,o+j,none⟩=some u/\u.oneCell'=true
theorem rep_one {w:World} {F:Nat->Prop} {x:L} {v:Value} (h:rep w F x v):v.oneCell'=true:=by
 cases x with
 |int k n=>simp only[rep] at h;subst h;rfl|bool b=>simp only[rep] at h;subst h;rfl|str s=>simp only[rep] at h;subst h;rfl|nil=>simp only[rep] at h;subst h;rfl|emp=>(simp only[rep] at h;obtain⟨a,rfl⟩:=h;rfl)|sl sz rows=>(simp only[rep] at h;obtain⟨ao,n,c,rfl,_⟩:=h;rfl)|slx sz rows=>(simp only[rep] at h;obtain⟨ao,n,rfl,_⟩:=h;rfl)|any=>simpa [rep] using h|ref xs off=>(simp only[rep] at h;obtain⟨b,o,rfl,_⟩:=h;rfl)|er b=>
  cases b with
  |false=>simp only[rep] at h;subst h;rfl|true=>simp only[rep] at h;obtain⟨te,pe,rfl⟩:=h;rfl
theorem tE {E:Nat->Value} {w:World} {F:Nat->Prop}:∀{xs:List L} {b o:Nat},dM w F xs b o->Mem E w F (xs.map C.d) b o|[],b,o,_=>⟨[],by simp[bB],λj u hj=>by simp at hj⟩|x::xs,b,o,h=>by simp only[dM] at h;obtain⟨⟨u,hu,hx⟩,hr⟩:=h;obtain⟨us,h1,h2⟩:=tE (E:=E) hr;refine⟨u::us,by simp only[List.map_cons,bB];exact⟨u,us,rfl,by simpa [bG] using hx,h1⟩,λj v hj=>?_⟩;grind[rep_one]
theorem Mem.sub {E:Nat->Value} {w:World} {F:Nat->Prop} {cs:List C} {b o:Nat} (h:Mem E w F cs b o) (off n:Nat):Mem E w F ((cs.drop off).take n) b (o+off):=by obtain⟨us,h1,h2⟩:=h;refine⟨(us.drop off).take n,iL n (lq off h1),λj u hj=>?_⟩;grind
theorem repRows_get {w:World} {F:Nat->Prop} {sz:Nat}:∀{rs:List (List L)} {b o i:Nat} {r:List L},cJ w F sz rs b o->rs[i]?=some r->r.length=sz/\dM w F r b (o+i*sz)
 |[],b,o,i,r,_,hi=>by simp at hi|x::rs,b,o,i,r,h,hi=>by
  simp only[cJ] at h;cases i with
  |zero=>simp_all|succ i=>have:=repRows_get h.2 (i:=i) (r:=r) (by simpa using hi);grind
theorem qb {w:World} {F:Nat->Prop} {sz:Nat}:∀{rs:List (List L)} {b o:Nat} (i:Nat),cJ w F sz rs b o->cJ w F sz (rs.drop i) b (o+i*sz)
 |[],b,o,i,_=>by simp[cJ]|x::rs,b,o,i,h=>by
  cases i with
  |zero=>simpa using h|succ i=>simp only[cJ] at h;have:=qb i h.2;grind
theorem pM {w:World} {F:Nat->Prop} {sz:Nat}:∀{rs:List (List L)} {b o:Nat} (i:Nat),cJ w F sz rs b o->cJ w F sz (rs.take i) b o
 |[],b,o,i,_=>by simp[cJ]|x::rs,b,o,i,h=>by
  cases i with
  |zero=>simp[cJ]|succ i=>simp only[cJ,List.take_succ_cons] at h⊢;exact⟨h.1,pM i h.2⟩
def memOf (O:Sto):C->Option (List C×Nat)
 |.ref xs off=>some (xs.map C.d,off)|.box s off=>match O s with|some (.box cs)=>some (cs,off)|_=>none
 |.elt s i sz off=>match O s with
  |some (.row sz' _ rows)=>if sz=sz' then match rows[i]? with
    |some r=>some (r.map C.d,off)|none=>none else none
  |some (.nest (.row _) _ _ els)=>if sz=1 then match els[i]? with
    |some (.own t)=>some ([.own t],off)|_=>none else none
  |_=>none
 |_=>none
theorem oJ {E:Nat->Value} {w:World} {F:Nat->Prop} {ie:TypeId} {sz:Nat}:∀{els:List NE} {cs ivs:List Value},mM E w F ie sz els cs ivs->∀{i:Nat} {x:NE},els[i]?=some x->∃c iv,cs[i]?=some c/\ivs[i]?=some iv/\nsim E w F ie sz c iv x
 |[],_,_,_,i,x,hi=>by simp at hi|y::els,cs,ivs,hn,i,x,hi=>by
  obtain⟨c,cs',iv,ivs',rfl,rfl,h1,h2⟩:=hn;cases i with
  |zero=>simp only[List.getElem?_cons_zero,Option.some.injEq] at hi;subst hi;exact⟨c,iv,rfl,rfl,h1⟩|succ i=>simp only[List.getElem?_cons_succ] at hi ⊢;exact oJ h2 hi
theorem oq {E:Nat->Value} {w:World} {F:Nat->Prop} {ie:TypeId} {sz:Nat}:∀{els:List NE} {cs ivs:List Value} {i:Nat} {x:NE} {c iv:Value},mM E w F ie sz els cs ivs->nsim E w F ie sz c iv x->mM E w F ie sz (els.set i x) (cs.set i c) (ivs.set i iv)
 |[],_,_,_,_,_,_,hn,_=>by obtain⟨rfl,rfl⟩:=hn;exact⟨rfl,rfl⟩
 |y::els,cs,ivs,i,x,c,iv,hn,hx=>by
  obtain⟨c',cs',iv',ivs',rfl,rfl,h1,h2⟩:=hn;cases i with
  |zero=>exact⟨c,cs',iv,ivs',rfl,rfl,hx,h2⟩|succ i=>exact⟨c',_,iv',_,rfl,rfl,h1,oq h2 hx⟩
theorem tT {E:Nat->Value} {w:World} {F:Nat->Prop} {ie:TypeId} {sz:Nat}:∀{els:List NE} {cs ivs:List Value},mM E w F ie sz els cs ivs->cs.length=els.length/\ivs.length=els.length
 |[],_,_,hn=>by obtain⟨rfl,rfl⟩:=hn;exact⟨rfl,rfl⟩
 |y::els,cs,ivs,hn=>by obtain⟨c',cs',iv',ivs',rfl,rfl,h1,h2⟩:=hn;have:=tT h2;simp only[List.length_cons];omega
theorem nsim_one {E:Nat->Value} {w:World} {F:Nat->Prop} {ie:TypeId} {sz:Nat} {c iv:Value} {x:NE} (h:nsim E w F ie sz c iv x):c.oneCell'=true:=by
 cases x with
 |rows r=>
  obtain⟨rfl,_,h⟩:=h;rcases h with⟨_,a,rfl⟩|⟨b,cap,cur,_,rfl,_⟩<;>rfl
 |own t=>exact h.2.1|sub t z n=>
  obtain⟨⟨_,_,_,_,_,_,rfl⟩,_⟩:=h;rfl
 |dead=>exact h.1
theorem jm {E:Nat->Value} {w:World} {F:Nat->Prop}:∀{xs:List L} {vs:List Value},bB E w F (xs.map C.d) vs->∀u∈vs,u.oneCell'=true|[],vs,h=>by simp_all[bB]|x::xs,vs,h=>by simp only[List.map_cons,bB] at h;obtain⟨v,r,rfl,hc,h⟩:=h;intro u hu;rcases List.mem_cons.1 hu with rfl|hu;{grind[rep_one,bG]};{exact jm h u hu}
theorem ib {E:Nat->Value} {w:World} {F:Nat->Prop} {cs:List C} {b:Nat} {arr:Array Value} {t:TypeId} {z:Nat×Nat} (hh:w.heap[b]?=some (.cells arr t z)) {n:Nat} (hc:bB E w F cs (arr.toList.take n)) (h1:∀u∈arr.toList.take n,u.oneCell'=true):Mem E w F cs b 0:=by refine⟨_,hc,λj u hj=>⟨?_,h1 u (List.mem_of_getElem? hj)⟩⟩;rw[List.getElem?_take] at hj;split at hj;{rw[Nat.zero_add,cell_of_row w b j arr t z hh];simpa using hj};{cases hj}
theorem flatten_row {sz:Nat}:∀{rs:List (List L)} {i:Nat} {r:List L},(∀r∈rs,r.length=sz)->rs[i]?=some r->(rs.flatten.drop (i*sz)).take sz=r|[],i,r,_,hi=>by simp at hi|x::rs,0,r,h,hi=>by simp_all|x::rs,i+1,r,h,hi=>by have hx:=h x (by simp);have ih:=flatten_row (rs:=rs) (i:=i) (r:=r) (λr hr=>h r (List.mem_cons_of_mem _ hr)) (by simpa using hi);rw[List.flatten_cons,show (i+1)*sz=x.length+i*sz from by grind,List.drop_length_add_append];exact ih
theorem memOf_sound {cx:Cx} {E:Nat->Value} {O:Sto} {w:World} (hco:Core cx E O w) {c:C} {cs:List C} {off:Nat} (h:memOf O c=some (cs,off)) {v:Value} (hv:bG E w (cx.fr E O) c v) :∃b o,v=.pointer (some ⟨b,o+off,none⟩)/\Mem E w (cx.fr E O) cs b o:=by
 cases c with
 |ref xs off'=>
  simp only[memOf,Option.some.injEq,Prod.mk.injEq] at h;obtain⟨rfl,rfl⟩:=h;simp only[bG] at hv;obtain⟨b,o,rfl,_,_,hr⟩:=hv;exact⟨b,o,rfl,tE hr⟩
 |box s off'=>simp only[memOf] at h;split at h;{rename_i cs' hs;simp only[Option.some.injEq,Prod.mk.injEq] at h;obtain⟨rfl,rfl⟩:=h;obtain⟨b,arr,t,hp,hh,hc,h1⟩:=hco.objs s _ hs;simp only[bG,hp] at hv;obtain⟨b',hb',rfl⟩:=hv;simp only[Value.pointer.injEq,Option.some.injEq,Addr.mk.injEq] at hb';obtain⟨rfl,_,_⟩:=hb';exact⟨b,0,by simp,ib (n:=arr.toList.length) hh (by grind) (by grind)⟩};{cases h}|elt s i sz off'=>simp only[memOf] at h;split at h;{rename_i sz' e rows hs;split at h;{rename_i hsz;subst hsz;split at h;{rename_i r hr;simp only[Option.some.injEq,Prod.mk.injEq] at h;obtain⟨rfl,rfl⟩:=h;simp only[bG] at hv;obtain⟨b',n',c',hb',rfl⟩:=hv;obtain⟨hrl,ho⟩:=hco.objs s _ hs;rcases ho with⟨h0,_⟩|⟨b,cap,cur,h0,hp,hl,hm',hh,hs',hc⟩;{grind};{rw[hp] at hb';simp at hb';obtain⟨rfl,_,_⟩:=hb';refine⟨b,i*sz,rfl,?_⟩;have hm:=(ib hh hc (jm hc)).sub (i*sz) sz;rw[<- List.map_drop,<- List.map_take,flatten_row hrl hr] at hm;simpa using hm}};{cases h}};{cases h}};{rename_i e ie sz' els hs;split at h;{rename_i hsz;subst hsz;split at h;{rename_i t hr;simp only[Option.some.injEq,Prod.mk.injEq] at h;obtain⟨rfl,rfl⟩:=h;simp only[bG] at hv;obtain⟨b',n',c',hb',rfl⟩:=hv;obtain⟨out,ivs,cs,hp,hnd,hsp,hn⟩:=hco.objs s _ hs;rw[hp,fB] at hb';subst hb';have hlt:=(List.getElem?_eq_some_iff.1 hr).1;obtain⟨c,iv,hc,_,hx⟩:=oJ hn hr;rcases hsp with⟨h0,_⟩|⟨b,cap,cur,h0,ho,hl,hm',hh,hs',rfl⟩;{omega};{simp only[Value.slice.injEq,Option.some.injEq,Addr.mk.injEq] at ho;obtain⟨⟨rfl,_,_⟩,_,_⟩:=ho;refine⟨b',i*1,rfl,[c],by simp only[bB];exact⟨c,[],rfl,⟨hx.1,hx.2.1⟩,rfl⟩,λj u hj=>?_⟩;cases j with|zero=>simp only[List.getElem?_cons_zero,Option.some.injEq] at hj;subst hj;refine⟨?_,hx.2.1⟩;rw[cell_of_row w b' _ cur e (0,0) hh];rw[List.getElem?_take,if_pos hlt] at hc;simpa using hc|succ j=>simp at hj}};{cases h}};{cases h}};{cases h}|_=>simp[memOf] at h
end Go.AM
namespace Go.AM
open Go.RowKit
def ug:Value->C|.int k n=>.d (.int k n)|.bool b=>.d (.bool b)|.string s=>.d (.str s)|.slice none 0 0=>.d .nil|.map none=>.nilmap|.nilIface=>.d (.er false)|_=>.top
def constV:Value->V|.agg arr=>.agg (arr.toList.map ug)|v=>.one (ug v)
def gval (g:Nat):V:=match gtab g with|some row=>.one (.ref (row.map GL.l) 0)|none=>.top
def oev (Z:Env):Operand->V|.tmp t=>Z t|.const v=>constV v|.func f=>.one (.fn f [])|.global g=>gval g
section
variable {E:Nat->Value} {w:World} {F:Nat->Prop}
theorem csim_const (v:Value):bG E w F (ug v) v:=by unfold ug;split<;>simp[bG,rep]
theorem csims_const:∀l:List Value,bB E w F (l.map ug) l|[]=>by simp[bB]|v::l=>by simp only[List.map_cons,bB];exact⟨v,l,rfl,csim_const v,csims_const l⟩
theorem vsim_const (v:Value):bI E w F (constV v) v:=by unfold constV;split;{exact⟨_,rfl,csims_const _⟩};{exact csim_const _}
theorem vsim_gval (hg:GW w F) (g:Nat):bI E w F (gval g) (.pointer (some ⟨g,0,none⟩)):=by unfold gval;split;{rename_i row hr;obtain⟨h1,h2⟩:=hg.dat g row hr;simp only[bI,ct,bG];exact⟨g,0,rfl,(hg.low g h1).1,(hg.low g h1).2,rep_glob row 0 λi x hx=>by simp_all⟩};{simp[bI,ct,bG]}
theorem dW {Z:Env} {a:Act} (hg:GW w F) (h:∀t,bI E w F (Z t) (a.tmps.getD t undef)) (x:Operand):bI E w F (oev Z x) (a.eval x):=by
 cases x with
 |tmp t=>exact h t|const v=>exact vsim_const v|global g=>exact vsim_gval hg g|func f=>simp[oev,Act.eval,bI,ct,bG,bB]
end
def pL (op:BinOp) (k:IntKind) (a b:Int):Option L :=match op with|.add=>some (.int k (k.wrap (a+b)))|.sub=>some (.int k (k.wrap (a-b)))|.mul=>some (.int k (k.wrap (a*b)))|.quo=>if b=0 then none else some (.int k (k.wrap (a.tdiv b)))|.rem=>if b=0 then none else some (.int k (a.tmod b))|.and=>some (.int k (k.wrap ((BitVec.ofInt k.bits a &&& BitVec.ofInt k.bits b).toNat)))|.or=>some (.int k (k.wrap ((BitVec.ofInt k.bits a ||| BitVec.ofInt k.bits b).toNat)))|.xor=>some (.int k (k.wrap ((BitVec.ofInt k.bits a ^^^ BitVec.ofInt k.bits b).toNat)))|.andNot=>some (.int k (k.wrap ((BitVec.ofInt k.bits a &&& ~~~BitVec.ofInt k.bits b).toNat)))|.eql=>some (.bool (a==b))|.neq=>some (.bool (a != b))|.lss=>some (.bool (decide (a<b)))|.leq=>some (.bool (decide (a<=b)))|.gtr=>some (.bool (decide (a>b)))|.geq=>some (.bool (decide (a≥b)))|.shl|.shr=>none
def shiftOp (op:BinOp) (k:IntKind) (a b:Int):Option L :=match op with|.shl=>if b<0 then none else some (.int k (k.wrap (a*2 ^ min b.toNat k.bits)))|.shr=>if b<0 then none else some (.int k (a.fdiv (2 ^ min b.toNat k.bits)))|_=>none
def isShift:BinOp->Bool|.shl|.shr=>true|_=>false
def strOp (op:BinOp) (x y:ByteArray):Option L :=match op with|.add=>if((x.size+y.size:Nat):Int)>IntKind.i64.max then none else some (.str (x++y))|.eql=>some (.bool (x.toList==y.toList))|.neq=>some (.bool !(x.toList==y.toList))|.lss=>some (.bool (Op.bytesLess x.toList y.toList))|.leq=>some (.bool (Op.bytesLess x.toList y.toList||x.toList==y.toList))|.gtr=>some (.bool !(Op.bytesLess x.toList y.toList||x.toList==y.toList))|.geq=>some (.bool !(Op.bytesLess x.toList y.toList))|_=>none
def uj:List C->List C->Option Bool|[],[]=>some true|.d (.int k a)::xs,.d (.int k' b)::ys=>if k=k' then(uj xs ys).map λt=>a==b&&t else none|_,_=>none
def sR (P:Program) (t:TypeId) (n:Nat):Prop :=(∃fs,P.underlying t=some (.struct fs)/\P.stoodInHeld t=false/\P.eqGuardType P.depth t=false/\fs.size=n /\ ∀(i:Nat) (f:Field),fs.toList[i]?=some f->f.name ≠ "_" /\ f.offset=i/\∃k,P.underlying f.type=some (.int k)) \/ ∃e i k,P.underlying t=some (.array n e)/\P.info? e=some i/\P.cellsOf e=1/\P.underlying e=some (.int k)/\P.eqGuardType P.depth t=false
def negB (op:BinOp) (b:Bool):Option L:=match op with|.eql=>some (.bool b)|.neq=>some (.bool !b)|_=>none
def oU (P:Program) (cx:Cx) (f:FuncId) (args:List V) (Z:Env) (O:Sto) (d:Option Nat) (K:Env->Sto->Prop):Prop :=(∃fn,P.funcs[f]?=some fn/\(fn.name == "runtime.NumGoroutine")=false/\fn.body.isNone=false) /\ ∀(E:Nat->Value) (a:Act) (w:World),Sim cx E Z O a w->∀vals:List Value,vals.length=args.length->(∀(i:Nat) (x:V) (u:Value),args[i]?=some x->vals[i]?=some u->bI E w (cx.fr E O) x u) -> ∀(next:Act->World->Prop),(∀E' Z' O' a' w',Sim cx E' Z' O' a' w'->K Z' O'->next a' w')->Calls P f vals.toArray w λe w'=>∃v,e=.returned v/\next (a.put d v) w'
def bA (P:Program) (f:FuncId) (args:List V) (v:V):Prop :=(∃fn,P.funcs[f]?=some fn/\(fn.name == "runtime.NumGoroutine")=false/\fn.body.isNone=false) /\ ∀(E:Nat->Value) (w:World) (F:Nat->Prop),Fr w F->∀vals:List Value,vals.length=args.length->(∀(i:Nat) (x:V) (u:Value),args[i]?=some x->vals[i]?=some u->bI E w F x u) ->
  Calls P f vals.toArray w λe w'=>∃u,e=.returned u/\Blw w.heap.size w w'/\bI E w' F v u
structure Tb where
 ty:Tab
 eqn:TypeId->Option Nat
 key:TypeId->Option KK
 call:FuncId->List V->Option V:=λ_ _=>none
 eff:FuncId->List V->Option Nat->Env->Sto->Option ((Env->Sto->Prop)->Prop):=λ_ _ _ _ _=>none
 mid:Nat->Option (Nat×List Nat):=λ_=>none
 capd:Bool:=false
structure TbOk (P:Program) (tb:Tb):Prop where
 ty:TabOk P tb.ty
 eqn:∀t n,tb.eqn t=some n->sR P t n
 key:∀t kk,tb.key t=some kk->Maps.Keyed P t/\∀k:Key,k.fits kk=true->∃l,keyOf P t k.val=some l
 call:∀f us v,tb.call f us=some v->bA P f us v
 eff:∀(cx:Cx) (f:FuncId) (us:List V) (d:Option Nat) (Z:Env) (O:Sto) (T:(Env->Sto->Prop)->Prop) (K:Env->Sto->Prop),(∀x,d=some x->x<cx.n/\x<inBase)->tb.eff f us d Z O=some T->T K->oU P cx f us Z O d K
def qbin (tb:Tb) (op:BinOp) (t:TypeId):V->V->Option V
 |.u (.one (.d (.int k a))),.u (.one (.d (.int k' b)))=>if isShift op then(shiftOp op k a b).map λx=>.u (.one (.d x))else if k=k' then(pL op k a b).map λx=>.u (.one (.d x))else none|.u (.one (.d (.bool a))),.u (.one (.d (.bool b)))=>match tb.ty t with
  |some ti=>match ti.desc with
   |.bool=>(negB op (a==b)).map λx=>.u (.one (.d x))|_=>none
  |none=>none
 |.u (.one (.d (.str a))),.u (.one (.d (.str b)))=>(strOp op a b).map λx=>.u (.one (.d x))|.u (.agg xs),.u (.agg ys)=>match tb.eqn t with
  |some n=>if xs.length=n/\ys.length=n then(uj xs ys).bind λb=>(negB op b).map λx=>.u (.one (.d x))else none|none=>none
 |.u (.one (.d x)),.u (.one (.d .nil))=>match tb.ty t with
  |some ti=>match ti.desc,x with
   |.slice _,.nil=>(negB op true).map λx=>.u (.one (.d x))|.slice _,.sl _ (_::_)=>(negB op false).map λx=>.u (.one (.d x))|_,_=>none
  |none=>none
 |_,_=>none
def isNilV:Value->Bool|.nilIface=>true|_=>false
def isNilC:Operand->Bool|.const v=>isNilV v|_=>false
def qbinN (tb:Tb) (op:BinOp) (t:TypeId) (x:V):Option V:=match x,tb.ty t with
 |.u (.one (.d (.er b))),some ti=>match ti.desc with
  |.interface _=>(negB op (!b)).map λx=>.u (.one (.d x))|_=>none
 |_,_=>none
def qbinO (tb:Tb) (op:BinOp) (t:TypeId) (c:Bool) (x y:V):Option V:=bif c then qbinN tb op t x else qbin tb op t x y
def pickV (c:Bool) (x y:V):V:=match x,y with|.u (.one (.d (.bool a))),.u (.one (.d (.bool b)))=>.u (.one (.d (.bool (bif c then a else b))))|x,y=>bif c then x else y
def nZ:V->Option (List C)|.u (.one .top)=>none|.u (.one c)=>some [c]|.u (.agg cs)=>some cs|.tup _=>none
def fillC (offs:List (Nat×Nat)):List C->List (Nat×V)->Option (List C)
 |cs,[]=>some cs|cs,(i,v)::r=>match offs[i]?,nZ v with
  |some (off,sz),some xs=>if xs.length=sz/\off+sz<=cs.length then fillC offs (cs.take off++xs++cs.drop (off+sz)) r else none|_,_=>none
def cdata:C->Option L|.d x=>some x|_=>none
def rq:List C->Option (List L)
 |[]=>some []|c::cs=>match cdata c,rq cs with
  |some x,some xs=>some (x::xs)|_,_=>none
def sP (sz:Nat):List (List L)->List (Nat×V)->Option (List (List L))
 |rs,[]=>some rs|rs,(i,v)::r=>match nZ v with
  |some xs=>match rq xs with
   |some ys=>if ys.length=sz/\i<rs.length then sP sz (rs.set i ys) r else none|none=>none
  |none=>none
def ta:List (Key×U)->Key->Option U|[],_=>none|x::es,k=>if x.1=k then some x.2 else ta es k
def cints:List C->Option (List Int)|[]=>some []|.d (.int .i64 n)::cs=>(cints cs).map (n::·)|_=>none
def vkey:V->Option Key|.u (.one (.d (.int k n)))=>some (.int k n)|.u (.one (.d (.str s)))=>some (.str s.data.toList)|.u (.agg cs)=>(cints cs).map .ints|_=>none
def qlen (O:Sto):V->Option Int
 |.u (.one (.d .nil))=>some 0|.u (.one (.d .emp))=>some 0|.u (.one (.d (.sl _ rows)))=>some rows.length|.u (.one (.d (.str s)))=>some s.size|.u (.one (.sub _ _ a n))=>some ((n-a:Nat):Int)|.u (.one (.own s))=>match O s with
  |some (.row _ _ rows)=>some rows.length|some (.nest (.row _) _ _ els)=>some els.length|_=>none
 |.u (.one (.map s))=>match O s with
  |some (.map _ es)=>some es.length|_=>none
 |_=>none
def qidx:V->Option Int|.u (.one (.d (.int _ n)))=>some n|_=>none
def oy (d:Nat):Option V->Option Int|none=>some d|some v=>qidx v
def tG:List V->Option (List C)|[]=>some []|.u (.one c)::r=>(tG r).map (c::·)|_=>none
def lenFits:TypeDesc->V->Bool|.slice _,.u (.one (.d .nil))|.slice _,.u (.one (.d .emp))|.slice _,.u (.one (.d (.sl _ _)))|.slice _,.u (.one (.own _))|.slice _,.u (.one (.sub _ _ _ _))=>true|.string,.u (.one (.d (.str _)))=>true|.map _ _,.u (.one (.map _))=>true|_,_=>false
def qload (tb:Tb) (O:Sto) (t:TypeId) (x:V):Option V:=match tb.ty t,x with
 |some ti,.u (.one c)=>match memOf O c with
  |some (cs,off)=>if ti.agg then(if off+ti.size<=cs.length then some (.u (.agg ((cs.drop off).take ti.size)))else none) else match cs[off]? with
    |some c=>some (.u (.one c))|none=>none
  |none=>none
 |_,_=>none
def qfield (tb:Tb) (t:TypeId) (x:V) (k:Nat):Option V:=match tb.ty t,x with
 |some ti,.u (.one c)=>match ti.desc,ti.offs[k]? with
  |.struct _,some (off,sz)=>if sz=0 then none else match c with
   |.ref xs o=>some (.u (.one (.ref xs (o+off))))|.box s o=>some (.u (.one (.box s (o+off))))|.elt s i z o=>some (.u (.one (.elt s i z (o+off))))|_=>none
  |_,_=>none
 |_,_=>none
def subR (xs:List L) (k sz:Nat):List L:=(xs.drop k).take sz
theorem repRow_take {w:World} {F:Nat->Prop}:∀(xs:List L) (n b o:Nat),dM w F xs b o->dM w F (xs.take n) b o|[],n,_,_,_=>by simp[dM]|x::xs,0,_,_,_=>by simp[dM]|x::xs,n+1,b,o,h=>by simp only[dM,List.take_succ_cons] at h⊢;exact⟨h.1,repRow_take xs n b (o+1) h.2⟩
theorem s6 {w:World} {F:Nat->Prop}:∀(xs:List L) (n b o:Nat),dM w F xs b o->dM w F (xs.drop n) b (o+n)|[],n,_,_,_=>by simp[dM]|x::xs,0,_,_,h=>h|x::xs,n+1,b,o,h=>by simp only[dM,List.drop_succ_cons] at h⊢;rw[show o+(n+1)=o+1+n from by omega];exact s6 xs n b (o+1) h.2
def pH (tb:Tb) (O:Sto) (t:TypeId) (x i:V):Option V:=match tb.ty t,x,i with
 |some ti,.u (.one c),.u (.one (.d (.int _ n)))=>match ti.desc with
  |.slice e=>match tb.ty e,c with
   |some te,.d (.sl sz rows)=>if 0<=n/\sz=te.size then match rows[n.toNat]? with
     |some r=>some (.u (.one (.ref r 0)))|none=>none else none
   |some te,.own s=>match O s with
    |some (.row sz _ rows)=>if 0<=n/\n.toNat<rows.length/\sz=te.size then some (.u (.one (.elt s n.toNat sz 0)))else none|some (.nest (.row _) _ _ els)=>if 0<=n/\n.toNat<els.length/\1=te.size then some (.u (.one (.elt s n.toNat 1 0)))else none|_=>none
   |_,_=>none
  |.array m e=>match tb.ty e,c with
   |some te,.box s o=>if 0<=n/\n<(m:Int)then some (.u (.one (.box s (o+n.toNat*te.size))))else none|some te,.ref xs o=>if 0<=n/\n<(m:Int)then some (.u (.one (.ref (subR xs (o+n.toNat*te.size) te.size) 0)))else none|_,_=>none
  |_=>none
 |_,_,_=>none
def slX (b:Bool) (sz:Nat) (rows:List (List L)):L:=bif b then .slx sz rows else .sl sz rows
def qslice3 (tb:Tb) (t:TypeId) (x:V) (lo hi:Option V) (m:V):Option V:=match tb.ty t,x,hi with
 |some ti,.u (.one (.d (.sl sz rows))),some hi=>match ti.desc,oy 0 lo,qidx hi,qidx m with
  |.slice e,some l,some h,some k=>match tb.ty e with
   |some te=>if sz=te.size/\0<=l/\l<=h/\h<=k/\k<=rows.length then some (.u (.one (.d (slX (tb.capd&&h==k) sz ((rows.take h.toNat).drop l.toNat)))))else none|none=>none
  |_,_,_,_=>none
 |_,_,_=>none
def chunkR (sz:Nat):List L->Nat->List (List L)|_,0=>[]|xs,m+1=>xs.take sz::chunkR sz (xs.drop sz) m
theorem chunkR_length (sz:Nat):∀(xs:List L) (m:Nat),(chunkR sz xs m).length=m|_,0=>rfl|xs,m+1=>by simp[chunkR,chunkR_length sz (xs.drop sz) m]
theorem repRows_chunk {w:World} {F:Nat->Prop} {sz:Nat}:∀(m:Nat) (xs:List L) (b o:Nat),m*sz<=xs.length->dM w F xs b o->cJ w F sz (chunkR sz xs m) b o|0,_,_,_,_,_=>by simp[chunkR,cJ]|m+1,xs,b,o,hl,h=>by rw[Nat.add_mul] at hl;simp only[chunkR,cJ];exact⟨⟨by grind,repRow_take xs sz b o h⟩,repRows_chunk m (xs.drop sz) b (o+sz) (by grind) (s6 xs sz b o h)⟩
def sliceR (sz m:Nat) (xs:List L):Option V:=if m*sz<=xs.length/\m<=16777216 then some (.u (.one (.d (.sl sz (chunkR sz xs m)))))else none
def qsliceA (tb:Tb) (d:TypeDesc) (xs:List L) (lo hi:Option V):Option V:=match d,lo,hi with
 |.array m e,none,none=>match tb.ty e with
  |some te=>sliceR te.size m xs|none=>none
 |_,_,_=>none
def bs (l:List UInt8):ByteArray:=⟨l.toArray⟩
def bsl (s:ByteArray):List UInt8:=s.data.toList
theorem bsl_bs (l:List UInt8):bsl (bs l)=l:=rfl
def qslice (tb:Tb) (t:TypeId) (x:V) (lo hi mx:Option V):Option V:=match mx with
 |some m=>qslice3 tb t x lo hi m|none=>match tb.ty t,x with
 |some ti,.u (.one (.d (.str s)))=>match ti.desc,oy 0 lo,oy (bsl s).length hi with
  |.string,some l,some h=>if 0<=l/\l<=h/\h<=(bsl s).length then some (.u (.one (.d (.str (bs (((bsl s).take h.toNat).drop l.toNat))))))else none|_,_,_=>none
 |some ti,.u (.one (.d (.sl sz rows)))=>match ti.desc,oy 0 lo,oy rows.length hi with
  |.slice e,some l,some h=>match tb.ty e with
   |some te=>if sz=te.size/\0<=l/\l<=h/\h<=rows.length then some (.u (.one (.d (.sl sz ((rows.take h.toNat).drop l.toNat)))))else none|none=>none
  |_,_,_=>none
 |some ti,.u (.one (.ref xs o))=>qsliceA tb ti.desc (xs.drop o) lo hi|_,_=>none
def qun (op:UnOp) (x:V):Option V:=match op,x with|.not,.u (.one (.d (.bool b)))=>some (.u (.one (.d (.bool !b))))|.neg,.u (.one (.d (.int k n)))=>some (.u (.one (.d (.int k (k.wrap (0-n))))))|_,_=>none
def qconv (tb:Tb) (src dst:TypeId) (x:V):Option V:=match tb.ty src,tb.ty dst,x with
 |some _,some td,.u (.one (.d (.int _ n)))=>match td.desc with
  |.int k=>some (.u (.one (.d (.int k (k.wrap n)))))|_=>none
 |_,_,_=>none
def rowsV (O:Sto):V->Option (List (List L))
 |.u (.one (.d .nil))=>some []|.u (.one (.d .emp))=>some []|.u (.one (.d (.sl _ rows)))=>some rows|.u (.one (.own s))=>match O s with
  |some (.row _ _ rows)=>some rows|_=>none
 |_=>none
def hY:List (List L)->Option (List Int)|[]=>some []|[.int .u8 n]::rs=>(hY rs).map (n::·)|_=>none
def byteL (b:UInt8):List L:=[.int .u8 b.toNat]
def ofBytes (l:List Int):List UInt8:=l.map λn=>UInt8.ofNat n.toNat
def qstr (tb:Tb) (O:Sto) (src dst:TypeId) (x:V):Option V:=match tb.ty src,tb.ty dst with
 |some ts,some td=>match ts.desc,td.desc with
  |.string,.string=>match x with
   |.u (.one (.d (.str s)))=>some (.u (.one (.d (.str s))))|_=>none
  |.slice e,.string=>match tb.ty e with
   |some te=>match te.desc,rowsV O x with
    |.int .u8,some rows=>(hY rows).map λns=>.u (.one (.d (.str (bs (ofBytes ns)))))|_,_=>none
   |none=>none
  |.string,.slice e=>match tb.ty e,x with
   |some te,.u (.one (.d (.str s)))=>match te.desc with
    |.int .u8=>if(bsl s).length<=2 ^ 40 then some (.u (.one (.d (.sl 1 ((bsl s).map byteL)))))else none|_=>none
   |_,_=>none
  |_,_=>none
 |_,_=>none
def qcnv (tb:Tb) (O:Sto) (src dst:TypeId) (x:V):Option V:=match qconv tb src dst x with|some v=>some v|none=>qstr tb O src dst x
def qnil:V->Option V|.u (.one (.box s o))=>some (.u (.one (.box s o)))|.u (.one (.ref xs o))=>some (.u (.one (.ref xs o)))|.u (.one (.elt s i z o))=>some (.u (.one (.elt s i z o)))|_=>none
def offsA (sz:Nat):Nat->Nat->List (Nat×Nat)|0,_=>[]|m+1,o=>(o,sz)::offsA sz m (o+sz)
def qbuildA (te:Option TI) (m:Nat) (cs:List C) (parts:List (Nat×V)):Option V:=match te with|some te=>(fillC (offsA te.size m 0) cs parts).map λcs=>.u (.agg cs)|none=>none
def qbuild (tb:Tb) (t:TypeId) (parts:List (Nat×V)):Option V:=match tb.ty t with
 |some ti=>match ti.desc,ti.zu with
  |.struct _,.agg cs=>(fillC ti.offs cs parts).map λcs=>.u (.agg cs)|.array m e,.agg cs=>qbuildA (tb.ty e) m cs parts|_,_=>none
 |none=>none
def oT (tb:Tb) (t:TypeId) (n:Nat) (parts:List (Nat×V)):Option V:=match tb.ty t with
 |some ti=>match ti.desc with
  |.slice e=>match tb.ty e with
   |some te=>if n=0/\parts=[] then some (.u (.one (.d .emp)))else if te.size=0\/n*te.size>2 ^ 24 then none else match nZ (.u te.zu)with
    |some zs=>match rq zs with
     |some zr=>(sP te.size (List.replicate n zr) parts).map λrs=>.u (.one (.d (.sl te.size rs)))|none=>none
    |none=>none
   |none=>none
  |_=>none
 |none=>none
def qextract (x:V) (i:Nat):Option V:=match x with
 |.tup us=>match us[i]? with
  |some u=>some (.u u)|none=>none
 |_=>none
def qlenB (tb:Tb) (O:Sto) (t:TypeId) (x:V):Option V:=match tb.ty t with|some ti=>if lenFits ti.desc x then(qlen O x).map λn=>.u (.one (.d (.int .i64 n)))else none|none=>none
def qpart (tf:Option TI) (cs:List C) (off:Nat):Option V:=match tf with
 |some tf=>if tf.agg then(if off+tf.size<=cs.length then some (.u (.agg ((cs.drop off).take tf.size)))else none)else match cs[off]? with
  |some c=>some (.u (.one c))|none=>none
 |none=>none
def qfieldV (tb:Tb) (t:TypeId) (x:V) (k:Nat):Option V:=match tb.ty t,x with
 |some ti,.u (.agg cs)=>match ti.desc with
  |.struct fs=>match fs.toList[k]? with
   |some f=>qpart (tb.ty f.type) cs f.offset|none=>none
  |_=>none
 |_,_=>none
def qmax (x y:V):Option V:=match x,y with|.u (.one (.d (.int k a))),.u (.one (.d (.int _ b)))=>some (.u (.one (.d (.int k (if b>a then b else a)))))|_,_=>none
def qmaxs:V->List V->Option V|.u (.one (.d (.int k a))),[]=>some (.u (.one (.d (.int k a))))|.u (.one (.d (.int k a))),y::r=>(qmax (.u (.one (.d (.int k a)))) y).bind λz=>qmaxs z r|_,_=>none
def eC (tb:Tb) (O:Sto) (t:TypeId) (m k:V) (ok:Bool):Option V:=match tb.ty t,m,vkey k with
 |some ti,.u (.one (.map s)),some key=>match ti.desc,O s with
  |.map kt e,some (.map kk es)=>match tb.ty e with
   |some te=>if tb.key kt=some kk/\key.fits kk=true then (match ta es key with
     |some u=>if ok then some (.tup [u,.one (.d (.bool true))])else some (.u u)|none=>if ok then some (.tup [te.zu,.one (.d (.bool false))])else some (.u te.zu)) else none
   |none=>none
  |_,_=>none
 |_,_,_=>none
def qpick (c a b:V):Option V:=match c with|.u (.one (.d (.bool t)))=>some (pickV t a b)|_=>none
def iU:List Key->Key->Nat|[],_=>0|x::ks,k=>if x=k then 0 else iU ks k+1
def ownN (els:List NE) (i:Nat):Option V:=match els[i]? with|some (.own t)=>some (.u (.one (.own t)))|_=>none
def isNilU:U->Bool|.one (.d .nil)=>true|_=>false
def qlkN (kk':Option KK) (te:Option TI) (kk:KK) (ks:List Key) (els:List NE) (key:Key):Option V:=match te with|some te=>if kk'=some kk/\key.fits kk=true/\isNilU te.zu=true/\iU ks key<ks.length then ownN els (iU ks key)else none|none=>none
def qlookN (tb:Tb) (O:Sto) (t:TypeId) (m k:V) (ok:Bool):Option V:=match tb.ty t,m,vkey k,ok with
 |some ti,.u (.one (.map s)),some key,false=>match ti.desc,O s with
  |.map kt e,some (.nest (.map kk ks) _ _ els)=>qlkN (tb.key kt) (tb.ty e) kk ks els key|_,_=>none
 |_,_,_,_=>none
def orV (x y:Option V):Option V:=match x with|some v=>some v|none=>y
def subRow (rows:List (List L)) (a n:Nat):List (List L):=(rows.take n).drop a
def qsubO (tb:Tb) (O:Sto) (t:TypeId) (x:V) (lo hi mx:Option V):Option V:=match mx,tb.ty t,x with
 |none,some ti,.u (.one (.own s))=>match ti.desc,O s with
  |.slice e,some (.row sz _ rows)=>match tb.ty e,oy 0 lo,oy rows.length hi with
   |some te,some l,some h=>if sz=te.size/\0<=l/\l<=h/\h<=rows.length then some (.u (.one (.sub s sz l.toNat h.toNat)))else none|_,_,_=>none
  |_,_=>none
 |_,_,_=>none
def qidxP (tb:Tb) (O:Sto) (t:TypeId) (x i:V):Option V:=match tb.ty t,x,i with
 |some ti,.u (.one (.sub s sz a m)),.u (.one (.d (.int _ n)))=>match ti.desc,O s with
  |.slice e,some (.row sz' _ rows)=>match tb.ty e with
   |some te=>if sz=te.size/\sz'=sz/\0<=n/\a+n.toNat<m/\m<=rows.length then some (.u (.one (.elt s (a+n.toNat) sz 0)))else none|none=>none
  |_,_=>none
 |_,_,_=>none
def qev (tb:Tb) (Z:Env) (O:Sto) (op:Op):Option V :=match op with
 |.move x|.assign x=>some (oev Z x)|.pick c a b=>qpick (oev Z c) (oev Z a) (oev Z b)|.load t x=>qload tb O t (oev Z x)|.fieldAddr t x k=>qfield tb t (oev Z x) k|.indexAddr t x i=>orV (pH tb O t (oev Z x) (oev Z i)) (qidxP tb O t (oev Z x) (oev Z i))|.slice t x lo hi mx=>orV (qslice tb t (oev Z x) (lo.map (oev Z)) (hi.map (oev Z)) (mx.map (oev Z))) (qsubO tb O t (oev Z x) (lo.map (oev Z)) (hi.map (oev Z)) (mx.map (oev Z)))|.binOp op t x y _=>qbinO tb op t (isNilC y) (oev Z x) (oev Z y)|.unOp op _ x=>qun op (oev Z x)|.convert src dst x=>qcnv tb O src dst (oev Z x)|.nilCheck x=>qnil (oev Z x)|.build t parts=>qbuild tb t (parts.toList.map λp=>(p.1,oev Z p.2))|.buildSlice t n parts=>oT tb t n (parts.toList.map λp=>(p.1,oev Z p.2))|.extract x i=>qextract (oev Z x) i|.makeFunc (.func f) first caps=>if first.toList=[] then(tG (caps.toList.map (oev Z))).map λcs=>.u (.one (.fn f cs))else none
 |.lookup t m k ok=>orV (eC tb O t (oev Z m) (oev Z k) ok) (qlookN tb O t (oev Z m) (oev Z k) ok)|.call c=>match c.callee,c.args.toList,c.argTypes.toList with
  |.builtin .len,[x],[t]=>qlenB tb O t (oev Z x)|.builtin .max,x::r,_=>qmaxs (oev Z x) (r.map (oev Z))|_,_,_=>none
 |_=>none
end Go.AM
namespace Go.AM
open Go.RowKit
def Yields (P:Program) (E:Nat->Value) (F:Nat->Prop) (s:Sem Value) (w:World) (v:V):Prop :=∃u w',s.run P w=.ok u w'/\Blw w.heap.size w w'/\bI E w' F v u
section
variable {P:Program} {E:Nat->Value} {F:Nat->Prop} {w:World} {tb:Tb} {O:Sto} {cx:Cx}
theorem Yields.here {s:Sem Value} {v:V} {u:Value} (h:s.run P w=.ok u w) (hv:bI E w F v u):Yields P E F s w v:=⟨u,w,h,Blw.refl _ _,hv⟩
theorem addr_add (b o n:Nat):(⟨b,o,none⟩:Addr).add n=⟨b,o+n,none⟩:=by unfold Addr.add;simp
theorem qload_here (ht:TbOk P tb) (hco:Core cx E O w) {t:TypeId} {x v:V} {u:Value} (h:qload tb O t x=some v) (hx:bI E w (cx.fr E O) x u) :∃y,(Instr.loadAt t u).run P w=.ok y w/\bI E w (cx.fr E O) v y:=by
 unfold qload at h;split at h
 ·rename_i ti c hty;have T:=ht.ty t ti hty;split at h
  ·rename_i cs off hm;obtain⟨b,o,rfl,hmem⟩:=memOf_sound hco hm hx;split at h
   ·rename_i hagg;split at h
    ·rename_i hle;cases h;obtain⟨us,h1,h2⟩:=hmem.sub off ti.size;have hl:us.length=ti.size:=by rw[<- cR h1];simp;omega
     refine⟨.agg us.toArray,?_,us.toArray,rfl,by simpa using h1⟩;have:=run_loadCells_list (P:=P) w ⟨b,o+off,none⟩ us (λj u hj=>by simp_all[addr_add]);rw[hl] at this;simp[Instr.loadAt,Instr.sureAddr,loadVar,T.run_agg,T.run_size,hagg,this]
    ·cases h
   ·rename_i hagg;split at h;{rename_i c' hc';cases h;obtain⟨us,h1,h2⟩:=hmem;obtain⟨u,hu,hcu⟩:=t7 h1 hc';refine⟨u,?_,hcu⟩;simp[Instr.loadAt,Instr.sureAddr,loadVar,T.run_agg,hagg,load,Sem.run,(h2 off u hu).1]};{cases h}
  ·cases h
 ·cases h
theorem qload_sound (ht:TbOk P tb) (hco:Core cx E O w) {t:TypeId} {x v:V} {u:Value} (h:qload tb O t x=some v) (hx:bI E w (cx.fr E O) x u) :
  Yields P E (cx.fr E O) (Instr.loadAt t u) w v :=
 let ⟨_,h1,h2⟩:=qload_here ht hco h hx
 Yields.here h1 h2
theorem qfield_sound (ht:TbOk P tb) {t:TypeId} {x v:V} {k:Nat} {u:Value} (h:qfield tb t x k=some v) (hx:bI E w F x u) :
  Yields P E F (Instr.fieldAt t u k) w v:=by
 unfold qfield at h;split at h
 ·rename_i ti c hty;have T:=ht.ty t ti hty;split at h
  ·rename_i fs off sz hd hk;have ho:=T.offs fs hd;rw[ho,List.getElem?_map] at hk;cases hf:fs.toList[k]? with
   |none=>simp_all|some f=>
    rw[hf] at hk;simp only[Option.map_some,Option.some.injEq,Prod.mk.injEq] at hk;obtain⟨h1,h2⟩:=hk;have hf':fs[k]?=some f:=by simpa using hf
    split at h;{cases h}
    ·rename_i hsz;have place:∀b o,(fieldPlace ⟨b,o,none⟩ f).run P w=.ok ⟨b,o+off,none⟩ w:=by
      intro b o;unfold fieldPlace;have hi:∃i,P.info? f.type=some i/\i.size=sz:=by
       unfold Program.cellsOf at h2;cases hi:P.info? f.type with
       |none=>simp_all|some i=>simp_all
      obtain⟨i,hi,hi'⟩:=hi;have hrun:(sizeOf f.type).run P w=.ok sz w:=by simp[sizeOf,typeInfo,hi,hi']
      simp[hrun,hsz,addr_add,h1]
     have run:∀b o,(Instr.fieldAt t (.pointer (some ⟨b,o,none⟩)) k).run P w=.ok (.pointer (some ⟨b,o+off,none⟩)) w:=by intro b o;unfold Instr.fieldAt;simp only[Sem.run_bind,T.run_und,Result.andThen_ok,hd,hf',Instr.sureAddr,Sem.run_pure,place]
     split at h;{cases h;simp only[bI,ct,bG] at hx;obtain⟨b,o,rfl,hF,hl,hr⟩:=hx;grind[Yields.here,bI,ct,bG]};{cases h;simp only[bI,ct,bG] at hx;obtain⟨b,hp,rfl⟩:=hx;exact Yields.here (run _ _) (by simp only[bI,ct,bG];simp_all)};{cases h;simp only[bI,ct,bG] at hx;obtain⟨b,n,c,hp,rfl⟩:=hx;grind[Yields.here,bI,ct,bG]};{cases h}
  ·cases h
 ·cases h
theorem qidxP_sound (ht:TbOk P tb) (hco:Core cx E O w) {t:TypeId} {x i v:V} {u q:Value} (h:qidxP tb O t x i=some v) (hx:bI E w (cx.fr E O) x u) (hi:bI E w (cx.fr E O) i q) :
  Yields P E (cx.fr E O) (Instr.indexAt t u q) w v:=by
 unfold qidxP at h;split at h
 ·rename_i ti s sz a m k n hty;have T:=ht.ty t ti hty;simp only[bI,ct,bG,rep] at hi;subst hi;split at h
  ·rename_i e sz' e' rows hd hs;split at h
   ·rename_i te hte;have TE:=ht.ty e te hte;split at h
    ·rename_i hn;cases h;obtain⟨rfl,rfl,h1,h2,h3⟩:=hn;obtain⟨_,ho⟩:=hco.objs s _ hs;simp only[bI,ct,bG] at hx;obtain⟨ao,len,cap,hp',ha,hl,rfl⟩:=hx;rcases ho with⟨h0,_⟩|⟨b,cap',cur,h0,hp,hl',hm',hh,hs',hc⟩;{rw[h0] at h3;simp at h3;omega}
     ·rw[hp,hdv_slice] at hp';simp only[Value.slice.injEq] at hp';obtain⟨rfl,rfl,rfl⟩:=hp';have hcap:¬ cap'=a:=by omega
      have hlt':n<((m-a:Nat):Int):=by omega
      refine Yields.here (u:=.pointer (some ⟨b,(a+n.toNat)*te.size,none⟩)) ?_ ?_;{simp[Instr.indexAt,asIntOf,T.run_und,hd,TE.run_size,h1,hlt',addr_add,subA,hcap,Nat.add_mul]};{simp only[bI,ct,bG];exact⟨b,_,_,by rw[hp,hdv_slice],by simp⟩}
    ·cases h
   ·cases h
  ·cases h
 ·cases h
theorem qindex_sound (ht:TbOk P tb) (hco:Core cx E O w) {t:TypeId} {x i v:V} {u q:Value} (h:pH tb O t x i=some v) (hx:bI E w (cx.fr E O) x u) (hi:bI E w (cx.fr E O) i q) :
  Yields P E (cx.fr E O) (Instr.indexAt t u q) w v:=by
 unfold pH at h;split at h
 ·rename_i ti c k n hty;have T:=ht.ty t ti hty;simp only[bI,ct,bG,rep] at hi;subst hi;split at h
  ·rename_i e hd;split at h
   ·rename_i te sz rows hte;have TE:=ht.ty e te hte;split at h
    ·rename_i hn;split at h
     ·rename_i r hr;cases h;simp only[bI,ct,bG,rep] at hx;obtain⟨ao,m,cap,rfl,hm,hc,hmx,hrows⟩:=hx;have hlt:n.toNat<rows.length:=(List.getElem?_eq_some_iff.1 hr).1;rcases hrows with hrows|⟨b,o,rfl,hF,hl,hrows⟩;{simp_all}
      ·have hg:=repRows_get hrows hr;have hlt':n<(m:Int):=by omega
       refine Yields.here (u:=.pointer (some ⟨b,o+n.toNat*te.size,none⟩)) ?_ ?_;{simp[Instr.indexAt,asIntOf,T.run_und,hd,TE.run_size,hn.1,hlt',addr_add]};{simp only[bI,ct,bG];grind}
     ·cases h
    ·cases h
   ·rename_i te s hte;have TE:=ht.ty e te hte;split at h
    ·rename_i sz e' rows hs;split at h
     ·rename_i hn;cases h;obtain⟨_,ho⟩:=hco.objs s _ hs;simp only[bI,ct,bG] at hx;rcases ho with⟨h0,_⟩|⟨b,cap,cur,h0,hp,hl,hm',hh,hs',hc⟩;{grind}
      ·rw[hp] at hx;obtain⟨rfl,_⟩:=hx;have hlt':n<(rows.length:Int):=by omega
       refine Yields.here (u:=.pointer (some ⟨b,n.toNat*te.size,none⟩)) ?_ ?_;{simp[Instr.indexAt,asIntOf,T.run_und,hd,TE.run_size,hn.1,hlt',addr_add]};simp_all[bI,ct,bG]
     ·cases h
    ·rename_i ne ie isz els hs;split at h
     ·rename_i hn;cases h;obtain⟨out,ivs,cs,hp,hnd,hsp,hns⟩:=hco.objs s _ hs;simp only[bI,ct,bG] at hx;rw[hp,fB] at hx;rcases hsp with⟨h0,_⟩|⟨b,cap,cur,h0,ho,hl,hm',hh,hs',hc⟩;{omega}
      ·subst ho;obtain⟨rfl,_⟩:=hx;have hlt':n<(els.length:Int):=by omega
       refine Yields.here (u:=.pointer (some ⟨b,n.toNat*te.size,none⟩)) ?_ ?_;{simp[Instr.indexAt,asIntOf,T.run_und,hd,TE.run_size,hn.1,hlt',addr_add]};{simp only[bI,ct,bG];exact⟨b,_,_,by rw[hp,fB],by rw[<- hn.2.2];simp⟩}
     ·cases h
    ·cases h
   ·cases h
  ·rename_i m e hd;split at h;{rename_i te s o hte;have TE:=ht.ty e te hte;split at h;{rename_i hn;cases h;simp only[bI,ct,bG] at hx;obtain⟨b,hp,rfl⟩:=hx;refine Yields.here (u:=.pointer (some ⟨b,o+n.toNat*te.size,none⟩)) ?_ ?_;{simp[Instr.indexAt,Instr.sureAddr,asIntOf,T.run_und,hd,TE.run_size,hn.1,hn.2,addr_add]};{simp only[bI,ct,bG];simp_all}};{cases h}};{rename_i te xs o hte;have TE:=ht.ty e te hte;split at h;{rename_i hn;cases h;simp only[bI,ct,bG] at hx;obtain⟨b,o',rfl,hF,hl,hr⟩:=hx;refine Yields.here (u:=.pointer (some ⟨b,o'+o+n.toNat*te.size,none⟩)) ?_ ?_;{simp[Instr.indexAt,Instr.sureAddr,asIntOf,T.run_und,hd,TE.run_size,hn.1,hn.2,addr_add]};{simp only[bI,ct,bG];exact⟨b,o'+(o+n.toNat*te.size),by simp,hF,hl,repRow_take _ _ _ _ (s6 _ _ _ _ hr)⟩}};{cases h}};{cases h}
  ·cases h
 ·cases h
def tp (E:Nat->Value) (w:World) (F:Nat->Prop):Option V->Option Value->Prop|none,none=>True|some x,some u=>bI E w F x u|_,_=>False
theorem ls {d:Nat} {x:Option V} {u:Option Value} {l:Int} (h:oy d x=some l) (hx:tp E w F x u) :(x=none/\u=none/\l=d)\/∃k,u=some (.int k l):=by
 cases x with
 |none=>
  cases u with
  |none=>simp only[oy,Option.some.injEq] at h;simp_all|some u=>exact hx.elim
 |some x=>
  cases u with
  |none=>exact hx.elim|some u=>simp only[oy] at h;unfold qidx at h;grind[tp,bI,ct,bG,rep]
theorem qidx_int {x:V} {u:Value} {n:Int} (h:qidx x=some n) (hx:bI E w F x u):∃k,u=.int k n:=by unfold qidx at h;grind[bI,ct,bG,rep]
theorem qslice3_sound (ht:TbOk P tb) {t:TypeId} {x v m:V} {lo hi:Option V} {u um:Value} {ulo uhi:Option Value} (h:qslice3 tb t x lo hi m=some v) (hx:bI E w F x u) (hlo:tp E w F lo ulo) (hhi:tp E w F hi uhi) (hmx:bI E w F m um):Yields P E F (Instr.sliceAt t u ulo uhi (some um)) w v:=by
 unfold qslice3 at h;split at h
 ·rename_i ti sz rows hi' hty;have T:=ht.ty t ti hty;cases uhi with
  |none=>exact hhi.elim|some uhi=>
  split at h
  ·rename_i e l hh kk hd hl hh' hk';obtain⟨kh,rfl⟩:=qidx_int hh' hhi;obtain⟨km,rfl⟩:=qidx_int hk' hmx;split at h
   ·rename_i te hte;have TE:=ht.ty e te hte;split at h
    ·rename_i hc;cases h;obtain⟨hsz,h0,h1,h2,h3⟩:=hc;simp only[bI,ct,bG,rep] at hx;obtain⟨ao,m,cap,rfl,hm,hcap,hmx,hrows⟩:=hx;have run:(Instr.sliceBounds true m cap ulo (some (.int kh hh)) (some (.int km kk))).run P w=.ok (l.toNat,hh.toNat,kk.toNat) w:=by unfold Instr.sliceBounds;rcases ls hl hlo with⟨_,rfl,rfl⟩|⟨k,rfl⟩;{simp[run_sliceBound w km kk cap .slice3Acap (by omega) (by omega),run_sliceBound w kh hh kk.toNat .slice3B (by omega) (by omega)]};{simp[run_sliceBound w km kk cap .slice3Acap (by omega) (by omega),run_sliceBound w kh hh kk.toNat .slice3B (by omega) (by omega),run_sliceBound w k l hh.toNat .slice3C (by omega) (by omega)]}
     refine Yields.here (u:=.slice (if kk.toNat=l.toNat then ao else ao.map (·.add (l.toNat*te.size))) (hh.toNat-l.toNat) (kk.toNat-l.toNat)) ?_ ?_;{simp[Instr.sliceAt,Instr.slice,T.run_und,hd,run,TE.run_size]}
     ·have hout:List.drop l.toNat (List.take hh.toNat rows)=[]\/∃b o,(if kk.toNat=l.toNat then ao else ao.map (·.add (l.toNat*te.size)))=some ⟨b,o,none⟩/\F b/\b<w.heap.size/\cJ w F te.size (List.drop l.toNat (List.take hh.toNat rows)) b o:=by rcases hrows with hrows|⟨b,o,rfl,hF,hbl,hrows⟩;{simp_all};{by_cases hz:hh.toNat<=l.toNat;{grind};{right;rw[if_neg (by omega)];refine⟨b,o+l.toNat*te.size,by simp[addr_add],hF,hbl,?_⟩;simp_all[qb,pM]}}
      subst hsz;simp only[bI,ct,bG];unfold slX;cases hcd:(tb.capd&&hh==kk)with
      |false=>simp only[cond_false,rep];exact⟨_,_,_,rfl,by simp;omega,by omega,by omega,hout⟩|true=>simp only[Bool.and_eq_true,beq_iff_eq] at hcd;simp only[cond_true,rep];exact⟨_,_,by rw[hcd.2],by simp;omega,by omega,hout⟩
    ·cases h
   ·cases h
  ·cases h
 ·cases h
theorem qsubO_sound (ht:TbOk P tb) (hco:Core cx E O w) {t:TypeId} {x v:V} {lo hi mx:Option V} {u:Value} {ulo uhi umx:Option Value} (h:qsubO tb O t x lo hi mx=some v) (hx:bI E w (cx.fr E O) x u) (hlo:tp E w (cx.fr E O) lo ulo) (hhi:tp E w (cx.fr E O) hi uhi) (hmx:tp E w (cx.fr E O) mx umx):Yields P E (cx.fr E O) (Instr.sliceAt t u ulo uhi umx) w v:=by
 unfold qsubO at h;split at h
 ·rename_i ti s hty;have humx:umx=none:=by cases umx with|none=>rfl|some _=>exact hmx.elim
  subst humx;have T:=ht.ty t ti hty;split at h
  ·rename_i e sz e' rows hd hs;split at h
   ·rename_i te l hh hte hl hh';have TE:=ht.ty e te hte;split at h
    ·rename_i hc;cases h;obtain⟨rfl,h0,h1,h2⟩:=hc;obtain⟨_,ho⟩:=hco.objs s _ hs;obtain⟨rfl,_⟩:=hx;obtain⟨ao,cap,hp,hcap⟩:∃ao cap,hdv (E s)=.slice ao rows.length cap/\rows.length<=cap:=by rcases ho with⟨h0,a,ha⟩|⟨b,cap',cur,h0,hp,hl',hm',hh,hs',hc⟩;{exact⟨a,0,by rw[ha,h0];rfl,by rw[h0];simp⟩};{exact⟨_,cap',by rw[hp];rfl,hl'⟩}
     have run:(Instr.sliceBounds true rows.length cap ulo uhi none).run P w=.ok (l.toNat,hh.toNat,cap) w:=by unfold Instr.sliceBounds;rcases ls hl hlo with⟨_,rfl,rfl⟩|⟨k,rfl⟩<;>rcases ls hh' hhi with⟨_,rfl,rfl⟩|⟨k',rfl⟩;{simp};{simp[run_sliceBound w k' hh cap .sliceAcap (by omega) (by omega)]};{simp[run_sliceBound w k l rows.length .sliceB (by omega) (by omega)]};{simp[run_sliceBound w k' hh cap .sliceAcap (by omega) (by omega),run_sliceBound w k l hh.toNat .sliceB (by omega) (by omega)]}
     refine Yields.here (u:=.slice (subA ao cap l.toNat te.size) (hh.toNat-l.toNat) (cap-l.toNat)) ?_ ?_;{rw[hp];simp[Instr.sliceAt,Instr.slice,T.run_und,hd,run,TE.run_size,subA]};{simp only[bI,ct,bG];exact⟨ao,_,cap,hp,by omega,by omega,rfl⟩}
    ·cases h
   ·cases h
  ·cases h
 ·cases h
theorem orV_sound {x y:Option V} {v:V} (h:orV x y=some v):x=some v\/y=some v:=by
 unfold orV at h;cases x with
 |none=>exact .inr h|some z=>exact .inl h
theorem qslice_sound (ht:TbOk P tb) {t:TypeId} {x v:V} {lo hi mx:Option V} {u:Value} {ulo uhi umx:Option Value} (h:qslice tb t x lo hi mx=some v) (hx:bI E w F x u) (hlo:tp E w F lo ulo) (hhi:tp E w F hi uhi) (hmx:tp E w F mx umx):Yields P E F (Instr.sliceAt t u ulo uhi umx) w v:=by
 unfold qslice at h;split at h;{rename_i m;cases umx with|none=>exact hmx.elim|some um=>exact qslice3_sound ht h hx hlo hhi hmx};have humx:umx=none:=by cases umx with|none=>rfl|some _=>exact hmx.elim
 subst humx;split at h
 ·rename_i ti s hty;have T:=ht.ty t ti hty;split at h
  ·rename_i l hh hd hl hh';split at h
   ·rename_i hc;cases h;obtain⟨h0,h1,h2⟩:=hc;simp only[bI,ct,bG,rep] at hx;subst hx;have hsz:s.size=(bsl s).length:=rfl;have run:(Instr.sliceBounds false s.size s.size ulo uhi none).run P w=.ok (l.toNat,hh.toNat,s.size) w:=by unfold Instr.sliceBounds;rcases ls hl hlo with⟨_,rfl,rfl⟩|⟨k,rfl⟩<;>rcases ls hh' hhi with⟨_,rfl,rfl⟩|⟨k',rfl⟩;{simp[hsz]};{simp[hsz,run_sliceBound w k' hh (bsl s).length .sliceAlen (by omega) (by omega)]};{simp[hsz,run_sliceBound w k l (bsl s).length .sliceB (by omega) (by omega)]};{simp[hsz,run_sliceBound w k' hh (bsl s).length .sliceAlen (by omega) (by omega),run_sliceBound w k l hh.toNat .sliceB (by omega) (by omega)]}
    have hex:s.extract l.toNat hh.toNat=bs (((bsl s).take hh.toNat).drop l.toNat):=by
     ext1
     apply Array.ext';simp[bs,bsl,ByteArray.data_extract,List.extract_eq_take_drop,List.drop_take]
    exact Yields.here (u:=.string (bs (((bsl s).take hh.toNat).drop l.toNat))) (by simp[Instr.sliceAt,Instr.slice,T.run_und,hd,run,hex]) (by rfl)
   ·cases h
  ·cases h
 ·rename_i ti sz rows hty;have T:=ht.ty t ti hty;split at h
  ·rename_i e l hh hd hl hh';split at h
   ·rename_i te hte;have TE:=ht.ty e te hte;split at h
    ·rename_i hc;cases h;obtain⟨hsz,h0,h1,h2⟩:=hc;simp only[bI,ct,bG,rep] at hx;obtain⟨ao,m,cap,rfl,hm,hcap,hmx,hrows⟩:=hx;have hbl:∀(q:Option Value) (d:Int),(∃k,q=some (.int k d))->0<=d->∀(y:Nat) (code:BoundsCode),d<=y->∀v,q=some v->(Instr.sliceBound v y code).run P w=.ok d.toNat w:=by rintro q d ⟨k,rfl⟩ hd0 y code hdy v hv;cases hv;exact run_sliceBound w k d y code hd0 hdy
     have run:(Instr.sliceBounds true m cap ulo uhi none).run P w=.ok (l.toNat,hh.toNat,cap) w:=by unfold Instr.sliceBounds;rcases ls hl hlo with⟨_,rfl,rfl⟩|⟨k,rfl⟩<;>rcases ls hh' hhi with⟨_,rfl,rfl⟩|⟨k',rfl⟩;{simp[hm]};{simp[run_sliceBound w k' hh cap .sliceAcap (by omega) (by omega)]};{simp_all};{simp[run_sliceBound w k' hh cap .sliceAcap (by omega) (by omega),run_sliceBound w k l hh.toNat .sliceB (by omega) (by omega)]}
     refine Yields.here (u:=.slice (if cap=l.toNat then ao else ao.map (·.add (l.toNat*te.size))) (hh.toNat-l.toNat) (cap-l.toNat)) ?_ ?_;{simp[Instr.sliceAt,Instr.slice,T.run_und,hd,run,TE.run_size]};{simp only[bI,ct,bG,rep];refine⟨_,_,_,rfl,by simp;omega,by omega,by omega,?_⟩;rcases hrows with hrows|⟨b,o,rfl,hF,hbl,hrows⟩;{simp_all};{by_cases hz:hh.toNat<=l.toNat;{simp_all};{right;rw[if_neg (by omega)];refine⟨b,o+l.toNat*te.size,by simp[addr_add],hF,hbl,?_⟩;simp_all[qb,pM]}}}
    ·cases h
   ·cases h
  ·cases h
 ·rename_i ti xs off hty;have T:=ht.ty t ti hty;unfold qsliceA at h;split at h
  ·rename_i m e hd;have hlo':ulo=none:=by cases ulo with|none=>rfl|some _=>exact hlo.elim
   have hhi':uhi=none:=by cases uhi with|none=>rfl|some _=>exact hhi.elim
   subst hlo' hhi';split at h
   ·rename_i te hte;have TE:=ht.ty e te hte;unfold sliceR at h;split at h
    ·rename_i hc;cases h;simp only[bI,ct,bG] at hx;obtain⟨b,o,rfl,hF,hbl,hr⟩:=hx;have hal:P.arrayLen t=m:=by simp[Program.arrayLen,T.und,hd]
     have hel:P.elem t=e:=by simp[Program.elem,T.und,hd]
     have hT:P.underlying t=some (.array (P.arrayLen t) (P.elem t)):=by rw[hal,hel,T.und,hd]
     refine Yields.here (u:=.slice (some ⟨b,o+off,none⟩) m m) ?_ ?_;{rw[run_sliceAt_array_all w t ⟨b,o+off,none⟩ hT,hel,TE.run_size,hal];simp[slicedAt,addr_add]};{simp only[bI,ct,bG,rep];refine⟨_,_,_,rfl,(chunkR_length _ _ _).symm,Nat.le_refl _,by have:=hc.2;unfold maxLen;omega,.inr ⟨b,o+off,rfl,hF,hbl,repRows_chunk m _ b (o+off) hc.1 (s6 xs off b o hr)⟩⟩}
    ·cases h
   ·cases h
  ·cases h
 ·cases h
theorem qun_sound {op:UnOp} {x v:V} {u:Value} (h:qun op x=some v) (hx:bI E w F x u):Yields P E F (Op.unary op u) w v:=by unfold qun at h;split at h;{cases h;simp only[bI,ct,bG,rep] at hx;subst hx;exact Yields.here (by rfl) (by rfl)};{cases h;simp only[bI,ct,bG,rep] at hx;subst hx;exact Yields.here (by rfl) (by simp[bI,ct,bG,rep])};{cases h}
theorem qconv_sound (ht:TbOk P tb) {src dst:TypeId} {x v:V} {u:Value} (h:qconv tb src dst x=some v) (hx:bI E w F x u):Yields P E F (convert src dst u) w v:=by unfold qconv at h;split at h;{rename_i ts td k n hs hd;have S:=ht.ty src ts hs;have D:=ht.ty dst td hd;split at h;{rename_i k' hk';cases h;simp only[bI,ct,bG,rep] at hx;subst hx;refine Yields.here (u:=.int k' (k'.wrap n)) ?_ (by rfl);unfold convert;simp only[Sem.run_bind,S.run_und,D.run_und,Result.andThen_ok,hk'];rfl};{cases h}};{cases h}
theorem qnil_sound {x v:V} {u:Value} (h:qnil x=some v) (hx:bI E w F x u):bI E w F v u/\∃a,u=.pointer (some a):=by unfold qnil at h;grind[bI,ct,bG]
theorem byteRows_cons {r:List L} {rs:List (List L)} {ns:List Int} (h:hY (r::rs)=some ns):∃n ms,r=[.int .u8 n]/\hY rs=some ms/\ns=n::ms:=by unfold hY at h;split at h;{grind};{rename_i n rs' he;cases he;cases hb:hY rs with|none=>grind|some ms=>simp_all};{cases h}
theorem byteRows_len:∀{rows:List (List L)} {ns:List Int},hY rows=some ns->rows.length=ns.length/\∀r∈rows,r.length=1
 |[],ns,h=>by cases h;simp
 |r::rs,ns,h=>by obtain⟨n,ms,rfl,hb,rfl⟩:=byteRows_cons h;obtain⟨h1,h2⟩:=byteRows_len hb;simp_all
theorem byteRows_sims {E:Nat->Value} {w:World} {F:Nat->Prop}:∀{rows:List (List L)} {ns:List Int} {vs:List Value},hY rows=some ns->bB E w F (rows.flatten.map C.d) vs->vs=ns.map (Value.int .u8)
 |[],ns,vs,h,hc=>by cases h;simpa [bB] using hc
 |r::rs,ns,vs,h,hc=>by obtain⟨n,ms,rfl,hb,rfl⟩:=byteRows_cons h;simp only[List.flatten_cons,List.cons_append,List.nil_append,List.map_cons,bB,bG,rep] at hc;obtain⟨v,r',rfl,rfl,hc⟩:=hc;rw[byteRows_sims hb hc];rfl
theorem byteRows_sound:∀{rows:List (List L)} {ns:List Int} {b o:Nat},hY rows=some ns->cJ w F 1 rows b o->rows.length=ns.length/\∀(j:Nat) (u:Value),(ns.map (Value.int .u8))[j]?=some u->w.cell? ⟨b,o+j,none⟩=some u
 |[],ns,b,o,h,_=>by cases h;simp
 |r::rs,ns,b,o,h,hr=>by unfold hY at h;split at h;{grind};{rename_i n rs' he;cases he;cases hb:hY rs with|none=>grind|some ms=>rw[hb] at h;cases h;simp only[cJ,dM] at hr;obtain⟨⟨_,⟨u,hu,hru⟩,_⟩,hrs⟩:=hr;obtain⟨h1,h2⟩:=byteRows_sound hb hrs;grind[rep]};{cases h}
theorem run_pushB (w:World):∀(ns:List Int) (s:ByteArray),(forIn (ns.map (Value.int .u8)) s (λc r=>match c with
   |.int .u8 n=>pure (ForInStep.yield (r.push (UInt8.ofNat n.toNat)))|_=>do
    stuck "bytesToString: byte expected"
    pure (ForInStep.yield r)):Sem ByteArray).run P w=.ok (⟨s.data++(ns.map λn=>UInt8.ofNat n.toNat).toArray⟩) w
 |[],s=>by simp|n::ns,s=>by have ih:=run_pushB w ns (s.push (UInt8.ofNat n.toNat));simp_all
theorem run_toString {src dst e:TypeId} {ts td te:TI} (S:TabFact P src ts) (D:TabFact P dst td) (Ea:TabFact P e te) (hds:ts.desc=.slice e) (hdd:td.desc=.string) (hde:te.desc=.int .u8) {ao:Option Addr} {n c:Nat} {ns:List Int} (hn:n=ns.length) (hc:n=0\/∃b o,ao=some ⟨b,o,none⟩/\∀(j:Nat) (u:Value),(ns.map (Value.int .u8))[j]?=some u->w.cell? ⟨b,o+j,none⟩=some u) :(convert src dst (.slice ao n c)).run P w=.ok (.string (bs (ofBytes ns))) w:=by
 have hld:∀a,ao=some a->(loadCells a n).run P w=.ok (ns.map (Value.int .u8)).toArray w:=by intro a ha;rcases hc with h0|⟨b,o,rfl,hc⟩;{subst h0;have:ns=[]:=List.eq_nil_of_length_eq_zero hn.symm;subst this;rfl};{cases ha;have:=run_loadCells_list (P:=P) w ⟨b,o,none⟩ (ns.map (Value.int .u8)) (λj u hj=>by grind[addr_add]);simp_all}
 unfold convert;simp only[Sem.run_bind,S.run_und,D.run_und,Ea.run_und,Result.andThen_ok,hds,hdd,hde];unfold Conv.bytesToString;cases ao with
 |none=>
  have h0:n=0:=by simp_all
  subst h0;have:ns=[]:=List.eq_nil_of_length_eq_zero hn.symm;subst this;simp;rfl
 |some a=>simp only[Sem.run_bind,hld a rfl,Result.andThen_ok];rw[<- Array.forIn_toList];have:=run_pushB (P:=P) w ns ByteArray.empty;simp only[Sem.run_pure];refine Eq.trans (congrArg (λr=>Result.andThen r _) this) ?_;simp[bs,ofBytes]
theorem qextract_sound {x v:V} {i:Nat} {u:Value} (h:qextract x i=some v) (hx:bI E w F x u):Yields P E F (Instr.extract u i) w v:=by
 unfold qextract at h;split at h
 ·rename_i us;split at h
  ·rename_i y hy;cases h;simp only[bI] at hx;obtain⟨arr,rfl,hus⟩:=hx;have key:∀(us:List U) (vs:List Value) (i:Nat) (y:U),iN E w F us vs->us[i]?=some y->∃z,vs[i]?=some z/\ct E w F y z:=by
    intro us;induction us with
    |nil=>simp|cons a us ih=>intro vs i y hs hi;obtain⟨z,r,rfl,h1,h2⟩:=hs;grind
   obtain⟨z,hz,hyz⟩:=key us _ i y hus hy;exact Yields.here (u:=z) (by simp[Instr.extract,show arr[i]?=some z from by simpa using hz]) hyz
  ·cases h
 ·cases h
theorem qmax_sound {x y v:V} {u q:Value} (h:qmax x y=some v) (hx:bI E w F x u) (hy:bI E w F y q):∃z,Builtin.max2 u q=pure z/\bI E w F v z:=by unfold qmax at h;split at h;{cases h;simp only[bI,ct,bG,rep] at hx hy;subst hx hy;exact⟨_,rfl,by rfl⟩};{cases h}
theorem qmaxs_sound:∀{r:List V} {x v:V} {u:Value} {us:List Value},qmaxs x r=some v->bI E w F x u->us.length=r.length->(∀(i:Nat) (y:V) (q:Value),r[i]?=some y->us[i]?=some q->bI E w F y q) ->
  Yields P E F (us.foldlM Builtin.max2 u) w v
 |[],x,v,u,us,h,hx,hl,_=>by have:us=[]:=List.eq_nil_of_length_eq_zero hl;subst this;unfold qmaxs at h;split at h;{simp_all[Yields.here]};{grind};{cases h}|y::r,x,v,u,us,h,hx,hl,hs=>by
  match us,hl with
  |q::us,hl=>unfold qmaxs at h;split at h;{grind};{rename_i k a y' r' he;cases he;rw[Option.bind_eq_some_iff] at h;obtain⟨z,hz,h⟩:=h;obtain⟨z',hz',hsz⟩:=qmax_sound hz hx (hs 0 y q rfl rfl);have:=qmaxs_sound h hsz (us:=us) (by simpa using hl) (λi y q hy hq=>hs (i+1) y q (by simpa using hy) (by simpa using hq));simp_all};{cases h}
theorem esims_length {E:Nat->Value} {w:World} {F:Nat->Prop}:∀{es:List (Key×U)} {l:List MapEntry},fL E w F es l->es.length=l.length|[],l,h=>by simp_all[fL]|x::es,l,h=>by obtain⟨e,r,rfl,_,_,h⟩:=h;simp[esims_length h]
theorem qlenB_sound (ht:TbOk P tb) (hco:Core cx E O w) {t ty:TypeId} {x v:V} {u:Value} (h:qlenB tb O t x=some v) (hx:bI E w (cx.fr E O) x u) :
  Yields P E (cx.fr E O) (Builtin.len_ #[t] ty #[u]) w v:=by
 unfold qlenB at h;split at h
 ·rename_i ti hty;have T:=ht.ty t ti hty;split at h
  ·rename_i hf;cases hq:qlen O x with
   |none=>grind|some n=>
    rw[hq] at h;cases h
    suffices hs:(Builtin.len_ #[t] ty #[u]).run P w=.ok (goInt n) w by exact Yields.here hs (by rfl)
    unfold lenFits at hf;unfold qlen at hq;split at hf<;>first|cases hf|skip
    (all_goals (rename_i hd;simp only[bI,ct,bG,rep] at hx hq));{subst hx;cases hq;simp[Builtin.len_,T.run_und,hd]}
    ·obtain⟨a,rfl⟩:=hx;cases hq;simp[Builtin.len_,T.run_und,hd]
    ·obtain⟨ao,m,c,rfl,rfl,_⟩:=hx;cases hq;simp[Builtin.len_,T.run_und,hd]
    ·rename_i s;split at hq;{rename_i sz e rows hs;cases hq;obtain⟨_,ho⟩:=hco.objs s _ hs;obtain⟨rfl,_⟩:=hx;rcases ho with⟨rfl,a,ha⟩|⟨b,cap,cur,h0,hp,hl,hm',hh,hs',hc⟩;{simp[Builtin.len_,T.run_und,hd,ha]};{simp[Builtin.len_,T.run_und,hd,hp]}};{rename_i ne ie isz els hs;cases hq;obtain⟨out,ivs,cs,hp,hnd,hsp,hns⟩:=hco.objs s _ hs;obtain⟨rfl,_⟩:=hx;rw[hp,fB];rcases hsp with⟨h0,_,a,ha⟩|⟨b,cap,cur,h0,ho,_⟩;{simp[Builtin.len_,T.run_und,hd,ha,h0]};{simp[Builtin.len_,T.run_und,hd,ho]}};{cases hq}
    ·obtain⟨ao,len,cap,_,_,_,rfl⟩:=hx;cases hq;simp[Builtin.len_,T.run_und,hd]
    ·subst hx;cases hq;simp[Builtin.len_,T.run_und,hd]
    ·rename_i s;split at hq;{rename_i kk es hs;cases hq;obtain⟨b,ents,clk,hp,hh,hc,_⟩:=hco.objs s _ hs;obtain⟨rfl,_⟩:=hx;have hl:=esims_length hc;simp[Builtin.len_,T.run_und,hd,hp,getObj,Sem.run,hh,hl]};{cases hq}
  ·cases h
 ·cases h
theorem pickV_sound {t:Bool} {a b:V} {u q:Value} (ha:bI E w F a u) (hb:bI E w F b q):bI E w F (pickV t a b) (if t then u else q):=by unfold pickV;grind
end
end Go.AM
namespace Go.AM
open Go.RowKit
section
variable {P:Program} {E:Nat->Value} {F:Nat->Prop} {w:World} {tb:Tb} {O:Sto} {cx:Cx}
theorem strOp_sound {op:BinOp} {a b:ByteArray} {x:L} (h:strOp op a b=some x):∃u,(Op.stringOp op a b).run P w=.ok u w/\rep w F x u:=by unfold strOp at h;split at h;{split at h;{cases h};{rename_i hle;cases h;exact⟨_,by simp only[Op.stringOp,if_neg hle];rfl,by simp[rep]⟩}};all_goals first|(cases h;exact⟨_,by simp only[Op.stringOp];rfl,by simp[rep]⟩)|cases h
theorem eqItems_sound {xs ys:Array Value} (d:Nat) {e:TypeId} {ke:IntKind} (he:P.underlying e=some (.int ke)):∀(m i:Nat) (cs ds:List C) (b:Bool),cs.length=m->ds.length=m ->
  bB E w F cs (xs.toList.drop i)->bB E w F ds (ys.toList.drop i)->uj cs ds=some b->(Op.eqItems (d+1) e 1 xs ys (List.range' i m)).run P w=.ok b w
 |0,i,cs,ds,b,hc,hd,_,_,h=>by
  have h1:cs=[]:=List.eq_nil_of_length_eq_zero hc;have h2:ds=[]:=List.eq_nil_of_length_eq_zero hd;subst h1 h2;cases h;rfl
 |m+1,i,cs,ds,b,hc,hd,hx,hy,h=>by
  match cs,ds,hc,hd with
  |c::cs,g::ds,hc,hd=>
   unfold uj at h;split at h;{simp_all}
   ·rename_i k a cs' k' a' ds' h1 h2;cases h1;cases h2;split at h
    ·rename_i hk;subst hk;cases hr:uj cs ds with
     |none=>grind|some t=>
      rw[hr] at h;simp only[Option.map_some,Option.some.injEq] at h;simp only[bB] at hx hy;obtain⟨u,ru,hu,hcu,hru⟩:=hx;obtain⟨v,rv,hv,hcv,hrv⟩:=hy;simp only[bG,rep] at hcu hcv;subst hcu hcv;have e1:xs[i]?=some (.int k a):=by
       have:xs.toList[i]?=some (.int k a):=by rw[<- Nat.add_zero i,<- List.getElem?_drop,hu];rfl
       simpa using this
      have e2:ys[i]?=some (.int k a'):=by
       have:ys.toList[i]?=some (.int k a'):=by rw[<- Nat.add_zero i,<- List.getElem?_drop,hv];rfl
       simpa using this
      have p1:(part e xs (i*1)).run P w=.ok (.int k a) w:=by simp[part,isAgg,run_underlying he,e1]
      have p2:(part e ys (i*1)).run P w=.ok (.int k a') w:=by simp[part,isAgg,run_underlying he,e2]
      have ih:=eqItems_sound d he m (i+1) cs ds t (by simpa using hc) (by simpa using hd) (by rw[<- List.tail_drop,hu];exact hru) (by rw[<- List.tail_drop,hv];exact hrv) hr;rw[List.range'_succ];simp only[Op.eqItems,Sem.run_bind,p1,p2,Result.andThen_ok,run_equalIn_int w d e k ke a a' he,Sem.run_ite];cases hab:(a==a')with
      |false=>simp_all|true=>simp_all
    ·cases h
   ·cases h
theorem eqFields_sound {xs ys:Array Value} (d:Nat):∀(fs:List Field) (i:Nat) (cs ds:List C) (b:Bool),cs.length=fs.length->ds.length=fs.length -> (∀(j:Nat) (f:Field),fs[j]?=some f->f.name ≠ "_" /\ f.offset=i+j/\∃k,P.underlying f.type=some (.int k)) ->
  bB E w F cs (xs.toList.drop i)->bB E w F ds (ys.toList.drop i)->uj cs ds=some b->(Op.eqFields (d+1) xs ys fs).run P w=.ok b w
 |[],i,cs,ds,b,hc,hd,_,_,_,h=>by
  have h1:cs=[]:=List.eq_nil_of_length_eq_zero hc;have h2:ds=[]:=List.eq_nil_of_length_eq_zero hd;subst h1 h2;cases h;rfl
 |f::fs,i,cs,ds,b,hc,hd,hf,hx,hy,h=>by
  match cs,ds,hc,hd with
  |c::cs,e::ds,hc,hd=>
   unfold uj at h;split at h;{simp_all}
   ·rename_i k a cs' k' a' ds' h1 h2;cases h1;cases h2;split at h
    ·rename_i hk;subst hk;cases hr:uj cs ds with
     |none=>grind|some t=>
      rw[hr] at h;simp only[Option.map_some,Option.some.injEq] at h;simp only[bB] at hx hy;obtain⟨u,ru,hu,hcu,hru⟩:=hx;obtain⟨v,rv,hv,hcv,hrv⟩:=hy;simp only[bG,rep] at hcu hcv;subst hcu hcv;obtain⟨hn,ho,k',hk'⟩:=hf 0 f rfl;have e1:xs[i]?=some (.int k a):=by
       have:xs.toList[i]?=some (.int k a):=by rw[<- Nat.add_zero i,<- List.getElem?_drop,hu];rfl
       simpa using this
      have e2:ys[i]?=some (.int k a'):=by
       have:ys.toList[i]?=some (.int k a'):=by rw[<- Nat.add_zero i,<- List.getElem?_drop,hv];rfl
       simpa using this
      have p1:(part f.type xs f.offset).run P w=.ok (.int k a) w:=by simp[part,isAgg,run_underlying hk',ho,e1]
      have p2:(part f.type ys f.offset).run P w=.ok (.int k a') w:=by simp[part,isAgg,run_underlying hk',ho,e2]
      have ih:=eqFields_sound d fs (i+1) cs ds t (by simpa using hc) (by simpa using hd) (λj f' hj=>by have:=hf (j+1) f' (by simpa using hj);grind) (by rw[show i+1=i+1 from rfl,<- List.tail_drop,hu];exact hru) (by rw[<- List.tail_drop,hv];exact hrv) hr;simp only[Op.eqFields,Sem.run_bind,hn,ne_eq,not_false_eq_true,if_true,p1,p2,Result.andThen_ok,run_equalIn_int w d f.type k k' a a' hk',Sem.run_ite];cases hab:(a==a')with
      |false=>simp_all|true=>simp_all
    ·cases h
   ·cases h
theorem qx {op:BinOp} {b:Bool} {x:L} (h:negB op b=some x):(op=.eql/\x=.bool b)\/(op=.neq/\x=.bool !b):=by unfold negB at h;grind
theorem equalIn_nil (d:Nat) {t e:TypeId} (h:P.underlying t=some (.slice e)):(Op.equalIn (d+1) t (.slice none 0 0) (.slice none 0 0)).run P w=.ok true w:=by simp[Op.equalIn,run_underlying h]
theorem equalIn_some (d:Nat) {t e:TypeId} (h:P.underlying t=some (.slice e)) (a:Addr) (n c:Nat):(Op.equalIn (d+1) t (.slice (some a) n c) (.slice none 0 0)).run P w=.ok false w:=by simp[Op.equalIn,run_underlying h]
theorem qbin_sound (ht:TbOk P tb) {op:BinOp} {t:TypeId} {x y v:V} {u q:Value} {xo yo:Operand} (h:qbin tb op t x y=some v) (hx:bI E w F x u) (hy:bI E w F y q) :
  Yields P E F (do eqGuard op t xo yo u q;binOp op t u q) w v:=by
 unfold qbin at h;split at h
 ·rename_i k a k' b;simp only[bI,ct,bG,rep] at hx hy;subst hx hy;have hg:(eqGuard op t xo yo (.int k a) (.int k' b)).run P w=.ok () w:=by cases op<;>simp[eqGuard]
  split at h;{rename_i hs;cases hq:shiftOp op k a b with|none=>grind|some z=>rw[hq] at h;cases h;unfold shiftOp at hq;split at hq;{split at hq;{cases hq};{rename_i hb;cases hq;exact Yields.here (by simp only[Sem.run_bind,hg,Result.andThen_ok,binOp,Op.shift,if_neg hb];rfl) (by rfl)}};{split at hq;{cases hq};{rename_i hb;cases hq;exact Yields.here (by simp only[Sem.run_bind,hg,Result.andThen_ok,binOp,Op.shift,if_neg hb];rfl) (by rfl)}};{cases hq}}
  ·rename_i hs;split at h
   ·rename_i hk;subst hk;cases hq:pL op k a b with
    |none=>grind|some z=>
     rw[hq] at h;cases h;unfold pL at hq;split at hq
     case h_4=>
      split at hq;{cases hq};{rename_i hb;cases hq;exact Yields.here (by simp only[Sem.run_bind,hg,Result.andThen_ok,binOp,ne_eq,not_true_eq_false,if_false,Op.intDiv,if_neg hb];rfl) (by rfl)}
     case h_5=>
      split at hq;{cases hq};{rename_i hb;cases hq;exact Yields.here (by simp only[Sem.run_bind,hg,Result.andThen_ok,binOp,ne_eq,not_true_eq_false,if_false,Op.intDiv,if_neg hb];rfl) (by rfl)}
     all_goals first
      |(cases hq;exact Yields.here (by simp only[Sem.run_bind,hg,Result.andThen_ok,binOp,ne_eq,not_true_eq_false,if_false,Op.intArith,Op.intBits,Op.intCmp];rfl) (by simp[bI,ct,bG,rep]))|cases hq
   ·cases h
 ·rename_i a b;simp only[bI,ct,bG,rep] at hx hy;subst hx hy;have hg:(eqGuard op t xo yo (.bool a) (.bool b)).run P w=.ok () w:=by cases op<;>simp[eqGuard]
  split at h
  ·rename_i ti hty;have T:=ht.ty t ti hty;split at h
   ·rename_i hd;cases hq:negB op (a==b)with
    |none=>grind|some z=>
     rw[hq] at h;cases h;have he:(Op.equal t (.bool a) (.bool b)).run P w=.ok (a==b) w:=by unfold Op.equal Op.maxDepth;exact run_equalIn_bool' w 9999 t a b (T.und.trans (by rw[hd]))
     rcases qx hq with⟨rfl,rfl⟩|⟨rfl,rfl⟩;{exact Yields.here (by simp only[Sem.run_bind,hg,Result.andThen_ok,binOp,he];rfl) (by rfl)};{exact Yields.here (by simp only[Sem.run_bind,hg,Result.andThen_ok,binOp,he];rfl) (by rfl)}
   ·cases h
  ·cases h
 ·rename_i a b;simp only[bI,ct,bG,rep] at hx hy;subst hx hy;have hg:(eqGuard op t xo yo (.string a) (.string b)).run P w=.ok () w:=by cases op<;>simp[eqGuard]
  cases hq:strOp op a b with
  |none=>grind|some z=>
   rw[hq] at h;cases h;obtain⟨u,hu,hr⟩:=strOp_sound (P:=P) (w:=w) (F:=F) hq;refine Yields.here (u:=u) ?_ hr;have hb:binOp op t (.string a) (.string b)=Op.stringOp op a b:=by cases op<;>simp[binOp,strOp] at hq⊢
   simp_all
 ·rename_i cs ds;split at h
  ·rename_i n hn;split at h
   ·rename_i hl;obtain⟨xs,rfl,hxs⟩:=hx;obtain⟨ys,rfl,hys⟩:=hy;cases hq:uj cs ds with
    |none=>grind|some b=>
     rw[hq] at h;simp only[Option.bind_some] at h;cases hz:negB op b with
     |none=>grind|some z=>
      rw[hz] at h;cases h;have hboth:P.eqGuardType P.depth t=false/\(Op.equalIn 10000 t (.agg xs) (.agg ys)).run P w=.ok b w:=by
       rcases ht.eqn t n hn with⟨fs,hu,hp,heq,hsz,hfs⟩|⟨e,i,k,hu,hi,hce,hk,heq⟩
       ·have hfo:P.fieldsOf t=fs:=by simp[Program.fieldsOf,hu]
        refine⟨heq,?_⟩;rw[run_equalIn_struct w 9999 t xs ys (by rw[hfo];exact hu) hp,hfo];exact eqFields_sound (E:=E) (F:=F) 9998 fs.toList 0 cs ds b (by simp;omega) (by simp;omega) (λj f hj=>by grind) (by simpa using hxs) (by simpa using hys) hq
       ·refine⟨heq,?_⟩;rw[run_equalIn_array w 9999 xs ys hu hi,hce,List.range_eq_range'];exact eqItems_sound (E:=E) (F:=F) 9998 hk n 0 cs ds b hl.1 hl.2 (by simpa using hxs) (by simpa using hys) hq
      obtain⟨heq,he⟩:=hboth;have hg:=run_eqGuard_agg (P:=P) w op t xo yo xs ys heq;rcases qx hz with⟨rfl,rfl⟩|⟨rfl,rfl⟩;{exact Yields.here (u:=.bool b) (by simp only[Sem.run_bind,hg,Result.andThen_ok,run_eql_struct,he]) (by rfl)};{exact Yields.here (u:=.bool !b) (by simp only[Sem.run_bind,hg,Result.andThen_ok,run_neq_struct,he]) (by rfl)}
   ·cases h
  ·cases h
 ·rename_i x' _;simp only[bI,ct,bG,rep] at hx hy;subst hy;split at h
  ·rename_i ti hty;have T:=ht.ty t ti hty;split at h
   ·rename_i e hd;simp only[rep] at hx;subst hx;have hg:(eqGuard op t xo yo (.slice none 0 0) (.slice none 0 0)).run P w=.ok () w:=by cases op<;>simp[eqGuard]
    have he:(Op.equal t (.slice none 0 0) (.slice none 0 0)).run P w=.ok true w:=by unfold Op.equal Op.maxDepth;exact equalIn_nil 9999 (T.und.trans (by rw[hd]))
    cases hq:negB op true with
    |none=>grind|some z=>rw[hq] at h;cases h;rcases qx hq with⟨rfl,rfl⟩|⟨rfl,rfl⟩;{exact Yields.here (by simp only[Sem.run_bind,hg,Result.andThen_ok,binOp,he];rfl) (by rfl)};{exact Yields.here (by simp only[Sem.run_bind,hg,Result.andThen_ok,binOp,he];rfl) (by rfl)}
   ·rename_i e sz r rs hd;simp only[rep] at hx;obtain⟨ao,m,c,rfl,_,_,_,hr⟩:=hx;obtain⟨b,o,rfl,_⟩:=hr.resolve_left (by simp);have hg:(eqGuard op t xo yo (.slice (some ⟨b,o,none⟩) m c) (.slice none 0 0)).run P w=.ok () w:=by cases op<;>simp[eqGuard]
    have he:(Op.equal t (.slice (some ⟨b,o,none⟩) m c) (.slice none 0 0)).run P w=.ok false w:=by unfold Op.equal Op.maxDepth;exact equalIn_some 9999 (T.und.trans (by rw[hd])) _ _ _
    cases hq:negB op false with
    |none=>grind|some z=>rw[hq] at h;cases h;rcases qx hq with⟨rfl,rfl⟩|⟨rfl,rfl⟩;{exact Yields.here (by simp only[Sem.run_bind,hg,Result.andThen_ok,binOp,he];rfl) (by rfl)};{exact Yields.here (by simp only[Sem.run_bind,hg,Result.andThen_ok,binOp,he];rfl) (by rfl)}
   ·cases h
  ·cases h
 ·cases h
end
end Go.AM
namespace Go.AM
open Go.RowKit
section
variable {P:Program} {E:Nat->Value} {F:Nat->Prop} {w:World} {tb:Tb} {O:Sto} {cx:Cx}
theorem sk {u:Value} (h:u.oneCell'=true):u.cells=#[u]:=by cases u<;>first|rfl|simp[Value.oneCell'] at h
theorem nQ {c:C} {u:Value} (hc:c≠.top) (h:bG E w F c u):u.oneCell'=true:=by
 cases c with
 |top=>grind|d x=>grind[rep_one,bG]|ref xs off=>(simp only[bG] at h;obtain⟨b,o,rfl,_⟩:=h;rfl)|box s off=>(simp only[bG] at h;obtain⟨b,_,rfl⟩:=h;rfl)|own s=>exact h.2|elt s i z off=>(simp only[bG] at h;obtain⟨b,n,c,_,rfl⟩:=h;rfl)|map s=>exact h.2|nilmap=>simp only[bG] at h;subst h;rfl|iter s=>exact h.2|fn f caps=>(simp only[bG] at h;obtain⟨arr,rfl,_⟩:=h;rfl)|sub s sz a n=>(simp only[bG] at h;obtain⟨_,_,_,_,_,_,rfl⟩:=h;rfl)|opq x=>simp only[bG] at h;rw[h.1];exact h.2
theorem iq {x:V} {cs:List C} {u:Value} (h:nZ x=some cs) (hx:bI E w F x u):bB E w F cs u.cells.toList:=by unfold nZ at h;split at h;{cases h};{rename_i c hc;cases h;have:=sk (nQ (λe=>hc e) hx);rw[this];simp only[bB];exact⟨u,[],rfl,hx,rfl⟩};{cases h;obtain⟨arr,rfl,hc⟩:=hx;exact hc};{cases h}
theorem foldl_set (off:Nat):∀(xs:List Value) (k:Nat) (arr:Array Value),off+k+xs.length<=arr.size -> ((xs.zipIdx k).foldl (λcs (p:Value×Nat)=>cs.setIfInBounds (off+p.2) p.1) arr).toList=arr.toList.take (off+k)++xs++arr.toList.drop (off+k+xs.length)
 |[],k,arr,_=>by simp|x::xs,k,arr,h=>by
  simp only[List.length_cons] at h;simp only[List.zipIdx_cons,List.foldl_cons];rw[foldl_set off xs (k+1) _ (by simp;omega)];have hlt:off+k<arr.toList.length:=by simp;omega
  simp only[Array.toList_setIfInBounds];rw[show off+(k+1)=off+k+1 from rfl,List.take_add_one,List.getElem?_set_self hlt,List.take_set_of_le (Nat.le_refl _),List.drop_set_of_lt (by omega)];grind
theorem fill_sound {place:Nat->Option (Nat×Nat)} {offs:List (Nat×Nat)} (hp:∀i p,offs[i]?=some p->place i=some p):∀(parts:List (Nat×V)) (vals:List (Nat×Value)) (cs cs':List C) (arr:Array Value),
  parts.length=vals.length->(∀(j:Nat) (p:Nat×V) (q:Nat×Value),parts[j]?=some p->vals[j]?=some q->p.1=q.1/\bI E w F p.2 q.2)->bB E w F cs arr.toList->fillC offs cs parts=some cs' -> ∃arr',Instr.fill place arr vals=some arr'/\bB E w F cs' arr'.toList
 |[],[],cs,cs',arr,_,_,hc,h=>by cases h;exact⟨arr,rfl,hc⟩
 |[],q::vals,_,_,_,hl,_,_,_=>by simp at hl|p::parts,[],_,_,_,hl,_,_,_=>by simp at hl|(i,x)::parts,(i',u)::vals,cs,cs',arr,hl,hs,hc,h=>by
  obtain⟨h1,h2⟩:=hs 0 (i,x) (i',u) rfl rfl;simp only at h1 h2;subst h1;simp only[fillC] at h;split at h
  ·rename_i off sz xs ho hv;split at h
   ·rename_i hle;have hcu:=iq hv h2;have hlen:=cR hcu;have hlen2:=cR hc;simp only[Array.length_toList] at hlen hlen2;have e:=foldl_set off u.cells.toList 0 arr (by simp;omega);simp only[Nat.add_zero,Array.length_toList] at e;have hcs:bB E w F (cs.take off++xs++cs.drop (off+sz)) (arr.toList.take off++u.cells.toList++arr.toList.drop (off+u.cells.size)) :=
     ek (ek (iL off hc) hcu) (by simp_all[lq])
    have hz:(u.cells.zipIdx.foldl (λcs (c,j)=>cs.setIfInBounds (off+j) c) arr).toList=arr.toList.take off++u.cells.toList++arr.toList.drop (off+u.cells.size):=by rw[<- e,<- Array.foldl_toList];simp
    obtain⟨arr',hf,hc'⟩:=fill_sound hp parts vals _ cs' (u.cells.zipIdx.foldl (λcs (c,j)=>cs.setIfInBounds (off+j) c) arr) (by simpa using hl) (λj p q hj hq=>hs (j+1) p q (by simpa using hj) (by simpa using hq)) (by rw[hz];exact hcs) h;refine⟨arr',?_,hc'⟩;simp only[Instr.fill,hp i _ ho];grind
   ·cases h
  ·cases h
theorem usim_cells {x:U} {cs:List C} {u:Value} (hz:x=.agg cs) (h:ct E w F x u):bB E w F cs u.cells.toList:=by subst hz;obtain⟨arr,rfl,hc⟩:=h;exact hc
theorem mapM_places (fs:Array Field):∀l:List Field,(∀f∈l,∃i,P.info? f.type=some i) -> (l.mapM λf=>do pure (f.offset,<- sizeOf f.type):Sem (List (Nat×Nat))).run P w=.ok (l.map λf=>(f.offset,P.cellsOf f.type)) w
 |[],_=>by simp|f::l,h=>by
  obtain⟨i,hi⟩:=h f (by simp);have hr:(sizeOf f.type).run P w=.ok (P.cellsOf f.type) w:=by simp[sizeOf,typeInfo,hi,Program.cellsOf]
  have ih:=mapM_places fs l (λg hg=>h g (by simp[hg]));simp_all
theorem run_mapM_array {I β:Type} (f:I->Sem β) (l:Array I):(l.mapM f).run P w=((l.toList.mapM f).run P w).andThen λr w'=>.ok r.toArray w':=by simp[Array.mapM_eq_mapM_toList]
theorem offsA_get {sz:Nat}:∀{m o i:Nat} {p:Nat×Nat},(offsA sz m o)[i]?=some p->p=(o+i*sz,sz)|0,_,_,_,h=>by simp[offsA] at h|m+1,o,0,p,h=>by simp_all[offsA]|m+1,o,i+1,p,h=>by simp only[offsA,List.getElem?_cons_succ] at h;rw[offsA_get h,Nat.add_mul,Nat.one_mul,Nat.add_assoc,Nat.add_comm sz]
theorem qbuild_sound (ht:TbOk P tb) {t:TypeId} {parts:List (Nat×V)} {v:V} {vals:List (Nat×Value)} (h:qbuild tb t parts=some v) (hl:parts.length=vals.length) (hs:∀(j:Nat) (p:Nat×V) (q:Nat×Value),parts[j]?=some p->vals[j]?=some q->p.1=q.1/\bI E w F p.2 q.2) :
  Yields P E F (Instr.build t vals.toArray) w v:=by
 unfold qbuild at h;split at h
 ·rename_i ti hty;have T:=ht.ty t ti hty;split at h
  ·rename_i fs cs hd hz;cases hf:fillC ti.offs cs parts with
   |none=>grind|some cs'=>
    rw[hf] at h;cases h;have hz':=usim_cells hz (T.zero E w F);have ho:=T.offs fs hd;obtain⟨arr',h1,h2⟩:=fill_sound (place:=((fs.toList.map λf=>(f.offset,P.cellsOf f.type)).toArray[·]?)) (offs:=ti.offs)
     (λi p hi=>by simp_all) parts vals cs cs' ti.zv.cells hl hs hz' hf
    refine Yields.here (u:=.agg arr') ?_ ⟨arr',rfl,h2⟩;unfold Instr.build;simp only[Sem.run_bind,T.run_zero,T.run_und,Result.andThen_ok,hd,run_mapM_array,mapM_places fs fs.toList (λf hf=>Option.isSome_iff_exists.1 (List.all_eq_true.1 (T.fty fs hd) f hf)),h1,Sem.run_pure]
  ·rename_i m e cs hd hz;unfold qbuildA at h;split at h;{rename_i te hte;have TE:=ht.ty e te hte;cases hf:fillC (offsA te.size m 0) cs parts with|none=>grind|some cs'=>rw[hf] at h;cases h;have hz':=usim_cells hz (T.zero E w F);obtain⟨arr',h1,h2⟩:=fill_sound (place:=λi=>some (i*te.size,te.size)) (offs:=offsA te.size m 0) (λi p hi=>by rw[offsA_get hi,Nat.zero_add]) parts vals cs cs' ti.zv.cells hl hs hz' hf;refine Yields.here (u:=.agg arr') ?_ ⟨arr',rfl,h2⟩;unfold Instr.build;simp only[Sem.run_bind,T.run_zero,T.run_und,Result.andThen_ok,hd,TE.run_size,h1,Sem.run_pure]};{cases h}
  ·cases h
 ·cases h
theorem sU:∀{cs:List C} {xs:List L},rq cs=some xs->cs=xs.map C.d
 |[],_,h=>by cases h;rfl
 |c::cs,xs,h=>by simp only[rq] at h;split at h;{rename_i x ys h1 h2;cases h;cases c<;>simp only[cdata] at h1<;>cases h1;rw[sU h2];rfl};{cases h}
theorem fR {sz:Nat}:∀{rs:List (List L)},(∀r∈rs,r.length=sz)->rs.flatten.length=rs.length*sz|[],_=>by simp|r::rs,h=>by rw[List.flatten_cons,List.length_append,h r (by simp),fR (λr hr=>h r (by simp[hr])),List.length_cons,Nat.add_mul];omega
theorem flatten_set {sz:Nat}:∀{rs:List (List L)} {i:Nat} {ys:List L},(∀r∈rs,r.length=sz)->i<rs.length->(rs.set i ys).flatten=rs.flatten.take (i*sz)++ys++rs.flatten.drop (i*sz+sz)
 |[],i,ys,_,hi=>by simp at hi|r::rs,0,ys,h,_=>by simp_all|r::rs,i+1,ys,h,hi=>by
  have hr:=h r (by simp);have ih:=flatten_set (rs:=rs) (i:=i) (ys:=ys) (λr hr=>h r (List.mem_cons_of_mem _ hr)) (by simpa using hi);simp only[List.set_cons_succ,List.flatten_cons,ih];have e1:(i+1)*sz=r.length+i*sz:=by grind
  have e2:(i+1)*sz+sz=r.length+(i*sz+sz):=by omega
  rw[e2,e1,List.take_length_add_append,List.drop_length_add_append];simp
theorem repRow_of {b:Nat}:∀{xs:List L} {us:List Value} {o:Nat},bB E w F (xs.map C.d) us->(∀(j:Nat) (u:Value),us[j]?=some u->w.cell? ⟨b,o+j,none⟩=some u)->dM w F xs b o|[],_,_,_,_=>by simp[dM]|x::xs,us,o,h,hc=>by simp only[List.map_cons,bB] at h;obtain⟨v,r,rfl,hv,hr⟩:=h;simp only[dM];exact⟨⟨v,hc 0 v rfl,by simpa [bG] using hv⟩,repRow_of hr λj u hj=>by rw[show o+1+j=o+(j+1)from by omega];simp_all⟩
theorem rb {b sz:Nat}:∀{rs:List (List L)} {us:List Value} {o:Nat},(∀r∈rs,r.length=sz)->bB E w F (rs.flatten.map C.d) us->(∀(j:Nat) (u:Value),us[j]?=some u->w.cell? ⟨b,o+j,none⟩=some u)->cJ w F sz rs b o|[],_,_,_,_,_=>by simp[cJ]|r::rs,us,o,hl,h,hc=>by have hr:=hl r (by simp);rw[List.flatten_cons,List.map_append] at h;have hlen:=cR h;have h1:=iL sz h;have h2:=lq sz h;rw[List.take_left' (by simp[hr])] at h1;rw[List.drop_left' (by simp[hr])] at h2;simp only[cJ];refine⟨⟨hr,repRow_of h1 λj u hj=>?_⟩,rb (λr hr=>hl r (by simp[hr])) h2 λj u hj=>?_⟩;{grind};grind
theorem zero_cells {zr:List L} {zero:Array Value} (h:bB E w F (zr.map C.d) zero.toList) (n:Nat) :
  bB E w F ((List.replicate n zr).flatten.map C.d) ((Array.range (n*zero.size)).map λj=>zero[j%zero.size]!).toList:=by
 have hz:∀n,((Array.range (n*zero.size)).map λj=>zero[j%zero.size]!).toList=(List.replicate n zero.toList).flatten:=by
  intro n;induction n with
  |zero=>simp|succ n ih=>
   simp only[Array.toList_map,Array.toList_range] at ih⊢;rw[Nat.add_mul,Nat.one_mul,List.range_add,List.map_append,ih,List.replicate_succ',List.flatten_append]
   congr 1
   simp only[List.map_map,List.flatten_cons,List.flatten_nil,List.append_nil];apply List.ext_getElem;{simp};simp_all[Nat.mod_eq_of_lt]
 rw[hz];clear hz;induction n with
 |zero=>simp[bB]|succ n ih=>grind[ek]
theorem tY (e:TypeId) (cells:Array Value) (w:World):(newRow e cells).run P w=.ok ⟨w.heap.size,0,none⟩ (w.alloc (.cells cells e)):=rfl
theorem range_zero_map (f:Nat->Value):(Array.range 0).map f=#[]:=by simp
theorem fillRows_sound {sz:Nat}:∀(parts:List (Nat×V)) (vals:List (Nat×Value)) (rs rs':List (List L)) (arr:Array Value),(∀r∈rs,r.length=sz) ->
  parts.length=vals.length->(∀(j:Nat) (p:Nat×V) (q:Nat×Value),parts[j]?=some p->vals[j]?=some q->p.1=q.1/\bI E w F p.2 q.2)->bB E w F (rs.flatten.map C.d) arr.toList->sP sz rs parts=some rs' -> ∃arr',Instr.fill (λi=>some (i*sz,sz)) arr vals=some arr'/\bB E w F (rs'.flatten.map C.d) arr'.toList/\(∀r∈rs',r.length=sz)/\rs'.length=rs.length
 |[],[],rs,rs',arr,hr,_,_,hc,h=>by cases h;exact⟨arr,rfl,hc,hr,rfl⟩
 |[],q::vals,_,_,_,_,hl,_,_,_=>by simp at hl|p::parts,[],_,_,_,_,hl,_,_,_=>by simp at hl|(i,x)::parts,(i',u)::vals,rs,rs',arr,hr,hl,hs,hc,h=>by
  obtain⟨h1,h2⟩:=hs 0 (i,x) (i',u) rfl rfl;simp only at h1 h2;subst h1;simp only[sP] at h;split at h
  ·rename_i xs hv;split at h
   ·rename_i ys hy;split at h
    ·rename_i hle;have hcu:=iq hv h2;rw[sU hy] at hcu;have hlen:=cR hcu;have hlen2:=cR hc;simp only[Array.length_toList,List.length_map] at hlen hlen2;rw[fR hr] at hlen2;have hroom:i*sz+sz<=rs.length*sz:=by have:=Nat.mul_le_mul_right sz (show i+1<=rs.length from hle.2);grind
     have e:=foldl_set (i*sz) u.cells.toList 0 arr (by simp;omega);simp only[Nat.add_zero,Array.length_toList] at e;have hcs:bB E w F ((rs.set i ys).flatten.map C.d) (arr.toList.take (i*sz)++u.cells.toList++arr.toList.drop (i*sz+u.cells.size)):=by rw[flatten_set hr hle.2,List.map_append,List.map_append,List.map_take,List.map_drop];grind[ek,iL,lq]
     have hz:(u.cells.zipIdx.foldl (λcs (c,j)=>cs.setIfInBounds (i*sz+j) c) arr).toList=arr.toList.take (i*sz)++u.cells.toList++arr.toList.drop (i*sz+u.cells.size):=by rw[<- e,<- Array.foldl_toList];simp
     obtain⟨arr',hf,hc',hr',hl'⟩:=fillRows_sound parts vals (rs.set i ys) rs' (u.cells.zipIdx.foldl (λcs (c,j)=>cs.setIfInBounds (i*sz+j) c) arr) (λr hm=>by grind) (by simpa using hl) (λj p q hj hq=>hs (j+1) p q (by simpa using hj) (by simpa using hq)) (by rw[hz];exact hcs) h;refine⟨arr',?_,hc',hr',by simpa using hl'⟩;simp only[Instr.fill];grind
    ·cases h
   ·cases h
  ·cases h
theorem run_buildSlice {t e:TypeId} {te:TI} (hT:P.underlying t=some (.slice e)) (TE:TabFact P e te) {n:Nat} (hle:n*te.size<=2 ^ 24) {vals:List (Nat×Value)} {arr':Array Value} (h0:n*te.size=0->Instr.fill (λi=>some (i*te.size,te.size)) #[] vals=some arr') (h1:n*te.size≠0->Instr.fill (λi=>some (i*te.size,te.size)) ((Array.range (n*te.size)).map λj=>te.zv.cells[j%te.zv.cells.size]!) vals=some arr') :(Instr.buildSlice t n vals.toArray).run P w=.ok (.slice (some ⟨w.heap.size,0,none⟩) n n) (w.alloc (.cells arr' e)):=by
 unfold Instr.buildSlice;have hgt:¬ (n*te.size>2 ^ 24):=by omega
 simp only[Sem.run_bind,run_underlying hT,Result.andThen_ok,TE.run_size,if_neg hgt];by_cases hz:n*te.size=0;{simp_all[range_zero_map,tY]};{have:=h1 hz;simp only[if_neg hz,Sem.run_bind,TE.run_zero,Result.andThen_ok,Sem.run_pure,this,tY]}
theorem qbuildSlice_sound (ht:TbOk P tb) (hnew:∀b,w.heap.size<=b->F b) (hmax:2 ^ 24<=maxLen) {t:TypeId} {n:Nat} {parts:List (Nat×V)} {v:V} {vals:List (Nat×Value)} (h:oT tb t n parts=some v) (hl:parts.length=vals.length) (hs:∀(j:Nat) (p:Nat×V) (q:Nat×Value),parts[j]?=some p->vals[j]?=some q->p.1=q.1/\bI E w F p.2 q.2) :
  Yields P E F (Instr.buildSlice t n vals.toArray) w v:=by
 unfold oT at h;split at h
 ·rename_i ti hty;have T:=ht.ty t ti hty;split at h
  ·rename_i e hd;split at h
   ·rename_i te hte;have TE:=ht.ty e te hte;split at h;{rename_i h0;obtain⟨rfl,rfl⟩:=h0;cases h;have hv:vals=[]:=List.eq_nil_of_length_eq_zero hl.symm;subst hv;refine⟨.slice (some ⟨w.heap.size,0,none⟩) 0 0,w.alloc (.cells #[] e),?_,(Blw.refl _ _).alloc (Nat.le_refl _) _,?_⟩;{exact run_buildSlice (te:=te) (vals:=[]) (T.und.trans (by rw[hd])) TE (by omega) (λ_=>rfl) (λh=>absurd (Nat.zero_mul _) h)};{simp[bI,ct,bG,rep]}}
    ·split at h;{cases h}
     ·rename_i hsz;simp only[not_or,Nat.not_lt] at hsz;split at h
      ·rename_i zs hzs;split at h
       ·rename_i zr hzr;cases hf:sP te.size (List.replicate n zr) parts with
        |none=>grind|some rs=>
         rw[hf] at h;cases h;have hzc:=iq (E:=E) (w:=w) (F:=F) hzs (TE.zero E w F);rw[sU hzr] at hzc;have hzl:=cR hzc;simp only[List.length_map,Array.length_toList] at hzl;rw[TE.zsize] at hzl;obtain⟨arr',h1,h2,h3,h4⟩:=fillRows_sound parts vals (List.replicate n zr) rs _ (λr hr=>by simp_all) hl hs (zero_cells hzc n) hf;rw[List.length_replicate] at h4;have hsize:arr'.size=n*te.size:=by grind[cR,List.length_map,Array.length_toList,fR]
         by_cases hn:n=0
         ·subst hn;have hrs:rs=[]:=List.eq_nil_of_length_eq_zero h4;subst hrs;refine⟨.slice (some ⟨w.heap.size,0,none⟩) 0 0,w.alloc (.cells arr' e),?_,(Blw.refl _ _).alloc (Nat.le_refl _) _,?_⟩
          ·have h1':Instr.fill (λi=>some (i*te.size,te.size)) #[] vals=some arr':=by grind
           exact run_buildSlice (T.und.trans (by rw[hd])) TE (by omega) (λ_=>h1') (λh=>absurd (Nat.zero_mul _) h)
          ·simp only[bI,ct,bG,rep];grind
         ·have hne:n*te.size≠0:=Nat.mul_ne_zero hn hsz.1;refine⟨.slice (some ⟨w.heap.size,0,none⟩) n n,w.alloc (.cells arr' e),?_,(Blw.refl _ _).alloc (Nat.le_refl _) _,?_⟩;{exact run_buildSlice (T.und.trans (by rw[hd])) TE hsz.2 (λh=>absurd h hne) (λ_=>by rw[<- h1,TE.zsize])};{simp only[bI,ct,bG,rep];have hnm:n<=n*te.size:=Nat.le_mul_of_pos_right n (by omega);refine⟨_,_,_,rfl,h4.symm,Nat.le_refl _,by omega,.inr ⟨w.heap.size,0,rfl,hnew _ (Nat.le_refl _),by simp,?_⟩⟩;have hk:Keep F F w (w.alloc (.cells arr' e)):=Keep.of_below ((Blw.refl _ _).alloc (Nat.le_refl _) _);exact rb (us:=arr'.toList) (E:=E) h3 (cF hk _ _ h2) λj u hj=>by simp_all}
       ·cases h
      ·cases h
   ·cases h
  ·cases h
 ·cases h
end
end Go.AM
namespace Go.AM
open Go.RowKit
theorem Key.val_inj:∀{k k':Key},k.val=k'.val->k=k'|.int _ _,.int _ _,h=>by simp_all[Key.val]|.str _,.str _,h=>by simp_all[Key.val]|.ints l,.ints l',h=>by simp_all[Key.val,List.map_inj_right]|.int _ _,.str _,h=>by simp[Key.val] at h|.int _ _,.ints _,h=>by simp[Key.val] at h|.str _,.int _ _,h=>by simp[Key.val] at h|.str _,.ints _,h=>by simp[Key.val] at h|.ints _,.int _ _,h=>by simp[Key.val] at h|.ints _,.str _,h=>by simp[Key.val] at h
section
variable {P:Program} {E:Nat->Value} {F:Nat->Prop} {w:World} {tb:Tb} {O:Sto} {cx:Cx}
theorem cints_sound:∀{cs:List C} {l:List Int} {vs:List Value},cints cs=some l->bB E w F cs vs->vs=l.map (Value.int .i64)
 |[],_,_,h,hc=>by cases h;simpa [bB] using hc
 |c::cs,l,vs,h,hc=>by unfold cints at h;split at h;{grind};{rename_i n cs' h0;cases h0;cases hr:cints cs with|none=>grind|some l'=>rw[hr] at h;cases h;simp only[bB,bG,rep] at hc;obtain⟨v,r,rfl,rfl,hc⟩:=hc;rw[cints_sound hr hc];rfl};{cases h}
theorem tD {x:V} {k:Key} {u:Value} (h:vkey x=some k) (hx:bI E w F x u):u=k.val:=by unfold vkey at h;split at h;{grind[bI,ct,bG,rep,Key.val]};{cases h;simpa [bI,ct,bG,rep,Key.val] using hx};{rename_i cs;cases hr:cints cs with|none=>grind|some l=>rw[hr] at h;cases h;obtain⟨arr,rfl,hc⟩:=hx;have:=cints_sound hr hc;simp only[Key.val,Value.agg.injEq];rw[<- this]};{cases h}
theorem esims_mem:∀{es:List (Key×U)} {l:List MapEntry},fL E w F es l->∀e∈l,∃x∈es,e.key=x.1.val|[],_,h,e,he=>by simp_all[fL]|x::es,l,h,e,he=>by obtain⟨e',r,rfl,h1,h2,h3⟩:=h;rcases List.mem_cons.1 he with rfl|he;{simp_all};{obtain⟨y,hy,hk⟩:=esims_mem h3 e he;grind}
theorem esims_get:∀{es:List (Key×U)} {l:List MapEntry},fL E w F es l->∀{j:Nat} {e:MapEntry},l[j]?=some e->∃x,es[j]?=some x/\e.key=x.1.val/\ct E w F x.2 e.val
 |[],_,h,j,e,he=>by simp_all[fL]|x::es,l,h,j,e,he=>by
  obtain⟨e',r,rfl,h1,h2,h3⟩:=h;cases j with
  |zero=>simp_all|succ j=>simp at he;simpa using esims_get h3 he
theorem mget_none:∀{es:List (Key×U)} {l:List MapEntry} {k:Key},fL E w F es l->(∀e∈l,e.key≠k.val)->ta es k=none|[],_,_,_,_=>rfl|x::es,l,k,h,hn=>by obtain⟨e',r,rfl,h1,h2,h3⟩:=h;have:x.1≠k:=λe=>hn e' (by simp) (by rw[h1,e]);simp only[ta,if_neg this];exact mget_none h3 λe he=>hn e (by simp[he])
theorem mget_some:∀{es:List (Key×U)} {j:Nat} {x:Key×U},(es.map (·.1)).Nodup->es[j]?=some x->ta es x.1=some x.2|[],j,x,_,h=>by simp at h|y::es,0,x,_,h=>by simp_all[ta]|y::es,j+1,x,hn,h=>by simp only[List.map_cons,List.nodup_cons] at hn;simp only[List.getElem?_cons_succ] at h;have:y.1≠x.1:=λe=>hn.1 (by grind);simp only[ta,if_neg this];exact mget_some hn.2 h
theorem ue (ht:TbOk P tb) {kt:TypeId} {kk:KK} (hk:tb.key kt=some kk) {es:List (Key×U)} {ents:List MapEntry} (hes:fL E w F es ents) (hfit:∀x∈es,x.1.fits kk=true) (hnd:(es.map (·.1)).Nodup) {key:Key} (hf:key.fits kk=true) :(∀em,(Instr.checkKey em 10000 kt key.val).run P w=.ok () w) /\ (((Instr.findKey kt key.val ents).run P w=.ok none w/\ta es key=none) \/ ∃j e u,(Instr.findKey kt key.val ents).run P w=.ok (some (j,e.val)) w/\ents[j]?=some e/\e.key=key.val/\es[j]?=some (key,u)/\ta es key=some u/\ct E w F u e.val):=by
 obtain⟨K,hof⟩:=ht.key kt kk hk;obtain⟨l,hl⟩:=hof key hf;refine⟨λem=>K.check w em hl,?_⟩;have hall:∀e∈ents,∃l,keyOf P kt e.key=some l:=λe he=>by grind[esims_mem]
 rcases K.find w hl ents hall with⟨h1,h2⟩|⟨j,e,h1,h2,h3⟩;{grind[mget_none]};grind[esims_get,Key.val_inj,mget_some]
theorem qlookup_sound (ht:TbOk P tb) (hco:Core cx E O w) {t:TypeId} {m k v:V} {ok:Bool} {u q:Value} (h:eC tb O t m k ok=some v) (hm:bI E w (cx.fr E O) m u) (hk:bI E w (cx.fr E O) k q) :
  Yields P E (cx.fr E O) (Instr.lookup t u q ok) w v:=by
 unfold eC at h;split at h
 ·rename_i ti s key hty hkey;have T:=ht.ty t ti hty;have hq:=tD hkey hk;subst hq;split at h
  ·rename_i kt e kk es hd hs;split at h
   ·rename_i te hte;have TE:=ht.ty e te hte;split at h
    ·rename_i hc;obtain⟨b,ents,clk,hp,hh,hes,hb1,hb2,hfit,hnd⟩:=hco.objs s _ hs;have hu:u=.map (some b):=hm.1.trans (by rw[hp];rfl);subst hu;obtain⟨hchk,hfind⟩:=ue ht hc.1 hes hfit hnd hc.2;have hg:(getObj b).run P w=.ok (.map ents clk) w:=by simp[getObj,Sem.run,hh]
     rcases hfind with⟨h1,h2⟩|⟨j,en,x,h1,h2,h3,h4,h5,h6⟩
     ·rw[h2] at h;have hrun:(Instr.lookup t (.map (some b)) key.val ok).run P w=.ok (if ok then .tuple #[te.zv,.bool false] else te.zv) w:=by unfold Instr.lookup;simp[T.run_und,hd,hg,hchk,h1,TE.run_zero]
      cases ok with
      |true=>
       cases h;exact Yields.here hrun ⟨_,rfl,te.zv,[.bool false],rfl,TE.zero _ _ _,.bool false,[],rfl,by rfl,rfl⟩
      |false=>cases h;exact Yields.here hrun (TE.zero _ _ _)
     ·rw[h5] at h;have hrun:(Instr.lookup t (.map (some b)) key.val ok).run P w=.ok (if ok then .tuple #[en.val,.bool true] else en.val) w:=by unfold Instr.lookup;simp[T.run_und,hd,hg,hchk,h1]
      cases ok with
      |true=>
       cases h;exact Yields.here hrun ⟨_,rfl,en.val,[.bool true],rfl,h6,.bool true,[],rfl,by rfl,rfl⟩
      |false=>cases h;exact Yields.here hrun h6
    ·cases h
   ·cases h
  ·cases h
 ·cases h
theorem posK_get:∀{ks:List Key} {k:Key},iU ks k<ks.length->ks[iU ks k]?=some k|[],_,h=>by simp[iU] at h|x::ks,k,h=>by unfold iU at h⊢;split;{simp_all};{rename_i hne;rw[if_neg hne] at h;simpa using posK_get (ks:=ks) (k:=k) (by simpa using h)}
theorem mget_opqs:∀(es:List (Key×Value)) (k:Key),ta (opqs es) k=(es.find? λx=>x.1=k).map λx=>.one (.opq x.2)|[],_=>rfl|x::es,k=>by simp only[opqs,List.map_cons,ta,List.find?_cons];by_cases h:x.1=k;{simp[h]};{simp only[h,if_false,decide_false];exact mget_opqs es k}
theorem qlookN_sound (ht:TbOk P tb) (hco:Core cx E O w) {t:TypeId} {m k v:V} {ok:Bool} {u q:Value} (h:qlookN tb O t m k ok=some v) (hm:bI E w (cx.fr E O) m u) (hk:bI E w (cx.fr E O) k q) :
  Yields P E (cx.fr E O) (Instr.lookup t u q ok) w v:=by
 unfold qlookN at h;split at h
 ·rename_i ti s key hty hkey;have T:=ht.ty t ti hty;have hq:=tD hkey hk;subst hq;split at h
  ·rename_i kt e kk ks ie sz els hd hs;unfold qlkN at h;split at h
   ·rename_i te hte;have TE:=ht.ty e te hte;split at h
    ·rename_i hc;obtain⟨hc1,hc2,hc3,hc4⟩:=hc;obtain⟨out,ivs,cs,hp,hnd,⟨b,ents,clk,es,hpo,hh,hes,hb1,hb2,hfit,hndk,hlen,hcs,hkn,hkf,hall⟩,hns⟩:=hco.objs s _ hs;have hu:u=.map (some b):=hm.1.trans (by rw[hp,fB,hpo]);subst hu;obtain⟨hchk,hfind⟩:=ue (P:=P) (w:=w) ht hc1 hes hfit hndk hc2;have hg:(getObj b).run P w=.ok (.map ents clk) w:=by simp[getObj,Sem.run,hh]
     unfold ownN at h;split at h
     ·rename_i tt hi;cases h;obtain⟨c,iv,hc,_,hx,hone,_⟩:=oJ hns hi;have hcv:c=vget es key:=by grind[posK_get]
      rcases hfind with⟨h1,h2⟩|⟨j,en,x,h1,h2,h3,h4,h5,h6⟩
      ·have hrun:(Instr.lookup t (.map (some b)) key.val false).run P w=.ok te.zv w:=by unfold Instr.lookup;simp[T.run_und,hd,hg,hchk,h1,TE.run_zero]
       have hz:te.zv=.slice none 0 0:=by
        have hz:=TE.zero E w (cx.fr E O);cases hu:te.zu with
        |agg cs=>(rw[hu] at hc3;cases hc3)|one c=>
         rw[hu] at hc3 hz;cases c with
         |d y=>(cases y<;>first|(simpa [ct,bG,rep] using hz)|cases hc3)|_=>cases hc3
       have hv:vget es key=.slice none 0 0:=by
        rw[mget_opqs] at h2;unfold vget;cases hf:es.find? (λx=>x.1=key)with
        |none=>rfl|some y=>simp_all
       exact Yields.here hrun ⟨by simp_all,by rw[hz];rfl⟩
      ·have hrun:(Instr.lookup t (.map (some b)) key.val false).run P w=.ok en.val w:=by unfold Instr.lookup;simp[T.run_und,hd,hg,hchk,h1]
       have hv:vget es key=en.val:=by
        rw[mget_opqs] at h5;unfold vget;cases hf:es.find? (λx=>x.1=key)with
        |none=>simp_all|some y=>grind[ct,bG]
       exact Yields.here hrun ⟨by simp_all,by simp_all⟩
     ·cases h
    ·cases h
   ·cases h
  ·cases h
 ·cases h
theorem cdatasC_sound:∀{vs:List V} {cs:List C} {us:List Value},tG vs=some cs->vs.length=us.length->(∀(j:Nat) (v:V) (u:Value),vs[j]?=some v->us[j]?=some u->bI E w F v u)->bB E w F cs us
 |[],cs,us,h,hl,_=>by
  cases h;grind[bB]
 |v::vs,cs,[],_,hl,_=>by simp at hl|v::vs,cs,u::us,h,hl,hs=>by unfold tG at h;split at h;{grind};{rename_i c r h0;cases h0;cases hr:tG vs with|none=>grind|some cs'=>rw[hr] at h;cases h;simp only[bB];exact⟨u,us,rfl,hs 0 _ u rfl rfl,cdatasC_sound hr (by simpa using hl) λj v u hv hu=>hs (j+1) v u (by simpa using hv) (by simpa using hu)⟩};{cases h}
def QRes (P:Program) (E:Nat->Value) (F:Nat->Prop) (w:World) (S:V->Prop):Result Next->Prop|.ok (.value u) w'=>Blw w.heap.size w w'/\∃v,S v/\bI E w' F v u|.ok (.enter f args) w'=>Blw w.heap.size w w'/\Calls P f args w' λe w''=>∃u v,e=.returned u/\Blw w'.heap.size w' w''/\S v/\bI E w'' F v u|_=>False
theorem QRes.of_yields {s:Sem Value} {v:V} (h:Yields P E F s w v):QRes P E F w (·=v) ((do pure (.value (<- s)):Sem Next).run P w):=by obtain⟨u,w',hr,hb,hv⟩:=h;simp only[Sem.run_bind,hr,Result.andThen_ok,Sem.run_pure];exact⟨hb,v,rfl,hv⟩
def Quiet (P:Program) (cx:Cx) (o:Oper) (Z:Env) (O:Sto) (S:V->Prop):Prop :=∀(E:Nat->Value) (a:Act) (w:World),Core cx E O w->(∀x∈o.op.operands.toList,bI E w (cx.fr E O) (oev Z x) (a.eval x))->QRes P E (cx.fr E O) w S ((execOp a.eval o).run P w)
theorem Core.new {E:Nat->Value} {w:World} (h:Core cx E O w):∀b,w.heap.size<=b->cx.fr E O b:=λb hb=>⟨.inr (.inl (Nat.le_trans h.size hb)),λ⟨s,o,hs,hk⟩=>by have:=(h.own s o b hs hk).2;omega⟩
theorem Core.frm {E:Nat->Value} {w:World} (h:Core cx E O w):Fr w (cx.fr E O):=⟨h.new,h.gw⟩
theorem run_equalIn_nilI (w:World) (n:Nat) (t:TypeId) (ms:Array (String×TypeId)) (h:P.underlying t=some (.interface ms)):(Op.equalIn (n+1) t .nilIface .nilIface).run P w=.ok true w:=by have hu:=run_underlying (w:=w) h;unfold Op.equalIn;simp only[Sem.run_bind,hu,Result.andThen_ok,Sem.run_pure]
theorem run_equalIn_ifN (w:World) (n:Nat) (t te:TypeId) (pe:Value) (ms:Array (String×TypeId)) (h:P.underlying t=some (.interface ms)):(Op.equalIn (n+1) t (.iface te pe) .nilIface).run P w=.ok false w:=by have hu:=run_underlying (w:=w) h;unfold Op.equalIn;simp only[Sem.run_bind,hu,Result.andThen_ok,Sem.run_pure]
theorem qbinO_sound (ht:TbOk P tb) {op:BinOp} {t:TypeId} {x y v:V} {u q:Value} {xo yo:Operand} (h:qbinO tb op t (isNilC yo) x y=some v) (hx:bI E w F x u) (hy:bI E w F y q) (hq:∀c,yo=.const c->q=c) :
  Yields P E F (do eqGuard op t xo yo u q;binOp op t u q) w v:=by
 unfold qbinO at h;cases hc:isNilC yo with
 |false=>grind[qbin_sound]|true=>
  rw[hc] at h;simp only[cond_true] at h;have hyo:yo=.const .nilIface:=by unfold isNilC at hc;grind[isNilV]
  subst hyo;have:=hq _ rfl;subst this;unfold qbinN at h;split at h
  ·rename_i eb ti hty;have T:=ht.ty t ti hty;split at h
   ·rename_i ms hd;have hue:∃r,r=(!eb)/\(eqGuard op t xo (.const .nilIface) u .nilIface).run P w=.ok () w/\(Op.equal t u .nilIface).run P w=.ok r w:=by
     cases eb with
     |false=>simp only[bI,ct,bG,rep] at hx;subst hx;exact⟨_,rfl,by cases op<;>simp[eqGuard],by unfold Op.equal Op.maxDepth;exact run_equalIn_nilI w 9999 t ms (T.und.trans (by rw[hd]))⟩|true=>simp only[bI,ct,bG,rep] at hx;obtain⟨te,pe,rfl⟩:=hx;exact⟨_,rfl,by cases op<;>simp[eqGuard],by unfold Op.equal Op.maxDepth;exact run_equalIn_ifN w 9999 t te pe ms (T.und.trans (by rw[hd]))⟩
    obtain⟨r,hr,hg,he⟩:=hue;rw[<- hr] at h;cases hq2:negB op r with
    |none=>simp_all|some z=>rw[hq2] at h;cases h;rcases qx hq2 with⟨rfl,rfl⟩|⟨rfl,rfl⟩;{exact Yields.here (by simp only[Sem.run_bind,hg,Result.andThen_ok,binOp,he];rfl) (by rfl)};{exact Yields.here (by simp only[Sem.run_bind,hg,Result.andThen_ok,binOp,he];rfl) (by rfl)}
   ·cases h
  ·cases h
theorem maxLen_big:2 ^ 24<=maxLen:=by simp only[maxLen];omega
theorem parts_sim {Z:Env} {a:Act} {parts:Array (Nat×Operand)} (hp:∀x∈(parts.toList.map (·.2)),bI E w F (oev Z x) (a.eval x)) :∀(j:Nat) (p:Nat×V) (q:Nat×Value),(parts.toList.map λp=>(p.1,oev Z p.2))[j]?=some p->(parts.toList.map λp=>(p.1,a.eval p.2))[j]?=some q->p.1=q.1/\bI E w F p.2 q.2:=by grind
theorem rowsV_sound (hco:Core cx E O w) {x:V} {rows:List (List L)} {ns:List Int} {u:Value} (h:rowsV O x=some rows) (hb:hY rows=some ns) (hx:bI E w (cx.fr E O) x u) :∃ao n c,u=.slice ao n c/\n=ns.length/\(n=0\/∃b o,ao=some ⟨b,o,none⟩/\∀(j:Nat) (v:Value),(ns.map (Value.int .u8))[j]?=some v->w.cell? ⟨b,o+j,none⟩=some v):=by
 have hlen:=@byteRows_len;unfold rowsV at h;split at h;{cases h;cases hb;simp only[bI,ct,bG,rep] at hx;grind};{cases h;cases hb;simp only[bI,ct,bG,rep] at hx;grind}
 ·rename_i sz rows';cases h;simp only[bI,ct,bG,rep] at hx;obtain⟨ao,n,c,rfl,hn,_,_,hr⟩:=hx;obtain⟨h1,h2⟩:=hlen hb;refine⟨ao,n,c,rfl,hn.trans h1,?_⟩;rcases hr with rfl|⟨b,o,rfl,_,_,hr⟩;{grind}
  ·by_cases hz:rows=[]
   ·grind
   ·have hsz:sz=1:=by
     cases rows with
     |nil=>grind|cons r rs=>simp_all[cJ]
    subst hsz;exact .inr ⟨b,o,rfl,(byteRows_sound hb hr).2⟩
 ·rename_i s;split at h
  ·rename_i sz e rows' hs;cases h;obtain⟨hl,ho⟩:=hco.objs s _ hs;obtain⟨h1,h2⟩:=hlen hb;simp only[bI,ct,bG] at hx;rw[hx.1];rcases ho with⟨rfl,a,ha⟩|⟨b,cap,cur,h0,hq,_,_,hh,hsz,hc⟩;{cases hb;exact⟨a,0,0,(by rw[ha];rfl),rfl,.inl rfl⟩}
   ·refine⟨_,_,_,(by rw[hq];rfl),h1,.inr ⟨b,0,rfl,λj v hj=>?_⟩⟩;have hsz1:rows=[]\/sz=1:=by
     cases rows with
     |nil=>exact .inl rfl|cons r rs=>simp_all
    rcases hsz1 with rfl|rfl;{grind};{have hcur:=byteRows_sims hb hc;rw[<- hcur,List.getElem?_take] at hj;split at hj;{simp only[World.cell?,hh,Nat.zero_add];simpa using hj};{cases hj}}
  ·cases h
 ·cases h
theorem run_toBytes {src dst e:TypeId} {ts td te:TI} (S:TabFact P src ts) (D:TabFact P dst td) (Ea:TabFact P e te) (hds:ts.desc=.string) (hdd:td.desc=.slice e) (hde:te.desc=.int .u8) (hnew:∀b,w.heap.size<=b->F b) (s:ByteArray) (hl:(bsl s).length<=2 ^ 40) :
  Yields P E F (convert src dst (.string s)) w (.u (.one (.d (.sl 1 ((bsl s).map byteL))))):=by
 have hrun:=Go.Lib.run_convert_string_bytes (P:=P) w src dst e s (S.und.trans (by rw[hds])) (D.und.trans (by rw[hdd])) (Ea.und.trans (by rw[hde]));have hge:=grownCap_ge w s.size 0 e;have hsz:s.size=(bsl s).length:=rfl;have hcm:=grownCap_le_maxLen w s.size 0 e (by simp only[maxLen];omega);refine⟨_,_,hrun,⟨⟨rfl,rfl,rfl,by rw[Go.Lib.bytesWorld_size];omega,λk hk=>Go.Lib.bytesWorld_at_old w e s k (by omega)⟩,?_⟩,?_⟩;{refine rt ?_;simp[Go.Lib.bytesWorld,World.freeze,World.alloc,World.drew,-World.alloc_eq,-World.drew_eq]}
 ·simp only[bI,ct,bG,rep];refine⟨_,_,_,rfl,by simp[hsz],by omega,hcm,?_⟩;by_cases hz:(bsl s)=[]
  ·simp_all
  ·refine .inr ⟨_,_,rfl,hnew _ (Nat.le_refl _),by rw[Go.Lib.bytesWorld_size];omega,?_⟩;have hcell:∀j:Nat,j<s.size->(Go.Lib.bytesWorld w e s).cell? ⟨w.heap.size,j,none⟩=some (.int .u8 ((bsl s).getD j 0).toNat):=λj hj=>by rw[Go.Lib.bytesWorld_cell w e s j hj];rfl
   have:∀(l:List UInt8) (o:Nat),(∀(j:Nat) (b:UInt8),l[j]?=some b->(Go.Lib.bytesWorld w e s).cell? ⟨w.heap.size,o+j,none⟩=some (.int .u8 b.toNat))->cJ (Go.Lib.bytesWorld w e s) F 1 (l.map byteL) w.heap.size o:=by
    intro l;induction l with
    |nil=>intro o _;simp[cJ]|cons b l ih=>intro o h;simp only[List.map_cons,cJ,byteL,dM,List.length_cons,List.length_nil,Nat.zero_add,and_true,true_and];refine⟨⟨_,h 0 b rfl,by simp[rep]⟩,ih (o+1) λj b' hj=>?_⟩;have:=h (j+1) b' (by simpa using hj);grind
   grind
theorem qstr_sound (ht:TbOk P tb) (hco:Core cx E O w) {src dst:TypeId} {x v:V} {u:Value} (h:qstr tb O src dst x=some v) (hx:bI E w (cx.fr E O) x u):Yields P E (cx.fr E O) (convert src dst u) w v:=by unfold qstr at h;split at h;{rename_i ts td hs hd;have S:=ht.ty src ts hs;have D:=ht.ty dst td hd;split at h;{rename_i hds hdd;split at h;{cases h;simp only[bI,ct,bG,rep] at hx;subst hx;rename_i s;refine Yields.here (u:=.string s) ?_ (by rfl);unfold convert;simp only[Sem.run_bind,S.run_und,D.run_und,Result.andThen_ok,hds,hdd];simp};{cases h}};{rename_i e hds hdd;split at h;{rename_i te hte;have Ea:=ht.ty e te hte;split at h;{rename_i rows hde hr;cases hb:hY rows with|none=>grind|some ns=>rw[hb] at h;cases h;obtain⟨ao,n,c,rfl,hn,hcells⟩:=rowsV_sound hco hr hb hx;exact Yields.here (run_toString S D Ea hds hdd hde hn hcells) (by rfl)};{cases h}};{cases h}};{rename_i e hds hdd;split at h;{rename_i te s hte;have Ea:=ht.ty e te hte;split at h;{rename_i hde;split at h;{rename_i hl;cases h;simp only[bI,ct,bG,rep] at hx;subst hx;exact run_toBytes S D Ea hds hdd hde hco.new s hl};{cases h}};{cases h}};{cases h}};{cases h}};{cases h}
theorem qcnv_sound (ht:TbOk P tb) (hco:Core cx E O w) {src dst:TypeId} {x v:V} {u:Value} (h:qcnv tb O src dst x=some v) (hx:bI E w (cx.fr E O) x u):Yields P E (cx.fr E O) (convert src dst u) w v:=by grind[qcnv,qconv_sound,qstr_sound]
theorem qev_sound (ht:TbOk P tb) {o:Oper} {Z:Env} {v:V} (h:qev tb Z O o.op=some v):Quiet P cx o Z O (·=v):=by
 intro E a w hco hop;obtain⟨dst,op,type,pos,after,guard⟩:=o;simp only at h hop;cases op with
 |move x=>
  cases h;exact⟨Blw.refl _ _,_,rfl,hop x (by simp[Op.operands])⟩
 |assign x=>
  cases h;exact⟨Blw.refl _ _,_,rfl,hop x (by simp[Op.operands])⟩
 |pick c x y=>simp only[qev] at h;unfold qpick at h;have hc:=hop c (by simp[Op.operands]);have hx:=hop x (by simp[Op.operands]);have hy:=hop y (by simp[Op.operands]);split at h;{rename_i t hct;cases h;rw[hct] at hc;simp only[bI,ct,bG,rep] at hc;have:=pickV_sound (t:=t) hx hy;simp only[execOp,hc,asBool,Sem.run_bind,Sem.run_pure,Result.andThen_ok];exact⟨Blw.refl _ _,_,rfl,this⟩};{cases h}|load t x=>exact QRes.of_yields (qload_sound ht hco h (hop x (by simp[Op.operands])))|fieldAddr t x k=>exact QRes.of_yields (qfield_sound ht h (hop x (by simp[Op.operands])))|indexAddr t x i=>exact QRes.of_yields ((orV_sound h).elim (λh=>qindex_sound ht hco h (hop x (by simp[Op.operands])) (hop i (by simp[Op.operands]))) λh=>qidxP_sound ht hco h (hop x (by simp[Op.operands])) (hop i (by simp[Op.operands])))|slice t x lo hi mx=>
  have h1:tp E w (cx.fr E O) (lo.map (oev Z)) (lo.map a.eval):=by
   cases lo with
   |none=>trivial|some l=>exact hop l (by simp[Op.operands])
  have h2:tp E w (cx.fr E O) (hi.map (oev Z)) (hi.map a.eval):=by
   cases hi with
   |none=>trivial|some l=>exact hop l (by simp[Op.operands])
  have h3:tp E w (cx.fr E O) (mx.map (oev Z)) (mx.map a.eval):=by
   cases mx with
   |none=>trivial|some l=>exact hop l (by simp[Op.operands])
  exact QRes.of_yields ((orV_sound h).elim (λh=>qslice_sound ht h (hop x (by simp[Op.operands])) h1 h2 h3) λh=>qsubO_sound ht hco h (hop x (by simp[Op.operands])) h1 h2 h3)
 |binOp op t x y yt=>exact QRes.of_yields (qbinO_sound ht h (hop x (by simp[Op.operands])) (hop y (by simp[Op.operands])) λc hc=>by subst hc;rfl)|unOp op t x=>exact QRes.of_yields (qun_sound h (hop x (by simp[Op.operands])))|convert src dst' x=>exact QRes.of_yields (qcnv_sound ht hco h (hop x (by simp[Op.operands])))|nilCheck x=>
  obtain⟨h1,ad,he⟩:=qnil_sound (show qnil (oev Z x)=some v from h) (hop x (by simp[Op.operands]));refine(show QRes P E (cx.fr E O) w (·=v) _ from ?_);simp only[execOp,he,Sem.run_pure];rw[he] at h1;exact⟨Blw.refl _ _,_,rfl,h1⟩
 |build t parts=>
  have h':qbuild tb t (parts.toList.map λp=>(p.1,oev Z p.2))=some v:=h;have hl':(parts.toList.map λp=>(p.1,oev Z p.2)).length=(parts.toList.map λp=>(p.1,a.eval p.2)).length:=by simp
  have:=qbuild_sound (E:=E) (w:=w) (F:=cx.fr E O) ht h' (vals:=parts.toList.map λp=>(p.1,a.eval p.2)) hl' (parts_sim λx hx=>hop x (by simpa [Op.operands] using hx));have e:(parts.toList.map λp=>(p.1,a.eval p.2)).toArray=parts.map λp=>(p.1,a.eval p.2):=by grind
  rw[e] at this;exact QRes.of_yields this
 |buildSlice t n parts=>
  have h':oT tb t n (parts.toList.map λp=>(p.1,oev Z p.2))=some v:=h;have hl':(parts.toList.map λp=>(p.1,oev Z p.2)).length=(parts.toList.map λp=>(p.1,a.eval p.2)).length:=by simp
  have:=qbuildSlice_sound (E:=E) (w:=w) (F:=cx.fr E O) ht hco.new maxLen_big h' (vals:=parts.toList.map λp=>(p.1,a.eval p.2)) hl' (parts_sim λx hx=>hop x (by simpa [Op.operands] using hx));have e:(parts.toList.map λp=>(p.1,a.eval p.2)).toArray=parts.map λp=>(p.1,a.eval p.2):=by grind
  rw[e] at this;exact QRes.of_yields this
 |extract x i=>exact QRes.of_yields (qextract_sound h (hop x (by simp[Op.operands])))|lookup t m k ok=>exact QRes.of_yields ((orV_sound h).elim (λh=>qlookup_sound ht hco h (hop m (by simp[Op.operands])) (hop k (by simp[Op.operands]))) λh=>qlookN_sound ht hco h (hop m (by simp[Op.operands])) (hop k (by simp[Op.operands])))|makeFunc fn first caps=>
  cases fn with
  |func f=>
   simp only[qev] at h;split at h
   ·rename_i hf;have hf':first=#[]:=by simpa using hf
    subst hf';cases hc:tG (caps.toList.map (oev Z))with
    |none=>grind|some cs=>
     rw[hc] at h;cases h;have hcs:bB E w (cx.fr E O) cs (caps.map a.eval).toList:=cdatasC_sound hc (by simp) λj v u hv hu=>by
      rw[List.getElem?_map] at hv;simp only[Array.toList_map,List.getElem?_map] at hu;cases hx:caps.toList[j]? with
      |none=>simp_all|some x=>rw[hx] at hv hu;cases hv;cases hu;exact hop x (by simpa [Op.operands] using List.mem_of_getElem? hx)
     exact⟨Blw.refl _ _,_,rfl,caps.map a.eval,by simp,hcs⟩
   ·cases h
  |_=>cases h
 |call c=>
  obtain⟨callee,args,ts⟩:=c;simp only[qev] at h;split at h;{rename_i hargs hts;obtain⟨args⟩:=args;obtain⟨ts⟩:=ts;simp only at hargs hts;subst hargs hts;have:=qlenB_sound (ty:=type) ht hco h (hop _ (by simp[Op.operands,Call.operands]));obtain⟨u,w',hr,hb,hv⟩:=this;simp only[execOp,resolve,invoke,builtin,Sem.run_bind,Sem.run_pure,Result.andThen_ok,List.map_toArray,List.map_cons,List.map_nil,hr];exact⟨hb,_,rfl,hv⟩}
  ·rename_i hargs;obtain⟨args⟩:=args;simp only at hargs;subst hargs;rename_i x0 r0;have:=qmaxs_sound (P:=P) (us:=r0.map a.eval) h (hop _ (by simp[Op.operands,Call.operands])) (by simp) (λi y q hy hq=>by
    rw[List.getElem?_map] at hy hq;cases hr:r0[i]? with
    |none=>simp_all|some o=>rw[hr] at hy hq;cases hy;cases hq;exact hop o (by simp[Op.operands,Call.operands,List.mem_of_getElem? hr]))
   obtain⟨u,w',hr,hb,hv⟩:=this;simp only[execOp,resolve,invoke,builtin,Builtin.max_,Sem.run_bind,Sem.run_pure,Result.andThen_ok,List.map_toArray,List.map_cons,hr];exact⟨hb,_,rfl,hv⟩
  ·cases h
 |_=>cases h
end
abbrev A0:=List Int
abbrev A1:=List A0
abbrev A2:=List (Int×A0)
abbrev A3:=Env->Sto->Prop
abbrev A4:=List UInt8
abbrev A5:=List Nat
abbrev A6:=List Oper
abbrev A7:=Nat->Value
abbrev A8:=List (List L)
abbrev A9:=List Value
abbrev Aa:=Exit->Env->Sto->Prop
abbrev Ab:=Option Ob
abbrev Ac:=Option Nat
abbrev Ad:=Nat->Prop
abbrev Ae:=Option (Prop×Env×Sto)
abbrev Af:=List (A4×Int)
abbrev Ag:=List Bool
abbrev Ah:=Option (Bool)
abbrev Ai:=List (Int×Nat)
abbrev Aj:=Nat->Nat
abbrev Ak:=List L
abbrev Al:=List (Nat×Ob)
abbrev Am:=List (Key×U)
abbrev An:=Nat->Bool
abbrev Ao:=List V
abbrev Ap:=List (Nat×V)
abbrev Aq:=Env->Prop
abbrev Ar:=Option (Int)
abbrev As:=List C
abbrev At:=Option V
abbrev Au:=Nat->Oper->Env->V->Prop
abbrev Av:=Int×A0
abbrev Aw:=Option (Nat×Bool)
abbrev Ax:=List Ob
abbrev Ay:=Option A0
abbrev Az:=V->Prop
abbrev AA:=List Ab
abbrev AB:=Option Int
abbrev AC:=List (Oper×Bool)
abbrev AD:=List (Key×Value)
