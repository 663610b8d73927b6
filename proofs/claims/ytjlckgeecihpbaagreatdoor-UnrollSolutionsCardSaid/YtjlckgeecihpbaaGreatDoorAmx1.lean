/- The package-level variables that the functions read: what is known of them. -/
import Derived.WalkKit
import Derived.Still
import Derived.Maps.Own
import Derived.DeepKeys5
import Derived.Lib.SmallJoins
import Derived.Lib.ConvBytes
import Derived.Maps.AppendAt
import Derived.Lib.AppendStr
import Derived.Deep.Draws
namespace Go.AM
inductive GL where
 | int (k:IntKind) (n:Int)
 | bool (b:Bool)
 | str (s:ByteArray)
def GL.val:GL->Value
 | .int k n=>.int k n
 | .bool b=>.bool b
 | .str s=>.string s
end Go.AM
namespace Go.AM
def glow:Nat:=4
def gtab:Nat->Option (List GL)
 | 0=>some [.int .i64 1,.int .i64 0,.int .i64 0,.int .i64 1,.int .i64 0,.int .i64 (-1),.int .i64 1,.int .i64 0,.int .i64 (-1),.int .i64 0,.int .i64 0,.int .i64 (-1),.int .i64 0,.int .i64 1,.int .i64 (-1),.int .i64 0,.int .i64 (-1),.int .i64 0,.int .i64 0,.int .i64 1,.int .i64 0,.int .i64 (-1),.int .i64 (-1),.int .i64 0,.int .i64 1,.int .i64 0,.int .i64 0,.int .i64 (-1),.int .i64 0,.int .i64 1,.int .i64 1,.int .i64 0]
 | _=>none
def gany:Nat->Bool
 | _=>false
def drn (w:World):Nat:=w.drawn
theorem mt {w w':World} (h:w.drawn<=w'.drawn):drn w<=drn w':=h
def gpow:Nat->Bool
 | 1=>true
 | _=>false
def gerr:Nat->Bool
 | _=>false
end Go.AM
namespace Go.AM
open Go.RowKit
structure Blw (B:Nat) (w w':World):Prop extends Below B w w' where
 drawn:drn w<=drn w'
theorem Blw.refl (B:Nat) (w:World):Blw B w w:=⟨Below.refl B w,Nat.le_refl _⟩
theorem Blw.alloc {B:Nat} {a w:World} (h:Blw B a w) (hB:B<=w.heap.size) (o:Obj):Blw B a (w.alloc o):=⟨h.toBelow.alloc hB o,h.drawn⟩
theorem sem_drawn0 {α:Type} {P:Program}:∀ (s:Sem α) (w:World) (v:α) (w':World),s.run P w=.ok v w'->w.drawn<=w'.drawn:=by
 have ask:∀ {α:Type} (k:Ask α) (w:World),w.drawn<=(w.ask k).2.drawn:=by
  intro α k
  induction k with
  | done a=>intro w; exact Nat.le_refl _
  | ask what range k ih =>
   intro w
   simp only[World.ask]
   grind
 intro s
 induction s with
 | pure a=>simp
 | load m a k ih =>
  intro w v w' h
  simp only[Sem.run] at h
  grind
 | store m a x k ih =>
  intro w v w' h
  have key:(match w.cell? a with
   | some _=>if w.frozen? a then Result.halt (.unsupported (.unsafePointer "a write to bytes that a string shares")) w else k.run P (w.setCell a x)
   | none=>match w.farStore P a x (m == Mode.atomic) with
    | .ok (w,_)=>k.run P w
    | .error h=>.halt h w)=.ok v w'->w.drawn<=w'.drawn:=by
   intro h
   split at h
   ·split at h
    ·cases h
    ·have:=ih _ _ _ h
     simp_all
   ·split at h
    ·rename_i w1 l he
     refine Nat.le_trans (Nat.le_of_eq ?_) (ih _ _ _ h)
     unfold World.farStore at he
     split at he
     ·split at he
      ·rename_i r hr
       cases he
       unfold World.viewStore at hr
       simp only[bind,Except.bind,pure,Except.pure] at hr
       repeat' (split at hr<;>try (first | cases hr | skip))
       rfl
      ·cases he
     ·cases he
    ·cases h
  cases x<;>first | exact key h | (simp only[Sem.run] at h; cases h)
 | new o k ih=>intro w v w' h; simp only[Sem.run] at h; grind
 | shape r k ih=>intro w v w' h; simp only[Sem.run] at h; exact ih _ _ _ _ h
 | freeze a n k ih =>
  intro w v w' h
  simp only[Sem.run] at h
  have:=ih _ _ _ h
  unfold World.freeze at this
  grind
 | frozen a k ih=>intro w v w' h; simp only[Sem.run] at h; exact ih _ _ _ _ h
 | getObj r k ih =>
  intro w v w' h
  simp only[Sem.run] at h
  grind
 | setObj r o k ih =>
  intro w v w' h
  simp only[Sem.run] at h
  grind
 | choose q k ih =>
  intro w v w' h
  simp only[Sem.run] at h
  grind
 | sys c k ih =>
  intro w v w' h
  simp only[Sem.run] at h
  refine Nat.le_trans ?_ (ih _ _ _ _ h)
  have hs:=ask (Kernel.perform c w.os) w
  unfold World.sys
  grind
 | program k ih=>intro w v w' h; simp only[Sem.run] at h; exact ih _ _ _ _ h
 | mark m k ih=>intro w v w' h; simp only[Sem.run] at h; exact ih _ _ _ h
 | halt h=>simp
theorem pa {α:Type} {P:Program} (s:Sem α) (w:World) (v:α) (w':World) (h:s.run P w=.ok v w'):drn w<=drn w':=mt (sem_drawn0 s w v w' h)
inductive L where
 | int (k:IntKind) (n:Int)
 | bool (b:Bool)
 | str (s:ByteArray)
 | nil
 | emp
 | sl (sz:Nat) (rows:List (List L))
 | er (b:Bool)
 | slx (sz:Nat) (rows:List (List L))
 deriving Inhabited
mutual
def rep (w:World) (F:Nat->Prop):L->Value->Prop
 | .int k n,v=>v=.int k n
 | .bool b,v=>v=.bool b
 | .str s,v=>v=.string s
 | .nil,v=>v=.slice none 0 0
 | .emp,v=>∃ a,v=.slice a 0 0
 | .er false,v=>v=.nilIface
 | .er true,v=>∃ te pe,v=.iface te pe
 | .slx sz rows,v=>∃ ao n,v=.slice ao n n/\n=rows.length/\n<=maxLen /\
   (rows=[] \/ ∃ b o,ao=some ⟨b,o,none⟩/\F b/\b < w.heap.size/\ca w F sz rows b o)
 | .sl sz rows,v=>∃ ao n c,v=.slice ao n c/\n=rows.length/\n<=c/\c<=maxLen /\
   (rows=[] \/ ∃ b o,ao=some ⟨b,o,none⟩/\F b/\b < w.heap.size/\ca w F sz rows b o)
def d6 (w:World) (F:Nat->Prop):List L->Nat->Nat->Prop
 | [],_,_=>True
 | x::xs,b,o=>(∃ u,w.cell? ⟨b,o,none⟩=some u/\rep w F x u)/\d6 w F xs b (o+1)
def ca (w:World) (F:Nat->Prop) (sz:Nat):List (List L)->Nat->Nat->Prop
 | [],_,_=>True
 | r::rs,b,o=>(r.length=sz/\d6 w F r b o)/\ca w F sz rs b (o+sz)
end
structure Keep (F F':Nat->Prop) (w w':World):Prop where
 size:w.heap.size<=w'.heap.size
 block:∀ b,F b->b < w.heap.size->w'.heap[b]?=w.heap[b]?
 sub:∀ b,F b->b < w.heap.size->F' b
theorem Keep.refl (F:Nat->Prop) (w:World):Keep F F w w:=⟨Nat.le_refl _,fun _ _ _=>rfl,fun _ h _=>h⟩
theorem Keep.trans {F F' F'':Nat->Prop} {w w' w'':World} (h:Keep F F' w w') (k:Keep F' F'' w' w''):Keep F F'' w w'' :=
 ⟨Nat.le_trans h.size k.size,fun b hb hl=>(k.block b (h.sub b hb hl) (Nat.lt_of_lt_of_le hl h.size)).trans (h.block b hb hl),
  fun b hb hl=>k.sub b (h.sub b hb hl) (Nat.lt_of_lt_of_le hl h.size)⟩
theorem Keep.cell {F F':Nat->Prop} {w w':World} (h:Keep F F' w w') {b o:Nat} (hb:F b) (hl:b < w.heap.size):w'.cell? ⟨b,o,none⟩=w.cell? ⟨b,o,none⟩ :=
 World.cell?_of_block (h.block b hb hl)
mutual
theorem rep_keep {F F':Nat->Prop} {w w':World} (h:Keep F F' w w'):∀ (x:L) (v:Value),rep w F x v->rep w' F' x v
 | .int k n,v,hv=>by simpa [rep] using hv
 | .bool b,v,hv=>by simpa [rep] using hv
 | .str s,v,hv=>by simpa [rep] using hv
 | .nil,v,hv=>by simpa [rep] using hv
 | .emp,v,hv=>by simpa [rep] using hv
 | .er false,v,hv=>by simpa [rep] using hv
 | .er true,v,hv=>by simpa [rep] using hv
 | .sl sz rows,v,hv=>by
  simp only[rep] at hv ⊢
  obtain⟨ao,n,c,rfl,hn,hc,hm,hr⟩:=hv
  refine⟨ao,n,c,rfl,hn,hc,hm,?_⟩
  rcases hr with hr | ⟨b,o,ha,hF,hl,hr⟩
  ·exact .inl hr
  ·exact .inr ⟨b,o,ha,h.sub b hF hl,Nat.lt_of_lt_of_le hl h.size,qt h rows b o hF hl hr⟩
 | .slx sz rows,v,hv=>by
  simp only[rep] at hv ⊢
  obtain⟨ao,n,rfl,hn,hm,hr⟩:=hv
  refine⟨ao,n,rfl,hn,hm,?_⟩
  rcases hr with hr | ⟨b,o,ha,hF,hl,hr⟩
  ·exact .inl hr
  ·exact .inr ⟨b,o,ha,h.sub b hF hl,Nat.lt_of_lt_of_le hl h.size,qt h rows b o hF hl hr⟩
theorem repRow_keep {F F':Nat->Prop} {w w':World} (h:Keep F F' w w'):∀ (xs:List L) (b o:Nat),F b->b < w.heap.size->d6 w F xs b o->d6 w' F' xs b o
 | [],_,_,_,_,_=>by simp[d6]
 | x::xs,b,o,hF,hl,hr=>by
  simp only[d6] at hr ⊢
  obtain⟨⟨u,hu,hx⟩,hr⟩:=hr
  exact⟨⟨u,(h.cell hF hl).trans hu,rep_keep h x u hx⟩,repRow_keep h xs b (o+1) hF hl hr⟩
theorem qt {F F':Nat->Prop} {w w':World} (h:Keep F F' w w') {sz:Nat}:∀ (rs:List (List L)) (b o:Nat),F b->b < w.heap.size->ca w F sz rs b o->ca w' F' sz rs b o
 | [],_,_,_,_,_=>by simp[ca]
 | r::rs,b,o,hF,hl,hr=>by
  simp only[ca] at hr ⊢
  exact⟨⟨hr.1.1,repRow_keep h r b o hF hl hr.1.2⟩,qt h rs b (o+sz) hF hl hr.2⟩
end
def GL.l:GL->L
 | .int k n=>.int k n
 | .bool b=>.bool b
 | .str s=>.str s
structure GW (w:World) (F:Nat->Prop):Prop where
 low:∀ b,b < glow->F b/\b < w.heap.size
 dat:∀ g row,gtab g=some row->g < glow/\∀ i x,row[i]?=some x->w.cell? ⟨g,i,none⟩=some x.val
 any:∀ g,gany g=true->g < glow/\∃ n,w.cell? ⟨g,0,none⟩=some (.int .i64 n)
 pow:∀ g,gpow g=true->g < glow/\∃ t fz,w.heap[g]?=some (.cells ((List.range 20).map fun i=>Value.int .u64 ((10 ^ i:Nat):Int)).toArray t fz)
 err:∀ g,gerr g=true->g < glow/\∃ v,w.cell? ⟨g,0,none⟩=some v/\(v=.nilIface \/ ∃ te pe,v=.iface te pe)
theorem GW.mono {w:World} {F F':Nat->Prop} (h:GW w F) (hF:∀ b,F b->F' b):GW w F':=⟨fun b hb=>⟨hF b (h.low b hb).1,(h.low b hb).2⟩,h.dat,h.any,h.pow,h.err⟩
theorem GW.keep {w w':World} {F F':Nat->Prop} (h:GW w F) (hb:∀ b,b < glow->w'.heap[b]?=w.heap[b]?) (hs:w.heap.size<=w'.heap.size) (hF:∀ b,b < glow->F' b):GW w' F' :=
 ⟨fun b hl=>⟨hF b hl,Nat.lt_of_lt_of_le (h.low b hl).2 hs⟩,
  fun g row hg=>⟨(h.dat g row hg).1,fun i x hx=>(World.cell?_of_block (hb g (h.dat g row hg).1)).trans ((h.dat g row hg).2 i x hx)⟩,
  fun g hg=>⟨(h.any g hg).1,let ⟨n,hn⟩:=(h.any g hg).2; ⟨n,(World.cell?_of_block (hb g (h.any g hg).1)).trans hn⟩⟩,
  fun g hg=>⟨(h.pow g hg).1,let ⟨t,fz,hc⟩:=(h.pow g hg).2; ⟨t,fz,(hb g (h.pow g hg).1).trans hc⟩⟩,
  fun g hg=>⟨(h.err g hg).1,let ⟨v,hv,hi⟩:=(h.err g hg).2; ⟨v,(World.cell?_of_block (hb g (h.err g hg).1)).trans hv,hi⟩⟩⟩
structure Fr (w:World) (F:Nat->Prop):Prop where
 new:∀ b,w.heap.size<=b->F b
 gw:GW w F
instance {w:World} {F:Nat->Prop}:CoeFun (Fr w F) fun _=>∀ b,w.heap.size<=b->F b:=⟨Fr.new⟩
theorem rep_glob {w:World} {F:Nat->Prop} {g:Nat}:∀ (row:List GL) (o:Nat),(∀ i x,row[i]?=some x->w.cell? ⟨g,o+i,none⟩=some x.val)->d6 w F (row.map GL.l) g o
 | [],_,_=>by simp[d6]
 | x::row,o,h=>by
  simp only[List.map_cons,d6]
  refine⟨⟨x.val,by simpa using h 0 x rfl,by cases x<;>simp[GL.l,GL.val,rep]⟩,rep_glob row (o+1) fun i y hy=>?_⟩
  have:=h (i+1) y (by simpa using hy)
  grind
inductive C where
 | top
 | d (x:L)
 | ref (xs:List L) (off:Nat)
 | box (s:Nat) (off:Nat)
 | own (s:Nat)
 | elt (s i sz off:Nat)
 | map (s:Nat)
 | nilmap
 | iter (s:Nat)
 | fn (f:FuncId) (caps:List C)
 deriving Inhabited
inductive U where
 | one (c:C)
 | agg (cs:List C)
 deriving Inhabited
inductive V where
 | u (x:U)
 | tup (us:List U)
 deriving Inhabited
abbrev V.one (c:C):V:=.u (.one c)
abbrev V.agg (cs:List C):V:=.u (.agg cs)
abbrev V.top:V:=.u (.one .top)
abbrev V.int (n:Int):V:=.u (.one (.d (.int .i64 n)))
abbrev V.bool (b:Bool):V:=.u (.one (.d (.bool b)))
def hdv:Value->Value
 | .tuple arr=>arr[0]?.getD undef
 | v=>v
@[simp] theorem hdv_slice (a:Option Addr) (n c:Nat):hdv (.slice a n c)=.slice a n c:=rfl
@[simp] theorem hdv_ptr (a:Option Addr):hdv (.pointer a)=.pointer a:=rfl
@[simp] theorem hdv_map (a:Option Nat):hdv (.map a)=.map a:=rfl
section
variable (φ:Nat->Value) (w:World) (F:Nat->Prop)
mutual
def bm:C->Value->Prop
 | .top,_=>True
 | .d x,v=>rep w F x v
 | .ref xs off,v=>∃ b o,v=.pointer (some ⟨b,o+off,none⟩)/\F b/\b < w.heap.size/\d6 w F xs b o
 | .box s off,v=>∃ b,φ s=.pointer (some ⟨b,0,none⟩)/\v=.pointer (some ⟨b,off,none⟩)
 | .own s,v=>v=hdv (φ s)/\v.oneCell'=true
 | .elt s i sz off,v=>∃ b n c,hdv (φ s)=.slice (some ⟨b,0,none⟩) n c/\v=.pointer (some ⟨b,i*sz+off,none⟩)
 | .map s,v=>v=hdv (φ s)/\v.oneCell'=true
 | .nilmap,v=>v=.map none
 | .iter s,v=>v=hdv (φ s)/\v.oneCell'=true
 | .fn f caps,v=>∃ arr:Array Value,v=.func (.func f) #[] arr/\bg caps arr.toList
def bg:List C->List Value->Prop
 | [],vs=>vs=[]
 | c::cs,vs=>∃ v r,vs=v::r/\bm c v/\bg cs r
end
def bR:U->Value->Prop
 | .one c,v=>bm φ w F c v
 | .agg cs,v=>∃ arr:Array Value,v=.agg arr/\bg φ w F cs arr.toList
def gh:List U->List Value->Prop
 | [],vs=>vs=[]
 | c::cs,vs=>∃ v r,vs=v::r/\bR φ w F c v/\gh cs r
def bn:V->Value->Prop
 | .u x,v=>bR φ w F x v
 | .tup us,v=>∃ arr:Array Value,v=.tuple arr/\gh φ w F us arr.toList
end
section
variable {φ:Nat->Value} {w w':World} {F F':Nat->Prop}
mutual
theorem eG (h:Keep F F' w w'):∀ (c:C) (v:Value),bm φ w F c v->bm φ w' F' c v
 | .top,v,hv=>by simp[bm]
 | .d x,v,hv=>by simp only[bm] at hv ⊢; exact rep_keep h x v hv
 | .ref xs off,v,hv=>by
  simp only[bm] at hv ⊢
  obtain⟨b,o,rfl,hF,hl,hr⟩:=hv
  exact⟨b,o,rfl,h.sub b hF hl,Nat.lt_of_lt_of_le hl h.size,repRow_keep h xs b o hF hl hr⟩
 | .box s off,v,hv=>by simpa [bm] using hv
 | .own s,v,hv=>by simpa [bm] using hv
 | .elt s i sz off,v,hv=>by simpa [bm] using hv
 | .map s,v,hv=>by simpa [bm] using hv
 | .nilmap,v,hv=>by simpa [bm] using hv
 | .iter s,v,hv=>by simpa [bm] using hv
 | .fn f caps,v,hv=>by
  simp only[bm] at hv ⊢
  obtain⟨arr,rfl,hc⟩:=hv
  exact⟨arr,rfl,cD h caps _ hc⟩
theorem cD (h:Keep F F' w w'):∀ (cs:List C) (vs:List Value),bg φ w F cs vs->bg φ w' F' cs vs
 | [],vs,hv=>by simpa [bg] using hv
 | c::cs,vs,hv=>by
  simp only[bg] at hv ⊢
  obtain⟨v,r,rfl,hc,hcs⟩:=hv
  exact⟨v,r,rfl,eG h c v hc,cD h cs r hcs⟩
end
theorem kQ (h:Keep F F' w w') (x:U) (v:Value) (hv:bR φ w F x v):bR φ w' F' x v:=by
 cases x with
 | one c=>exact eG h c v hv
 | agg cs=>obtain⟨arr,rfl,hc⟩:=hv; exact⟨arr,rfl,cD h cs _ hc⟩
theorem usims_keep (h:Keep F F' w w'):∀ (us:List U) (vs:List Value),gh φ w F us vs->gh φ w' F' us vs
 | [],_,hv=>hv
 | x::us,vs,hv=>by
  obtain⟨v,r,rfl,hc,hcs⟩:=hv
  exact⟨v,r,rfl,kQ h x v hc,usims_keep h us r hcs⟩
theorem el (h:Keep F F' w w') (x:V) (v:Value) (hv:bn φ w F x v):bn φ w' F' x v:=by
 cases x with
 | u x=>exact kQ h x v hv
 | tup us=>obtain⟨arr,rfl,hc⟩:=hv; exact⟨arr,rfl,usims_keep h us _ hc⟩
end
mutual
def C.ment (s:Nat):C->Bool
 | .box t _ | .own t | .elt t _ _ _ | .map t | .iter t=>t == s
 | .fn _ caps=>C.ments s caps
 | _=>false
def C.ments (s:Nat):List C->Bool
 | []=>false
 | c::cs=>C.ment s c || C.ments s cs
end
def C.wipe (s:Nat) (c:C):C:=match c with
 | .top=>.top | .d x=>.d x | .ref xs o=>.ref xs o | .nilmap=>.nilmap
 | .box t o=>if t=s then .top else .box t o
 | .own t=>if t=s then .top else .own t
 | .elt t i z o=>if t=s then .top else .elt t i z o
 | .map t=>if t=s then .top else .map t
 | .iter t=>if t=s then .top else .iter t
 | .fn f caps=>if C.ments s caps then .top else .fn f caps
def U.wipe (s:Nat):U->U
 | .one c=>.one (c.wipe s)
 | .agg cs=>.agg (cs.map (C.wipe s))
def V.wipe (s:Nat):V->V
 | .u x=>.u (x.wipe s)
 | .tup us=>.tup (us.map (U.wipe s))
mutual
def C.ren (f:Nat->Nat):C->C
 | .top=>.top | .d x=>.d x | .ref xs o=>.ref xs o | .nilmap=>.nilmap
 | .box t o=>.box (f t) o
 | .own t=>.own (f t)
 | .elt t i z o=>.elt (f t) i z o
 | .map t=>.map (f t)
 | .iter t=>.iter (f t)
 | .fn g caps=>.fn g (C.rens f caps)
def C.rens (f:Nat->Nat):List C->List C
 | []=>[]
 | c::cs=>c.ren f::C.rens f cs
end
def U.ren (f:Nat->Nat):U->U
 | .one c=>.one (c.ren f)
 | .agg cs=>.agg (C.rens f cs)
def U.rens (f:Nat->Nat):List U->List U
 | []=>[]
 | c::cs=>c.ren f::U.rens f cs
def V.ren (f:Nat->Nat):V->V
 | .u x=>.u (x.ren f)
 | .tup us=>.tup (U.rens f us)
section
variable {φ ψ:Nat->Value} {w:World} {F:Nat->Prop} {s:Nat}
mutual
theorem qm (h:∀ t,t≠s->ψ t=φ t):∀ (c:C) (v:Value),c.ment s=false->bm φ w F c v->bm ψ w F c v
 | .top,v,_,hv=>by simp[bm]
 | .d x,v,_,hv=>by simpa [bm] using hv
 | .ref xs off,v,_,hv=>by simpa [bm] using hv
 | .box t off,v,hm,hv=>by simp only[C.ment,beq_eq_false_iff_ne] at hm; simpa [bm,h t hm] using hv
 | .own t,v,hm,hv=>by simp only[C.ment,beq_eq_false_iff_ne] at hm; simpa [bm,h t hm] using hv
 | .elt t i z off,v,hm,hv=>by simp only[C.ment,beq_eq_false_iff_ne] at hm; simpa [bm,h t hm] using hv
 | .map t,v,hm,hv=>by simp only[C.ment,beq_eq_false_iff_ne] at hm; simpa [bm,h t hm] using hv
 | .nilmap,v,_,hv=>by simpa [bm] using hv
 | .iter t,v,hm,hv=>by simp only[C.ment,beq_eq_false_iff_ne] at hm; simpa [bm,h t hm] using hv
 | .fn f caps,v,hm,hv=>by
  simp only[bm,C.ment] at hm hv ⊢
  obtain⟨arr,rfl,hc⟩:=hv
  exact⟨arr,rfl,csims_other h caps _ hm hc⟩
theorem csims_other (h:∀ t,t≠s->ψ t=φ t):∀ (cs:List C) (vs:List Value),C.ments s cs=false->bg φ w F cs vs->bg ψ w F cs vs
 | [],vs,_,hv=>by simpa [bg] using hv
 | c::cs,vs,hm,hv=>by
  simp only[C.ments,Bool.or_eq_false_iff] at hm
  simp only[bg] at hv ⊢
  obtain⟨v,r,rfl,hc,hcs⟩:=hv
  exact⟨v,r,rfl,qm h c v hm.1 hc,csims_other h cs r hm.2 hcs⟩
end
theorem csim_wipe (h:∀ t,t≠s->ψ t=φ t) (c:C) (v:Value) (hv:bm φ w F c v):bm ψ w F (c.wipe s) v:=by
 cases c with
 | top | d _ | ref _ _ | nilmap=>exact qm h _ v rfl hv
 | box t o | own t | elt t i z o | map t | iter t =>
  simp only[C.wipe]
  split
  ·simp[bm]
  ·rename_i hne; exact qm h _ v (by simpa [C.ment] using hne) hv
 | fn f caps =>
  simp only[C.wipe]
  split
  ·simp[bm]
  ·rename_i hne; exact qm h _ v (by simpa [C.ment] using hne) hv
theorem nE (h:∀ t,t≠s->ψ t=φ t):∀ (cs:List C) (vs:List Value),bg φ w F cs vs->bg ψ w F (cs.map (C.wipe s)) vs
 | [],_,hv=>hv
 | c::cs,vs,hv=>by
  simp only[bg] at hv
  obtain⟨v,r,rfl,hc,hcs⟩:=hv
  simp only[List.map_cons,bg]
  exact⟨v,r,rfl,csim_wipe h c v hc,nE h cs r hcs⟩
theorem usim_wipe (h:∀ t,t≠s->ψ t=φ t) (x:U) (v:Value) (hv:bR φ w F x v):bR ψ w F (x.wipe s) v:=by
 cases x with
 | one c=>exact csim_wipe h c v hv
 | agg cs=>obtain⟨arr,rfl,hc⟩:=hv; exact⟨arr,rfl,nE h cs _ hc⟩
theorem usims_wipe (h:∀ t,t≠s->ψ t=φ t):∀ (us:List U) (vs:List Value),gh φ w F us vs->gh ψ w F (us.map (U.wipe s)) vs
 | [],_,hv=>hv
 | x::us,vs,hv=>by
  obtain⟨v,r,rfl,hc,hcs⟩:=hv
  exact⟨v,r,rfl,usim_wipe h x v hc,usims_wipe h us r hcs⟩
theorem nn (h:∀ t,t≠s->ψ t=φ t) (x:V) (v:Value) (hv:bn φ w F x v):bn ψ w F (x.wipe s) v:=by
 cases x with
 | u x=>exact usim_wipe h x v hv
 | tup us=>obtain⟨arr,rfl,hc⟩:=hv; exact⟨arr,rfl,usims_wipe h us _ hc⟩
end
section
variable {φ:Nat->Value} {w:World} {F:Nat->Prop} {f:Nat->Nat}
mutual
theorem csim_ren:∀ (c:C) (v:Value),bm φ w F (c.ren f) v↔bm (fun t=>φ (f t)) w F c v
 | .top,v=>by simp[bm,C.ren]
 | .d x,v=>by simp[bm,C.ren]
 | .ref xs off,v=>by simp[bm,C.ren]
 | .box t off,v=>by simp[bm,C.ren]
 | .own t,v=>by simp[bm,C.ren]
 | .elt t i z off,v=>by simp[bm,C.ren]
 | .map t,v=>by simp[bm,C.ren]
 | .nilmap,v=>by simp[bm,C.ren]
 | .iter t,v=>by simp[bm,C.ren]
 | .fn g caps,v=>by simp only[bm,C.ren]; exact exists_congr fun arr=>and_congr Iff.rfl (po caps _)
theorem po:∀ (cs:List C) (vs:List Value),bg φ w F (C.rens f cs) vs↔bg (fun t=>φ (f t)) w F cs vs
 | [],vs=>by simp[bg,C.rens]
 | c::cs,vs=>by
  simp only[bg,C.rens]
  exact exists_congr fun v=>exists_congr fun r=>and_congr Iff.rfl (and_congr (csim_ren c v) (po cs r))
end
theorem usim_ren (x:U) (v:Value):bR φ w F (x.ren f) v↔bR (fun t=>φ (f t)) w F x v:=by
 cases x with
 | one c=>exact csim_ren c v
 | agg cs=>exact exists_congr fun arr=>and_congr Iff.rfl (po cs _)
theorem usims_ren:∀ (us:List U) (vs:List Value),gh φ w F (U.rens f us) vs↔gh (fun t=>φ (f t)) w F us vs
 | [],_=>Iff.rfl
 | x::us,_=>exists_congr fun v=>exists_congr fun r=>and_congr Iff.rfl (and_congr (usim_ren x v) (usims_ren us r))
theorem vsim_ren (x:V) (v:Value):bn φ w F (x.ren f) v↔bn (fun t=>φ (f t)) w F x v:=by
 cases x with
 | u x=>exact usim_ren x v
 | tup us=>exact exists_congr fun arr=>and_congr Iff.rfl (usims_ren us _)
end
theorem bY {φ:Nat->Value} {w:World} {F:Nat->Prop}:∀ {cs:List C} {vs:List Value},bg φ w F cs vs->cs.length=vs.length
 | [],_,h=>by simp_all [bg]
 | c::cs,vs,h=>by
  simp only[bg] at h
  obtain⟨v,r,rfl,_,h⟩:=h
  simp[bY h]
theorem csims_phi {φ ψ:Nat->Value} {w:World} {F:Nat->Prop}:∀ {xs:List L} {vs:List Value},bg φ w F (xs.map C.d) vs->bg ψ w F (xs.map C.d) vs
 | [],_,h=>by simpa [bg] using h
 | x::xs,vs,h=>by
  simp only[List.map_cons,bg] at h ⊢
  obtain⟨v,r,rfl,hc,h⟩:=h
  exact⟨v,r,rfl,by simpa [bm] using hc,csims_phi h⟩
theorem pd {φ:Nat->Value} {w:World} {F:Nat->Prop}:∀ {cs:List C} {vs:List Value},bg φ w F cs vs->∀ {i:Nat} {c:C},cs[i]?=some c->∃ v,vs[i]?=some v/\bm φ w F c v
 | [],_,_,i,c,hi=>by simp at hi
 | c::cs,vs,h,i,x,hi=>by
  simp only[bg] at h
  obtain⟨v,r,rfl,hc,h⟩:=h
  cases i with
  | zero=>simp_all
  | succ i=>simp at hi; simpa using pd h hi
theorem dZ {φ:Nat->Value} {w:World} {F:Nat->Prop}:∀ {cs ds:List C} {vs us:List Value},bg φ w F cs vs->bg φ w F ds us->bg φ w F (cs++ds) (vs++us)
 | [],_,_,_,h,h'=>by simp_all [bg]
 | c::cs,ds,vs,us,h,h'=>by
  simp only[bg] at h
  obtain⟨v,r,rfl,hc,h⟩:=h
  simp only[List.cons_append,bg]
  exact⟨v,r++us,rfl,hc,dZ h h'⟩
theorem iJ {φ:Nat->Value} {w:World} {F:Nat->Prop}:∀ {cs:List C} {vs:List Value} (n:Nat),bg φ w F cs vs->bg φ w F (cs.take n) (vs.take n)
 | [],_,n,h=>by simp_all [bg]
 | c::cs,vs,n,h=>by
  simp only[bg] at h
  obtain⟨v,r,rfl,hc,h⟩:=h
  cases n with
  | zero=>simp[bg]
  | succ n=>simp only[List.take_succ_cons,bg]; exact⟨v,_,rfl,hc,iJ n h⟩
theorem jw {φ:Nat->Value} {w:World} {F:Nat->Prop}:∀ {cs:List C} {vs:List Value} (n:Nat),bg φ w F cs vs->bg φ w F (cs.drop n) (vs.drop n)
 | [],_,n,h=>by simp_all [bg]
 | c::cs,vs,n,h=>by
  simp only[bg] at h
  obtain⟨v,r,rfl,hc,h⟩:=h
  cases n with
  | zero=>simp only[List.drop_zero,bg]; grind
  | succ n=>simpa using jw n h
theorem csims_set {φ:Nat->Value} {w:World} {F:Nat->Prop}:∀ {cs:List C} {vs:List Value} {c:C} {v:Value} (i:Nat),bg φ w F cs vs->bm φ w F c v->bg φ w F (cs.set i c) (vs.set i v)
 | [],_,_,_,i,h,_=>by simp_all [bg]
 | x::cs,vs,c,v,i,h,hc=>by
  simp only[bg] at h
  obtain⟨u,r,rfl,hu,h⟩:=h
  cases i with
  | zero=>simp only[List.set_cons_zero,bg]; grind
  | succ i=>simp only[List.set_cons_succ,bg]; exact⟨u,_,rfl,hu,csims_set i h hc⟩
end Go.AM
namespace Go.AM
open Go.RowKit
inductive Key where
 | int (k:IntKind) (n:Int)
 | str (s:List UInt8)
 | ints (l:List Int)
 deriving DecidableEq,Inhabited
def Key.val:Key->Value
 | .int k n=>.int k n
 | .str s=>.string ⟨s.toArray⟩
 | .ints l=>.agg (l.map (Value.int .i64)).toArray
def Key.u:Key->U
 | .int k n=>.one (.d (.int k n))
 | .str s=>.one (.d (.str ⟨s.toArray⟩))
 | .ints l=>.agg (l.map fun n=>.d (.int .i64 n))
inductive KK where
 | int (k:IntKind)
 | str
 | ints (n:Nat)
 deriving DecidableEq,Inhabited
def Key.fits:KK->Key->Bool
 | .int k,.int k' n=>decide (k=k') && (Lit.int k n).wf
 | .str,.str s=>decide (s.length<=maxLen)
 | .ints m,.ints l=>decide (l.length=m) && l.all fun n=>(Lit.int .i64 n).wf
 | _,_=>false
inductive NE where
 | rows (rows:List (List L))
 | own (t:Nat)
 | dead
 deriving Inhabited
inductive Ob where
 | box (cs:List C)
 | row (sz:Nat) (e:TypeId) (rows:List (List L))
 | map (kk:KK) (es:List (Key×U))
 | iter (m:Nat) (left:List (Key×U)) (last:Option (Key×U))
 | nest (e ie:TypeId) (sz:Nat) (els:List NE)
 deriving Inhabited
abbrev Env:=Nat->V
abbrev Sto:=Nat->Option Ob
def upd {α:Type} (f:Nat->α) (t:Nat) (x:α):Nat->α:=fun t'=>if t'=t then x else f t'
theorem upd_apply {α:Type} (f:Nat->α) (t:Nat) (x:α) (t':Nat):upd f t x t'=if t'=t then x else f t':=rfl
theorem upd_same {α:Type} (f:Nat->α) (t:Nat) (x:α):upd f t x t=x:=if_pos rfl
theorem bj {α:Type} (f:Nat->α) {t t':Nat} (x:α) (h:t'≠t):upd f t x t'=f t':=if_neg h
def iw:Value->Option Nat
 | .pointer (some a)=>some a.block
 | .slice (some a) _ c=>if c=0 then none else some a.block
 | .map (some r)=>some r
 | _=>none
def blks:Value->List Nat
 | .tuple arr=>arr.toList.filterMap iw
 | v=>(iw v).toList
def hbl (v:Value) (b:Nat):Prop:=b∈blks v
@[simp] theorem hbl_ptr (a:Addr) (b:Nat):hbl (.pointer (some a)) b↔b=a.block:=by simp[hbl,blks,iw]
@[simp] theorem hbl_slice (a:Addr) (n c b:Nat):hbl (.slice (some a) n c) b↔c≠0/\b=a.block:=by
 by_cases h:c=0<;>simp[hbl,blks,iw,h]
@[simp] theorem hbl_sliceN (n c b:Nat):hbl (.slice none n c) b↔False:=by simp[hbl,blks,iw]
@[simp] theorem hbl_slice0 (a:Option Addr) (n b:Nat):hbl (.slice a n 0) b↔False:=by cases a<;>simp
@[simp] theorem hbl_map (r b:Nat):hbl (.map (some r)) b↔b=r:=by simp[hbl,blks,iw]
grind_pattern hbl_ptr=>hbl (.pointer (some a)) b
grind_pattern hbl_slice=>hbl (.slice (some a) n c) b
grind_pattern hbl_map=>hbl (.map (some r)) b
def eH (φ:Nat->Value) (w:World) (F:Nat->Prop):List (Key×U)->List MapEntry->Prop
 | [],l=>l=[]
 | x::es,l=>∃ e r,l=e::r/\e.key=x.1.val/\bR φ w F x.2 e.val/\eH φ w F es r
def rowv (φ:Nat->Value) (w:World) (F:Nat->Prop) (v:Value) (sz:Nat) (e:TypeId) (rows:List (List L)):Prop:=(∀ r∈rows,r.length=sz)/\((rows=[]/\∃ a,v=.slice a 0 0) \/
   ∃ b cap cur,0 < cap/\v=.slice (some ⟨b,0,none⟩) rows.length cap/\rows.length<=cap/\cap<=maxLen/\w.heap[b]?=some (.cells cur e (0,0))/\cur.size=cap*sz /\
    bg φ w F (rows.flatten.map C.d) (cur.toList.take (rows.length*sz)))
def nsim (φ:Nat->Value) (w:World) (F:Nat->Prop) (ie:TypeId) (sz:Nat) (c iv:Value):NE->Prop
 | .rows r=>c=iv/\rowv φ w F iv sz ie r
 | .own t=>c=hdv (φ t)/\c.oneCell'=true/\iv=undef
 | .dead=>c.oneCell'=true/\iv=undef
def lu (φ:Nat->Value) (w:World) (F:Nat->Prop) (ie:TypeId) (sz:Nat):List NE->List Value->List Value->Prop
 | [],cs,ivs=>cs=[]/\ivs=[]
 | x::els,cs,ivs=>∃ c cs' iv ivs',cs=c::cs'/\ivs=iv::ivs'/\nsim φ w F ie sz c iv x/\lu φ w F ie sz els cs' ivs'
def spine (w:World) (e:TypeId) (n:Nat) (out:Value) (cs:List Value):Prop:=(n=0/\cs=[]/\∃ a,out=.slice a 0 0) \/
 ∃ b cap cur,0 < cap/\out=.slice (some ⟨b,0,none⟩) n cap/\n<=cap/\cap<=maxLen/\w.heap[b]?=some (.cells cur e (0,0))/\cur.size=cap/\cs=cur.toList.take n
def jM (φ:Nat->Value) (w:World) (F:Nat->Prop) (s:Nat):Ob->Prop
 | .box cs=>∃ b arr t,φ s=.pointer (some ⟨b,0,none⟩)/\w.heap[b]?=some (.cells arr t (0,0))/\bg φ w F cs arr.toList/\∀ u∈arr.toList,u.oneCell'=true
 | .row sz e rows=>(∀ r∈rows,r.length=sz)/\((rows=[]/\∃ a,φ s=.slice a 0 0) \/
   ∃ b cap cur,0 < cap/\φ s=.slice (some ⟨b,0,none⟩) rows.length cap/\rows.length<=cap/\cap<=maxLen/\w.heap[b]?=some (.cells cur e (0,0))/\cur.size=cap*sz /\
    bg φ w F (rows.flatten.map C.d) (cur.toList.take (rows.length*sz)))
 | .map kk es=>∃ b ents clk,φ s=.map (some b)/\w.heap[b]?=some (.map ents clk)/\eH φ w F es ents.toList/\(ents.toList.map (·.born)).Nodup/\(∀ e∈ents.toList,e.born < clk) /\
   (∀ x∈es,x.1.fits kk=true)/\(es.map (·.1)).Nodup
 | .iter m left last=>∃ b c ents clk seen,φ s=.pointer (some ⟨b,0,none⟩)/\φ m=.map (some c)/\w.heap[b]?=some (.mapIter (some c) clk seen clk)/\w.heap[c]?=some (.map ents clk) /\
   eH φ w F left (ents.toList.filter fun e=>!seen.contains e.born)/\(ents.toList.map (·.born)).Nodup/\(∀ e∈ents.toList,e.born < clk) /\
   ∀ x,last=some x->∃ e,seen.back?=some e.born/\ents.find? (·.born == e.born)=some e/\e.key=x.1.val/\bR φ w F x.2 e.val
 | .nest e ie sz els=>∃ out ivs cs,φ s=.tuple (out::ivs).toArray/\(blks (φ s)).Nodup/\spine w e els.length out cs/\lu φ w F ie sz els cs ivs
theorem il (out:Value) (ivs:List Value):hdv (.tuple (out::ivs).toArray)=out:=by simp[hdv]
def veq (a b:Value):Prop:=a=b \/ ∃ out l l',a=.tuple (out::l).toArray/\b=.tuple (out::l').toArray
theorem veq.refl (a:Value):veq a a:=.inl rfl
theorem veq.symm {a b:Value} (h:veq a b):veq b a:=h.elim (fun h=>.inl h.symm) fun⟨o,l,l',h1,h2⟩=>.inr ⟨o,l',l,h2,h1⟩
theorem veq.hd {a b:Value} (h:veq a b):hdv b=hdv a:=by
 rcases h with rfl | ⟨o,l,l',rfl,rfl⟩
 ·rfl
 ·rw[il,il]
theorem veq.trans {a b c:Value} (h:veq a b) (k:veq b c):veq a c:=by
 rcases h with rfl | ⟨o,l,l',rfl,rfl⟩
 ·exact k
 ·rcases k with rfl | ⟨o2,l2,l3,h1,rfl⟩
  ·exact .inr ⟨o,l,l',rfl,rfl⟩
  ·have:o=o2:=by
    have:=congrArg hdv h1
    rwa [il,il] at this
   subst this
   exact .inr ⟨o,l,l3,rfl,rfl⟩
theorem veq.eq {a b:Value} (h:veq a b) (ha:∀ arr,a≠.tuple arr):b=a:=by
 rcases h with rfl | ⟨o,l,l',rfl,rfl⟩
 ·rfl
 ·exact absurd rfl (ha _)
def owned (φ:Nat->Value) (O:Sto) (b:Nat):Prop:=∃ s o,O s=some o/\hbl (φ s) b
structure Cx where
 w0:World
 base:Nat->Prop
 inb:Nat->Prop
 n:Nat
 φ0:Nat->Value
 k:Nat:=0
 gw:GW w0 base
 gin:∀ b,inb b->glow<=b
def inBase:Nat:=1000000
def Cx.fr (cx:Cx) (φ:Nat->Value) (O:Sto) (b:Nat):Prop:=(cx.base b \/ cx.w0.heap.size<=b \/ cx.inb b)/\¬ owned φ O b
structure Core (cx:Cx) (φ:Nat->Value) (O:Sto) (w:World):Prop where
 os:w.os=cx.w0.os
 tape:w.tape=cx.w0.tape
 output:w.output=cx.w0.output
 drawn:drn cx.w0<=drn w
 size:cx.w0.heap.size<=w.heap.size
 block:∀ b,b < cx.w0.heap.size->¬ cx.inb b->w.heap[b]?=cx.w0.heap[b]?
 objs:∀ s o,O s=some o->jM φ w (cx.fr φ O) s o
 own:∀ s o b,O s=some o->hbl (φ s) b->(cx.w0.heap.size<=b \/ cx.inb b)/\b < w.heap.size
 disj:∀ s s' o o' b,O s=some o->O s'=some o'->hbl (φ s) b->hbl (φ s') b->s=s'
 inp:∀ i,inBase<=i->i < inBase+cx.k->veq (cx.φ0 i) (φ i)
 itm:∀ s m left last,O s=some (.iter m left last)->∃ kk es,O m=some (.map kk es)
structure Sim (cx:Cx) (φ:Nat->Value) (Z:Env) (O:Sto) (a:Act) (w:World):Prop where
 core:Core cx φ O w
 slots:∀ t,bn φ w (cx.fr φ O) (Z t) (a.tmps.getD t undef)
 defers:a.defers=[]
 room:cx.n<=a.tmps.size
theorem Core.glob {cx:Cx} {φ:Nat->Value} {O:Sto} {w:World} (h:Core cx φ O w) {s:Nat} {o:Ob} {b:Nat} (hs:O s=some o) (hb:hbl (φ s) b):glow<=b:=by
 rcases (h.own s o b hs hb).1 with h1 | h1
 ·rcases Nat.lt_or_ge b glow with h2 | h2
  ·have:=(cx.gw.low b h2).2; omega
  ·exact h2
 ·exact cx.gin b h1
theorem Core.gw {cx:Cx} {φ:Nat->Value} {O:Sto} {w:World} (h:Core cx φ O w):GW w (cx.fr φ O) :=
 cx.gw.keep (fun b hb=>h.block b (cx.gw.low b hb).2 fun hi=>absurd (cx.gin b hi) (by omega)) h.size fun b hb =>
  ⟨.inl (cx.gw.low b hb).1,fun⟨_,_,ho,hk⟩=>absurd (h.glob ho hk) (by omega)⟩
theorem gV {φ:Nat->Value} {w w':World} {F F':Nat->Prop} (h:Keep F F' w w'):∀ {es:List (Key×U)} {l:List MapEntry},eH φ w F es l->eH φ w' F' es l
 | [],_,hs=>hs
 | x::es,l,hs=>by
  obtain⟨e,r,rfl,hk,hv,hs⟩:=hs
  exact⟨e,r,rfl,hk,kQ h _ _ hv,gV h hs⟩
theorem rowv_keep {φ:Nat->Value} {w w':World} {F F':Nat->Prop} (h:Keep F F' w w') {v:Value} {sz:Nat} {e:TypeId} {rows:List (List L)} (hb:∀ b,iw v=some b->w'.heap[b]?=w.heap[b]?) (ho:rowv φ w F v sz e rows):rowv φ w' F' v sz e rows:=by
 obtain⟨hsz,ho⟩:=ho
 refine⟨hsz,?_⟩
 rcases ho with ho | ⟨b,cap,cur,h0,hp,hl,hm',hh,hs,hc⟩
 ·exact .inl ho
 ·exact .inr ⟨b,cap,cur,h0,hp,hl,hm',(hb b (by rw[hp]; simp[iw]; omega)).trans hh,hs,cD h _ _ hc⟩
theorem lT {φ:Nat->Value} {w w':World} {F F':Nat->Prop} {ie:TypeId} {sz:Nat} (h:Keep F F' w w'):∀ {els:List NE} {cs ivs:List Value},(∀ iv∈ivs,∀ b,iw iv=some b->w'.heap[b]?=w.heap[b]?)->lu φ w F ie sz els cs ivs->lu φ w' F' ie sz els cs ivs
 | [],_,_,_,hn=>hn
 | x::els,cs,ivs,hb,hn=>by
  obtain⟨c,cs',iv,ivs',rfl,rfl,h1,h2⟩:=hn
  refine⟨c,cs',iv,ivs',rfl,rfl,?_,lT h (fun iv hi=>hb iv (List.mem_cons_of_mem _ hi)) h2⟩
  cases x with
  | rows r=>exact⟨h1.1,rowv_keep h (hb iv (by simp)) h1.2⟩
  | own t=>exact h1
  | dead=>exact h1
theorem ni {out:Value} {ivs:List Value} {b:Nat}:hbl (.tuple (out::ivs).toArray) b↔iw out=some b \/ ∃ iv∈ivs,iw iv=some b:=by
 simp[hbl,blks]
theorem spine_keep {w w':World} {e:TypeId} {n:Nat} {out:Value} {cs:List Value} (hb:∀ b,iw out=some b->w'.heap[b]?=w.heap[b]?) (h:spine w e n out cs):spine w' e n out cs:=by
 rcases h with h | ⟨b,cap,cur,h0,hp,hl,hm',hh,hs,hc⟩
 ·exact .inl h
 ·exact .inr ⟨b,cap,cur,h0,hp,hl,hm',(hb b (by rw[hp]; simp[iw]; omega)).trans hh,hs,hc⟩
theorem eu {φ:Nat->Value} {w w':World} {F F':Nat->Prop} (h:Keep F F' w w') {s:Nat} {o:Ob} (ho:jM φ w F s o)
  (hb:∀ b,hbl (φ s) b->w'.heap[b]?=w.heap[b]?) (hm:∀ m left last b,o=.iter m left last->hbl (φ m) b->w'.heap[b]?=w.heap[b]?):jM φ w' F' s o:=by
 cases o with
 | box cs =>
  obtain⟨b,arr,t,hp,hh,hc,h1⟩:=ho
  exact⟨b,arr,t,hp,(hb b (by rw[hp]; simp)).trans hh,cD h cs _ hc,h1⟩
 | row sz e rows =>
  obtain⟨hsz,ho⟩:=ho
  refine⟨hsz,?_⟩
  rcases ho with ho | ⟨b,cap,cur,h0,hp,hl,hm',hh,hs,hc⟩
  ·exact .inl ho
  ·exact .inr ⟨b,cap,cur,h0,hp,hl,hm',(hb b (by rw[hp]; simp only[hbl_slice]; grind)).trans hh,hs,cD h _ _ hc⟩
 | map kk es =>
  obtain⟨b,ents,clk,hp,hh,hc,h1,h2⟩:=ho
  exact⟨b,ents,clk,hp,(hb b (by rw[hp]; simp)).trans hh,gV h hc,h1,h2⟩
 | iter m left last =>
  obtain⟨b,c,ents,clk,seen,hp,hq,hh,hh',hc,h1,h2,h3⟩:=ho
  exact⟨b,c,ents,clk,seen,hp,hq,(hb b (by rw[hp]; simp)).trans hh,(hm m left last c rfl (by rw[hq]; simp)).trans hh',gV h hc,h1,h2,
   fun x hx=>let ⟨e,a1,a2,a3,a4⟩:=h3 x hx; ⟨e,a1,a2,a3,kQ h _ _ a4⟩⟩
 | nest e ie sz els =>
  obtain⟨out,ivs,cs,hp,hnd,hsp,hn⟩:=ho
  rw[hp] at hb
  exact⟨out,ivs,cs,hp,hnd,spine_keep (fun b h=>hb b (ni.2 (.inl h))) hsp,lT h (fun iv hi b hbk=>hb b (ni.2 (.inr ⟨iv,hi,hbk⟩))) hn⟩
theorem osim_iter_block {φ:Nat->Value} {w:World} {F:Nat->Prop} {s m:Nat} {left:List (Key×U)} {last:Option (Key×U)} (ho:jM φ w F s (.iter m left last)) {b:Nat} (hb:hbl (φ m) b):b < w.heap.size:=by
 obtain⟨_,c,ents,clk,seen,_,hq,_,hh',_⟩:=ho
 grind
theorem Keep.of_below {F:Nat->Prop} {w w':World} (h:Blw w.heap.size w w'):Keep F F w w':=⟨h.size,fun b _ hl=>h.block b hl,fun _ hb _=>hb⟩
theorem Core.below {cx:Cx} {φ:Nat->Value} {O:Sto} {w w':World} (h:Core cx φ O w) (hw:Blw w.heap.size w w'):Core cx φ O w' where
 os:=hw.os.trans h.os
 tape:=hw.tape.trans h.tape
 output:=hw.output.trans h.output
 drawn:=Nat.le_trans h.drawn hw.drawn
 size:=Nat.le_trans h.size hw.size
 block:=fun b hb hn=>(hw.block b (Nat.lt_of_lt_of_le hb h.size)).trans (h.block b hb hn)
 objs:=fun s o hs=>eu (Keep.of_below hw) (h.objs s o hs) (fun b hb=>hw.block b (h.own s o b hs hb).2)
  (fun _ _ _ b ho hb=>hw.block b (osim_iter_block (ho ▸ h.objs s o hs) hb))
 own:=fun s o b hs hb=>⟨(h.own s o b hs hb).1,Nat.lt_of_lt_of_le (h.own s o b hs hb).2 hw.size⟩
 disj:=h.disj
 inp:=h.inp
 itm:=h.itm
theorem Core.drew {cx:Cx} {φ:Nat->Value} {O:Sto} {w:World} (h:Core cx φ O w):Core cx φ O { w with drawn:=w.drawn+1 } :=
 h.below ⟨⟨rfl,rfl,rfl,Nat.le_refl _,fun _ _=>rfl⟩,mt (Nat.le_succ _)⟩
theorem Sim.below {cx:Cx} {φ:Nat->Value} {Z:Env} {O:Sto} {a:Act} {w w':World} (h:Sim cx φ Z O a w) (hw:Blw w.heap.size w w'):Sim cx φ Z O a w' :=
 ⟨h.core.below hw,fun t=>el (Keep.of_below hw) _ _ (h.slots t),h.defers,h.room⟩
theorem slots_put {φ:Nat->Value} {w:World} {F:Nat->Prop} {Z:Env} {a:Act} (h:∀ t,bn φ w F (Z t) (a.tmps.getD t undef)) {d:Nat} {v:V} {u:Value} (hv:bn φ w F v u) (hlt:d < a.tmps.size) :
  ∀ t,bn φ w F (upd Z d v t) ((a.put (some d) u).tmps.getD t undef):=by
 intro t
 by_cases htd:t=d
 ·subst htd
  rw[upd_same]
  simp only[Act.put]
  simpa [hlt] using hv
 ·rw[bj _ _ htd]
  have:=h t
  simpa [Act.put,Array.getElem?_setIfInBounds_ne (Ne.symm htd)] using this
structure TI where
 size:Nat
 bytes:Nat
 zu:U
 zv:Value
 desc:TypeDesc
 offs:List (Nat×Nat):=[]
 deriving Inhabited
def TI.agg (ti:TI):Bool:=match ti.desc with | .struct _ | .array _ _=>true | _=>false
structure TabFact (P:Program) (t:TypeId) (ti:TI):Prop where
 info:(P.info? t).map (fun i=>(i.size,i.bytes,i.zero))=some (ti.size,ti.bytes,some ti.zv)
 und:P.underlying t=some ti.desc
 zero:∀ φ w F,bR φ w F ti.zu ti.zv
 zsize:ti.zv.cells.size=ti.size
 offs:∀ fs,ti.desc=.struct fs->(ti.offs=fs.toList.map fun f=>(f.offset,P.cellsOf f.type))
 fty:∀ fs,ti.desc=.struct fs->(fs.toList.all fun f=>(P.info? f.type).isSome)=true
abbrev Tab:=Nat->Option TI
def TabOk (P:Program) (tb:Tab):Prop:=∀ t ti,tb t=some ti->TabFact P t ti
section
variable {P:Program} {t:TypeId} {ti:TI}
theorem TabFact.get (h:TabFact P t ti):∃ i,P.info? t=some i/\i.size=ti.size/\i.bytes=ti.bytes/\i.zero=some ti.zv:=by
 have:=h.info
 simp_all
theorem TabFact.run_und (h:TabFact P t ti) (w:World):(underlying t).run P w=.ok ti.desc w:=run_underlying h.und w
theorem TabFact.run_size (h:TabFact P t ti) (w:World):(sizeOf t).run P w=.ok ti.size w:=by
 obtain⟨i,hi,hs,_,_⟩:=h.get
 simp[sizeOf,typeInfo,hi,hs]
theorem TabFact.run_zero (h:TabFact P t ti) (w:World):(zeroValue t).run P w=.ok ti.zv w:=by
 obtain⟨i,hi,_,_,hz⟩:=h.get
 simp[zeroValue,typeInfo,hi,hz]
theorem TabFact.run_agg (h:TabFact P t ti) (w:World):(isAgg t).run P w=.ok ti.agg w:=by
 unfold isAgg TI.agg
 simp only[Sem.run_bind,h.run_und,Result.andThen_ok]
 cases ti.desc<;>rfl
end
theorem TabFact.cells {P:Program} {t:TypeId} {ti:TI} (h:TabFact P t ti):P.cellsOf t=ti.size:=by
 obtain⟨i,hi,hs,_,_⟩:=h.get
 simp[Program.cellsOf,hi,hs]
def Mem (φ:Nat->Value) (w:World) (F:Nat->Prop) (cs:List C) (b o:Nat):Prop :=
 ∃ us:List Value,bg φ w F cs us/\∀ (j:Nat) (u:Value),us[j]?=some u->w.cell? ⟨b,o+j,none⟩=some u/\u.oneCell'=true
theorem rep_one {w:World} {F:Nat->Prop} {x:L} {v:Value} (h:rep w F x v):v.oneCell'=true:=by
 cases x with
 | int k n=>simp only[rep] at h; subst h; rfl
 | bool b=>simp only[rep] at h; subst h; rfl
 | str s=>simp only[rep] at h; subst h; rfl
 | nil=>simp only[rep] at h; subst h; rfl
 | emp=>simp only[rep] at h; obtain⟨a,rfl⟩:=h; rfl
 | sl sz rows=>simp only[rep] at h; obtain⟨ao,n,c,rfl,_⟩:=h; rfl
 | slx sz rows=>simp only[rep] at h; obtain⟨ao,n,rfl,_⟩:=h; rfl
 | er b =>
  cases b with
  | false=>simp only[rep] at h; subst h; rfl
  | true=>simp only[rep] at h; obtain⟨te,pe,rfl⟩:=h; rfl
theorem pV {φ:Nat->Value} {w:World} {F:Nat->Prop}:∀ {xs:List L} {b o:Nat},d6 w F xs b o->Mem φ w F (xs.map C.d) b o
 | [],b,o,_=>⟨[],by simp[bg],fun j u hj=>by simp at hj⟩
 | x::xs,b,o,h=>by
  simp only[d6] at h
  obtain⟨⟨u,hu,hx⟩,hr⟩:=h
  obtain⟨us,h1,h2⟩:=pV (φ:=φ) hr
  refine⟨u::us,by simp only[List.map_cons,bg]; exact⟨u,us,rfl,by simpa [bm] using hx,h1⟩,fun j v hj=>?_⟩
  grind [rep_one]
theorem Mem.sub {φ:Nat->Value} {w:World} {F:Nat->Prop} {cs:List C} {b o:Nat} (h:Mem φ w F cs b o) (off n:Nat):Mem φ w F ((cs.drop off).take n) b (o+off):=by
 obtain⟨us,h1,h2⟩:=h
 refine⟨(us.drop off).take n,iJ n (jw off h1),fun j u hj=>?_⟩
 grind
theorem repRows_get {w:World} {F:Nat->Prop} {sz:Nat}:∀ {rs:List (List L)} {b o i:Nat} {r:List L},ca w F sz rs b o->rs[i]?=some r->r.length=sz/\d6 w F r b (o+i*sz)
 | [],b,o,i,r,_,hi=>by simp at hi
 | x::rs,b,o,i,r,h,hi=>by
  simp only[ca] at h
  cases i with
  | zero=>simp_all
  | succ i =>
   have:=repRows_get h.2 (i:=i) (r:=r) (by simpa using hi)
   grind
theorem qq {w:World} {F:Nat->Prop} {sz:Nat}:∀ {rs:List (List L)} {b o:Nat} (i:Nat),ca w F sz rs b o->ca w F sz (rs.drop i) b (o+i*sz)
 | [],b,o,i,_=>by simp[ca]
 | x::rs,b,o,i,h=>by
  cases i with
  | zero=>simpa using h
  | succ i =>
   simp only[ca] at h
   have:=qq i h.2
   grind
theorem qd {w:World} {F:Nat->Prop} {sz:Nat}:∀ {rs:List (List L)} {b o:Nat} (i:Nat),ca w F sz rs b o->ca w F sz (rs.take i) b o
 | [],b,o,i,_=>by simp[ca]
 | x::rs,b,o,i,h=>by
  cases i with
  | zero=>simp[ca]
  | succ i =>
   simp only[ca,List.take_succ_cons] at h ⊢
   exact⟨h.1,qd i h.2⟩
def memOf (O:Sto):C->Option (List C×Nat)
 | .ref xs off=>some (xs.map C.d,off)
 | .box s off=>match O s with | some (.box cs)=>some (cs,off) | _=>none
 | .elt s i sz off=>match O s with
  | some (.row sz' _ rows)=>if sz=sz' then match rows[i]? with
    | some r=>some (r.map C.d,off)
    | none=>none
   else none
  | some (.nest _ _ _ els)=>if sz=1 then match els[i]? with
    | some (.own t)=>some ([.own t],off)
    | _=>none
   else none
  | _=>none
 | _=>none
theorem pu {φ:Nat->Value} {w:World} {F:Nat->Prop} {ie:TypeId} {sz:Nat}:∀ {els:List NE} {cs ivs:List Value},lu φ w F ie sz els cs ivs->∀ {i:Nat} {x:NE},els[i]?=some x->∃ c iv,cs[i]?=some c/\ivs[i]?=some iv/\nsim φ w F ie sz c iv x
 | [],_,_,_,i,x,hi=>by simp at hi
 | y::els,cs,ivs,hn,i,x,hi=>by
  obtain⟨c,cs',iv,ivs',rfl,rfl,h1,h2⟩:=hn
  cases i with
  | zero=>simp only[List.getElem?_cons_zero,Option.some.injEq] at hi; subst hi; exact⟨c,iv,rfl,rfl,h1⟩
  | succ i=>simp only[List.getElem?_cons_succ] at hi ⊢; exact pu h2 hi
theorem pA {φ:Nat->Value} {w:World} {F:Nat->Prop} {ie:TypeId} {sz:Nat}:∀ {els:List NE} {cs ivs:List Value} {i:Nat} {x:NE} {c iv:Value},lu φ w F ie sz els cs ivs->nsim φ w F ie sz c iv x->lu φ w F ie sz (els.set i x) (cs.set i c) (ivs.set i iv)
 | [],_,_,_,_,_,_,hn,_=>by obtain⟨rfl,rfl⟩:=hn; exact⟨rfl,rfl⟩
 | y::els,cs,ivs,i,x,c,iv,hn,hx=>by
  obtain⟨c',cs',iv',ivs',rfl,rfl,h1,h2⟩:=hn
  cases i with
  | zero=>exact⟨c,cs',iv,ivs',rfl,rfl,hx,h2⟩
  | succ i=>exact⟨c',_,iv',_,rfl,rfl,h1,pA h2 hx⟩
theorem nsims_length {φ:Nat->Value} {w:World} {F:Nat->Prop} {ie:TypeId} {sz:Nat}:∀ {els:List NE} {cs ivs:List Value},lu φ w F ie sz els cs ivs->cs.length=els.length/\ivs.length=els.length
 | [],_,_,hn=>by obtain⟨rfl,rfl⟩:=hn; exact⟨rfl,rfl⟩
 | y::els,cs,ivs,hn=>by
  obtain⟨c',cs',iv',ivs',rfl,rfl,h1,h2⟩:=hn
  have:=nsims_length h2
  simp only[List.length_cons]
  omega
theorem nsim_one {φ:Nat->Value} {w:World} {F:Nat->Prop} {ie:TypeId} {sz:Nat} {c iv:Value} {x:NE} (h:nsim φ w F ie sz c iv x):c.oneCell'=true:=by
 cases x with
 | rows r =>
  obtain⟨rfl,_,h⟩:=h
  rcases h with ⟨_,a,rfl⟩ | ⟨b,cap,cur,_,rfl,_⟩<;>rfl
 | own t=>exact h.2.1
 | dead=>exact h.1
theorem ji {φ:Nat->Value} {w:World} {F:Nat->Prop}:∀ {xs:List L} {vs:List Value},bg φ w F (xs.map C.d) vs->∀ u∈vs,u.oneCell'=true
 | [],vs,h=>by simp_all [bg]
 | x::xs,vs,h=>by
  simp only[List.map_cons,bg] at h
  obtain⟨v,r,rfl,hc,h⟩:=h
  intro u hu
  rcases List.mem_cons.1 hu with rfl | hu
  ·grind [rep_one,bm]
  ·exact ji h u hu
theorem gQ {φ:Nat->Value} {w:World} {F:Nat->Prop} {cs:List C} {b:Nat} {arr:Array Value} {t:TypeId} {z:Nat×Nat} (hh:w.heap[b]?=some (.cells arr t z)) {n:Nat} (hc:bg φ w F cs (arr.toList.take n))
  (h1:∀ u∈arr.toList.take n,u.oneCell'=true):Mem φ w F cs b 0:=by
 refine⟨_,hc,fun j u hj=>⟨?_,h1 u (List.mem_of_getElem? hj)⟩⟩
 rw[List.getElem?_take] at hj
 split at hj
 ·rw[Nat.zero_add,cell_of_row w b j arr t z hh]; simpa using hj
 ·cases hj
theorem flatten_row {sz:Nat}:∀ {rs:List (List L)} {i:Nat} {r:List L},(∀ r∈rs,r.length=sz)->rs[i]?=some r->(rs.flatten.drop (i*sz)).take sz=r
 | [],i,r,_,hi=>by simp at hi
 | x::rs,0,r,h,hi=>by
  simp_all
 | x::rs,i+1,r,h,hi=>by
  have hx:=h x (by simp)
  have ih:=flatten_row (rs:=rs) (i:=i) (r:=r) (fun r hr=>h r (List.mem_cons_of_mem _ hr)) (by simpa using hi)
  rw[List.flatten_cons,show (i+1)*sz=x.length+i*sz from by grind,List.drop_length_add_append]
  exact ih
theorem memOf_sound {cx:Cx} {φ:Nat->Value} {O:Sto} {w:World} (hco:Core cx φ O w) {c:C} {cs:List C} {off:Nat} (h:memOf O c=some (cs,off)) {v:Value} (hv:bm φ w (cx.fr φ O) c v) :
  ∃ b o,v=.pointer (some ⟨b,o+off,none⟩)/\Mem φ w (cx.fr φ O) cs b o:=by
 cases c with
 | ref xs off' =>
  simp only[memOf,Option.some.injEq,Prod.mk.injEq] at h
  obtain⟨rfl,rfl⟩:=h
  simp only[bm] at hv
  obtain⟨b,o,rfl,_,_,hr⟩:=hv
  exact⟨b,o,rfl,pV hr⟩
 | box s off' =>
  simp only[memOf] at h
  split at h
  ·rename_i cs' hs
   simp only[Option.some.injEq,Prod.mk.injEq] at h
   obtain⟨rfl,rfl⟩:=h
   obtain⟨b,arr,t,hp,hh,hc,h1⟩:=hco.objs s _ hs
   simp only[bm,hp] at hv
   obtain⟨b',hb',rfl⟩:=hv
   simp only[Value.pointer.injEq,Option.some.injEq,Addr.mk.injEq] at hb'
   obtain⟨rfl,_,_⟩:=hb'
   exact⟨b,0,by simp,gQ (n:=arr.toList.length) hh (by grind) (by grind)⟩
  ·cases h
 | elt s i sz off' =>
  simp only[memOf] at h
  split at h
  ·rename_i sz' e rows hs
   split at h
   ·rename_i hsz
    subst hsz
    split at h
    ·rename_i r hr
     simp only[Option.some.injEq,Prod.mk.injEq] at h
     obtain⟨rfl,rfl⟩:=h
     simp only[bm] at hv
     obtain⟨b',n',c',hb',rfl⟩:=hv
     obtain⟨hrl,ho⟩:=hco.objs s _ hs
     rcases ho with ⟨h0,_⟩ | ⟨b,cap,cur,h0,hp,hl,hm',hh,hs',hc⟩
     ·grind
     ·rw[hp] at hb'
      simp at hb'
      obtain⟨rfl,_,_⟩:=hb'
      refine⟨b,i*sz,rfl,?_⟩
      have hm:=(gQ hh hc (ji hc)).sub (i*sz) sz
      rw[<- List.map_drop,<- List.map_take,flatten_row hrl hr] at hm
      simpa using hm
    ·cases h
   ·cases h
  ·rename_i e ie sz' els hs
   split at h
   ·rename_i hsz
    subst hsz
    split at h
    ·rename_i t hr
     simp only[Option.some.injEq,Prod.mk.injEq] at h
     obtain⟨rfl,rfl⟩:=h
     simp only[bm] at hv
     obtain⟨b',n',c',hb',rfl⟩:=hv
     obtain⟨out,ivs,cs,hp,hnd,hsp,hn⟩:=hco.objs s _ hs
     rw[hp,il] at hb'
     subst hb'
     have hlt:=(List.getElem?_eq_some_iff.1 hr).1
     obtain⟨c,iv,hc,_,hx⟩:=pu hn hr
     rcases hsp with ⟨h0,_⟩ | ⟨b,cap,cur,h0,ho,hl,hm',hh,hs',rfl⟩
     ·omega
     ·simp only[Value.slice.injEq,Option.some.injEq,Addr.mk.injEq] at ho
      obtain⟨⟨rfl,_,_⟩,_,_⟩:=ho
      refine⟨b',i*1,rfl,[c],by simp only[bg]; exact⟨c,[],rfl,⟨hx.1,hx.2.1⟩,rfl⟩,fun j u hj=>?_⟩
      cases j with
      | zero =>
       simp only[List.getElem?_cons_zero,Option.some.injEq] at hj
       subst hj
       refine⟨?_,hx.2.1⟩
       rw[cell_of_row w b' _ cur e (0,0) hh]
       rw[List.getElem?_take,if_pos hlt] at hc
       simpa using hc
      | succ j=>simp at hj
    ·cases h
   ·cases h
  ·cases h
 | _=>simp[memOf] at h
end Go.AM
namespace Go.AM
open Go.RowKit
def ql:Value->C
 | .int k n=>.d (.int k n)
 | .bool b=>.d (.bool b)
 | .string s=>.d (.str s)
 | .slice none 0 0=>.d .nil
 | .map none=>.nilmap
 | .nilIface=>.d (.er false)
 | _=>.top
def constV:Value->V
 | .agg arr=>.agg (arr.toList.map ql)
 | v=>.one (ql v)
def gval (g:Nat):V:=match gtab g with
 | some row=>.one (.ref (row.map GL.l) 0)
 | none=>.top
def oev (Z:Env):Operand->V
 | .tmp t=>Z t
 | .const v=>constV v
 | .func f=>.one (.fn f [])
 | .global g=>gval g
section
variable {φ:Nat->Value} {w:World} {F:Nat->Prop}
theorem csim_const (v:Value):bm φ w F (ql v) v:=by
 unfold ql
 split<;>simp[bm,rep]
theorem csims_const:∀ l:List Value,bg φ w F (l.map ql) l
 | []=>by simp[bg]
 | v::l=>by simp only[List.map_cons,bg]; exact⟨v,l,rfl,csim_const v,csims_const l⟩
theorem vsim_const (v:Value):bn φ w F (constV v) v:=by
 unfold constV
 split
 ·exact⟨_,rfl,csims_const _⟩
 ·exact csim_const _
theorem vsim_gval (hg:GW w F) (g:Nat):bn φ w F (gval g) (.pointer (some ⟨g,0,none⟩)):=by
 unfold gval
 split
 ·rename_i row hr
  obtain⟨h1,h2⟩:=hg.dat g row hr
  simp only[bn,bR,bm]
  exact⟨g,0,rfl,(hg.low g h1).1,(hg.low g h1).2,rep_glob row 0 fun i x hx=>by simp_all⟩
 ·simp[bn,bR,bm]
theorem dd {Z:Env} {a:Act} (hg:GW w F) (h:∀ t,bn φ w F (Z t) (a.tmps.getD t undef)) (x:Operand):bn φ w F (oev Z x) (a.eval x):=by
 cases x with
 | tmp t=>exact h t
 | const v=>exact vsim_const v
 | global g=>exact vsim_gval hg g
 | func f=>simp[oev,Act.eval,bn,bR,bm,bg]
end
def mL (op:BinOp) (k:IntKind) (a b:Int):Option L :=
 match op with
 | .add=>some (.int k (k.wrap (a+b)))
 | .sub=>some (.int k (k.wrap (a - b)))
 | .mul=>some (.int k (k.wrap (a*b)))
 | .quo=>if b=0 then none else some (.int k (k.wrap (a.tdiv b)))
 | .rem=>if b=0 then none else some (.int k (a.tmod b))
 | .and=>some (.int k (k.wrap ((BitVec.ofInt k.bits a &&& BitVec.ofInt k.bits b).toNat)))
 | .or=>some (.int k (k.wrap ((BitVec.ofInt k.bits a ||| BitVec.ofInt k.bits b).toNat)))
 | .xor=>some (.int k (k.wrap ((BitVec.ofInt k.bits a ^^^ BitVec.ofInt k.bits b).toNat)))
 | .andNot=>some (.int k (k.wrap ((BitVec.ofInt k.bits a &&& ~~~BitVec.ofInt k.bits b).toNat)))
 | .eql=>some (.bool (a == b))
 | .neq=>some (.bool (a != b))
 | .lss=>some (.bool (decide (a < b)))
 | .leq=>some (.bool (decide (a<=b)))
 | .gtr=>some (.bool (decide (a > b)))
 | .geq=>some (.bool (decide (a≥b)))
 | .shl | .shr=>none
def shiftOp (op:BinOp) (k:IntKind) (a b:Int):Option L :=
 match op with
 | .shl=>if b < 0 then none else some (.int k (k.wrap (a*2 ^ min b.toNat k.bits)))
 | .shr=>if b < 0 then none else some (.int k (a.fdiv (2 ^ min b.toNat k.bits)))
 | _=>none
def isShift:BinOp->Bool
 | .shl | .shr=>true
 | _=>false
def strOp (op:BinOp) (x y:ByteArray):Option L :=
 match op with
 | .add=>if ((x.size+y.size:Nat):Int) > IntKind.i64.max then none else some (.str (x++y))
 | .eql=>some (.bool (x.toList == y.toList))
 | .neq=>some (.bool !(x.toList == y.toList))
 | .lss=>some (.bool (Op.bytesLess x.toList y.toList))
 | .leq=>some (.bool (Op.bytesLess x.toList y.toList || x.toList == y.toList))
 | .gtr=>some (.bool !(Op.bytesLess x.toList y.toList || x.toList == y.toList))
 | .geq=>some (.bool !(Op.bytesLess x.toList y.toList))
 | _=>none
def qe:List C->List C->Option Bool
 | [],[]=>some true
 | .d (.int k a)::xs,.d (.int k' b)::ys=>if k=k' then (qe xs ys).map fun t=>a == b && t else none
 | _,_=>none
def kY (P:Program) (t:TypeId) (n:Nat):Prop :=
 (∃ fs,P.underlying t=some (.struct fs)/\P.stoodInHeld t=false/\P.eqGuardType P.depth t=false/\fs.size=n /\
  ∀ (i:Nat) (f:Field),fs.toList[i]?=some f->f.name ≠ "_" /\ f.offset=i/\∃ k,P.underlying f.type=some (.int k)) \/
 ∃ e i k,P.underlying t=some (.array n e)/\P.info? e=some i/\P.cellsOf e=1/\P.underlying e=some (.int k)/\P.eqGuardType P.depth t=false
def negB (op:BinOp) (b:Bool):Option L:=match op with
 | .eql=>some (.bool b) | .neq=>some (.bool !b) | _=>none
def mJ (P:Program) (cx:Cx) (f:FuncId) (args:List V) (Z:Env) (O:Sto) (d:Option Nat) (K:Env->Sto->Prop):Prop :=
 (∃ fn,P.funcs[f]?=some fn/\(fn.name == "runtime.NumGoroutine")=false/\fn.body.isNone=false) /\
 ∀ (φ:Nat->Value) (a:Act) (w:World),Sim cx φ Z O a w->∀ vals:List Value,vals.length=args.length->(∀ (i:Nat) (x:V) (u:Value),args[i]?=some x->vals[i]?=some u->bn φ w (cx.fr φ O) x u) ->
  ∀ (next:Act->World->Prop),(∀ φ' Z' O' a' w',Sim cx φ' Z' O' a' w'->K Z' O'->next a' w')->Calls P f vals.toArray w fun e w'=>∃ v,e=.returned v/\next (a.put d v) w'
def bc (P:Program) (f:FuncId) (args:List V) (v:V):Prop :=
 (∃ fn,P.funcs[f]?=some fn/\(fn.name == "runtime.NumGoroutine")=false/\fn.body.isNone=false) /\
 ∀ (φ:Nat->Value) (w:World) (F:Nat->Prop),Fr w F->∀ vals:List Value,vals.length=args.length->(∀ (i:Nat) (x:V) (u:Value),args[i]?=some x->vals[i]?=some u->bn φ w F x u) ->
  Calls P f vals.toArray w fun e w'=>∃ u,e=.returned u/\Blw w.heap.size w w'/\bn φ w' F v u
structure Tb where
 ty:Tab
 eqn:TypeId->Option Nat
 key:TypeId->Option KK
 call:FuncId->List V->Option V:=fun _ _=>none
 eff:FuncId->List V->Option Nat->Env->Sto->Option ((Env->Sto->Prop)->Prop):=fun _ _ _ _ _=>none
 mid:Nat->Option (Nat×List Nat):=fun _=>none
 capd:Bool:=false
structure TbOk (P:Program) (tb:Tb):Prop where
 ty:TabOk P tb.ty
 eqn:∀ t n,tb.eqn t=some n->kY P t n
 key:∀ t kk,tb.key t=some kk->Maps.Keyed P t/\∀ k:Key,k.fits kk=true->∃ l,keyOf P t k.val=some l
 call:∀ f us v,tb.call f us=some v->bc P f us v
 eff:∀ (cx:Cx) (f:FuncId) (us:List V) (d:Option Nat) (Z:Env) (O:Sto) (T:(Env->Sto->Prop)->Prop) (K:Env->Sto->Prop),(∀ x,d=some x->x < cx.n/\x < inBase)->tb.eff f us d Z O=some T->T K->mJ P cx f us Z O d K
def qbin (tb:Tb) (op:BinOp) (t:TypeId):V->V->Option V
 | .u (.one (.d (.int k a))),.u (.one (.d (.int k' b))) =>
  if isShift op then (shiftOp op k a b).map fun x=>.u (.one (.d x)) else if k=k' then (mL op k a b).map fun x=>.u (.one (.d x)) else none
 | .u (.one (.d (.bool a))),.u (.one (.d (.bool b)))=>match tb.ty t with
  | some ti=>match ti.desc with
   | .bool=>(negB op (a == b)).map fun x=>.u (.one (.d x))
   | _=>none
  | none=>none
 | .u (.one (.d (.str a))),.u (.one (.d (.str b)))=>(strOp op a b).map fun x=>.u (.one (.d x))
 | .u (.agg xs),.u (.agg ys)=>match tb.eqn t with
  | some n=>if xs.length=n/\ys.length=n then (qe xs ys).bind fun b=>(negB op b).map fun x=>.u (.one (.d x)) else none
  | none=>none
 | .u (.one (.d x)),.u (.one (.d .nil))=>match tb.ty t with
  | some ti=>match ti.desc,x with
   | .slice _,.nil=>(negB op true).map fun x=>.u (.one (.d x))
   | .slice _,.sl _ (_::_)=>(negB op false).map fun x=>.u (.one (.d x))
   | _,_=>none
  | none=>none
 | _,_=>none
def isNilV:Value->Bool
 | .nilIface=>true
 | _=>false
def isNilC:Operand->Bool
 | .const v=>isNilV v
 | _=>false
def qbinN (tb:Tb) (op:BinOp) (t:TypeId) (x:V):Option V:=match x,tb.ty t with
 | .u (.one (.d (.er b))),some ti=>match ti.desc with
  | .interface _=>(negB op (!b)).map fun x=>.u (.one (.d x))
  | _=>none
 | _,_=>none
def qbinO (tb:Tb) (op:BinOp) (t:TypeId) (c:Bool) (x y:V):Option V:=bif c then qbinN tb op t x else qbin tb op t x y
def pickV (c:Bool) (x y:V):V:=match x,y with
 | .u (.one (.d (.bool a))),.u (.one (.d (.bool b)))=>.u (.one (.d (.bool (bif c then a else b))))
 | x,y=>bif c then x else y
def lz:V->Option (List C)
 | .u (.one .top)=>none
 | .u (.one c)=>some [c]
 | .u (.agg cs)=>some cs
 | .tup _=>none
def fillC (offs:List (Nat×Nat)):List C->List (Nat×V)->Option (List C)
 | cs,[]=>some cs
 | cs,(i,v)::r=>match offs[i]?,lz v with
  | some (off,sz),some xs=>if xs.length=sz/\off+sz<=cs.length then fillC offs (cs.take off++xs++cs.drop (off+sz)) r else none
  | _,_=>none
def cdata:C->Option L
 | .d x=>some x
 | _=>none
def mA:List C->Option (List L)
 | []=>some []
 | c::cs=>match cdata c,mA cs with
  | some x,some xs=>some (x::xs)
  | _,_=>none
def nX (sz:Nat):List (List L)->List (Nat×V)->Option (List (List L))
 | rs,[]=>some rs
 | rs,(i,v)::r=>match lz v with
  | some xs=>match mA xs with
   | some ys=>if ys.length=sz/\i < rs.length then nX sz (rs.set i ys) r else none
   | none=>none
  | none=>none
def pt:List (Key×U)->Key->Option U
 | [],_=>none
 | x::es,k=>if x.1=k then some x.2 else pt es k
def cints:List C->Option (List Int)
 | []=>some []
 | .d (.int .i64 n)::cs=>(cints cs).map (n::·)
 | _=>none
def vkey:V->Option Key
 | .u (.one (.d (.int k n)))=>some (.int k n)
 | .u (.one (.d (.str s)))=>some (.str s.data.toList)
 | .u (.agg cs)=>(cints cs).map .ints
 | _=>none
def qlen (O:Sto):V->Option Int
 | .u (.one (.d .nil))=>some 0
 | .u (.one (.d .emp))=>some 0
 | .u (.one (.d (.sl _ rows)))=>some rows.length
 | .u (.one (.d (.str s)))=>some s.size
 | .u (.one (.own s))=>match O s with
  | some (.row _ _ rows)=>some rows.length
  | some (.nest _ _ _ els)=>some els.length
  | _=>none
 | .u (.one (.map s))=>match O s with
  | some (.map _ es)=>some es.length
  | _=>none
 | _=>none
def qidx:V->Option Int
 | .u (.one (.d (.int _ n)))=>some n
 | _=>none
def qb (d:Nat):Option V->Option Int
 | none=>some d
 | some v=>qidx v
def pO:List V->Option (List C)
 | []=>some []
 | .u (.one c)::r=>(pO r).map (c::·)
 | _=>none
def lenFits:TypeDesc->V->Bool
 | .slice _,.u (.one (.d .nil)) | .slice _,.u (.one (.d .emp)) | .slice _,.u (.one (.d (.sl _ _))) | .slice _,.u (.one (.own _))=>true
 | .string,.u (.one (.d (.str _)))=>true
 | .map _ _,.u (.one (.map _))=>true
 | _,_=>false
def qload (tb:Tb) (O:Sto) (t:TypeId) (x:V):Option V:=match tb.ty t,x with
 | some ti,.u (.one c)=>match memOf O c with
  | some (cs,off) =>
   if ti.agg then (if off+ti.size<=cs.length then some (.u (.agg ((cs.drop off).take ti.size))) else none)
   else match cs[off]? with
    | some c=>some (.u (.one c))
    | none=>none
  | none=>none
 | _,_=>none
def qfield (tb:Tb) (t:TypeId) (x:V) (k:Nat):Option V:=match tb.ty t,x with
 | some ti,.u (.one c)=>match ti.desc,ti.offs[k]? with
  | .struct _,some (off,sz)=>if sz=0 then none else match c with
   | .ref xs o=>some (.u (.one (.ref xs (o+off))))
   | .box s o=>some (.u (.one (.box s (o+off))))
   | .elt s i z o=>some (.u (.one (.elt s i z (o+off))))
   | _=>none
  | _,_=>none
 | _,_=>none
def subR (xs:List L) (k sz:Nat):List L:=(xs.drop k).take sz
theorem repRow_take {w:World} {F:Nat->Prop}:∀ (xs:List L) (n b o:Nat),d6 w F xs b o->d6 w F (xs.take n) b o
 | [],n,_,_,_=>by simp[d6]
 | x::xs,0,_,_,_=>by simp[d6]
 | x::xs,n+1,b,o,h=>by
  simp only[d6,List.take_succ_cons] at h ⊢
  exact⟨h.1,repRow_take xs n b (o+1) h.2⟩
theorem oH {w:World} {F:Nat->Prop}:∀ (xs:List L) (n b o:Nat),d6 w F xs b o->d6 w F (xs.drop n) b (o+n)
 | [],n,_,_,_=>by simp[d6]
 | x::xs,0,_,_,h=>h
 | x::xs,n+1,b,o,h=>by
  simp only[d6,List.drop_succ_cons] at h ⊢
  rw[show o+(n+1)=o+1+n from by omega]
  exact oH xs n b (o+1) h.2
def lJ (tb:Tb) (O:Sto) (t:TypeId) (x i:V):Option V:=match tb.ty t,x,i with
 | some ti,.u (.one c),.u (.one (.d (.int _ n)))=>match ti.desc with
  | .slice e=>match tb.ty e,c with
   | some te,.d (.sl sz rows)=>if 0<=n/\sz=te.size then match rows[n.toNat]? with
     | some r=>some (.u (.one (.ref r 0)))
     | none=>none
    else none
   | some te,.own s=>match O s with
    | some (.row sz _ rows)=>if 0<=n/\n.toNat < rows.length/\sz=te.size then some (.u (.one (.elt s n.toNat sz 0))) else none
    | some (.nest _ _ _ els)=>if 0<=n/\n.toNat < els.length/\1=te.size then some (.u (.one (.elt s n.toNat 1 0))) else none
    | _=>none
   | _,_=>none
  | .array m e=>match tb.ty e,c with
   | some te,.box s o=>if 0<=n/\n < (m:Int) then some (.u (.one (.box s (o+n.toNat*te.size)))) else none
   | some te,.ref xs o=>if 0<=n/\n < (m:Int) then some (.u (.one (.ref (subR xs (o+n.toNat*te.size) te.size) 0))) else none
   | _,_=>none
  | _=>none
 | _,_,_=>none
def slX (b:Bool) (sz:Nat) (rows:List (List L)):L:=bif b then .slx sz rows else .sl sz rows
def qslice3 (tb:Tb) (t:TypeId) (x:V) (lo hi:Option V) (m:V):Option V:=match tb.ty t,x,hi with
 | some ti,.u (.one (.d (.sl sz rows))),some hi=>match ti.desc,qb 0 lo,qidx hi,qidx m with
  | .slice e,some l,some h,some k=>match tb.ty e with
   | some te=>if sz=te.size/\0<=l/\l<=h/\h<=k/\k<=rows.length then some (.u (.one (.d (slX (tb.capd && h == k) sz ((rows.take h.toNat).drop l.toNat))))) else none
   | none=>none
  | _,_,_,_=>none
 | _,_,_=>none
def chunkR (sz:Nat):List L->Nat->List (List L)
 | _,0=>[]
 | xs,m+1=>xs.take sz::chunkR sz (xs.drop sz) m
theorem chunkR_length (sz:Nat):∀ (xs:List L) (m:Nat),(chunkR sz xs m).length=m
 | _,0=>rfl
 | xs,m+1=>by simp[chunkR,chunkR_length sz (xs.drop sz) m]
theorem repRows_chunk {w:World} {F:Nat->Prop} {sz:Nat}:∀ (m:Nat) (xs:List L) (b o:Nat),m*sz<=xs.length->d6 w F xs b o->ca w F sz (chunkR sz xs m) b o
 | 0,_,_,_,_,_=>by simp[chunkR,ca]
 | m+1,xs,b,o,hl,h=>by
  rw[Nat.add_mul] at hl
  simp only[chunkR,ca]
  exact⟨⟨by grind,repRow_take xs sz b o h⟩,repRows_chunk m (xs.drop sz) b (o+sz) (by grind) (oH xs sz b o h)⟩
def sliceR (sz m:Nat) (xs:List L):Option V:=if m*sz<=xs.length/\m<=16777216 then some (.u (.one (.d (.sl sz (chunkR sz xs m))))) else none
def qsliceA (tb:Tb) (d:TypeDesc) (xs:List L) (lo hi:Option V):Option V:=match d,lo,hi with
 | .array m e,none,none=>match tb.ty e with
  | some te=>sliceR te.size m xs
  | none=>none
 | _,_,_=>none
def bs (l:List UInt8):ByteArray:=⟨l.toArray⟩
def bsl (s:ByteArray):List UInt8:=s.data.toList
theorem bsl_bs (l:List UInt8):bsl (bs l)=l:=rfl
def qslice (tb:Tb) (t:TypeId) (x:V) (lo hi mx:Option V):Option V:=match mx with
 | some m=>qslice3 tb t x lo hi m
 | none=>match tb.ty t,x with
 | some ti,.u (.one (.d (.str s)))=>match ti.desc,qb 0 lo,qb (bsl s).length hi with
  | .string,some l,some h=>if 0<=l/\l<=h/\h<=(bsl s).length then some (.u (.one (.d (.str (bs (((bsl s).take h.toNat).drop l.toNat)))))) else none
  | _,_,_=>none
 | some ti,.u (.one (.d (.sl sz rows)))=>match ti.desc,qb 0 lo,qb rows.length hi with
  | .slice e,some l,some h=>match tb.ty e with
   | some te=>if sz=te.size/\0<=l/\l<=h/\h<=rows.length then some (.u (.one (.d (.sl sz ((rows.take h.toNat).drop l.toNat))))) else none
   | none=>none
  | _,_,_=>none
 | some ti,.u (.one (.ref xs o))=>qsliceA tb ti.desc (xs.drop o) lo hi
 | _,_=>none
def qun (op:UnOp) (x:V):Option V:=match op,x with
 | .not,.u (.one (.d (.bool b)))=>some (.u (.one (.d (.bool !b))))
 | .neg,.u (.one (.d (.int k n)))=>some (.u (.one (.d (.int k (k.wrap (0 - n))))))
 | _,_=>none
def qconv (tb:Tb) (src dst:TypeId) (x:V):Option V:=match tb.ty src,tb.ty dst,x with
 | some _,some td,.u (.one (.d (.int _ n)))=>match td.desc with
  | .int k=>some (.u (.one (.d (.int k (k.wrap n)))))
  | _=>none
 | _,_,_=>none
def rowsV (O:Sto):V->Option (List (List L))
 | .u (.one (.d .nil))=>some []
 | .u (.one (.d .emp))=>some []
 | .u (.one (.d (.sl _ rows)))=>some rows
 | .u (.one (.own s))=>match O s with
  | some (.row _ _ rows)=>some rows
  | _=>none
 | _=>none
def fA:List (List L)->Option (List Int)
 | []=>some []
 | [.int .u8 n]::rs=>(fA rs).map (n::·)
 | _=>none
def nI (b:UInt8):List L:=[.int .u8 b.toNat]
def ofBytes (l:List Int):List UInt8:=l.map fun n=>UInt8.ofNat n.toNat
def qstr (tb:Tb) (O:Sto) (src dst:TypeId) (x:V):Option V:=match tb.ty src,tb.ty dst with
 | some ts,some td=>match ts.desc,td.desc with
  | .string,.string=>match x with
   | .u (.one (.d (.str s)))=>some (.u (.one (.d (.str s))))
   | _=>none
  | .slice e,.string=>match tb.ty e with
   | some te=>match te.desc,rowsV O x with
    | .int .u8,some rows=>(fA rows).map fun ns=>.u (.one (.d (.str (bs (ofBytes ns)))))
    | _,_=>none
   | none=>none
  | .string,.slice e=>match tb.ty e,x with
   | some te,.u (.one (.d (.str s)))=>match te.desc with
    | .int .u8=>if (bsl s).length<=2 ^ 40 then some (.u (.one (.d (.sl 1 ((bsl s).map nI))))) else none
    | _=>none
   | _,_=>none
  | _,_=>none
 | _,_=>none
def qcnv (tb:Tb) (O:Sto) (src dst:TypeId) (x:V):Option V:=match qconv tb src dst x with
 | some v=>some v
 | none=>qstr tb O src dst x
def qidxA (te:Option TI) (cs:List C) (m:Nat) (n:Int):Option V:=match te with
 | some te=>if te.size=1/\te.agg=false/\0<=n/\n < (m:Int) then (cs[n.toNat]?).map fun c=>.u (.one c) else none
 | none=>none
def qidxS (tb:Tb) (t:TypeId) (x i:V):Option V:=match tb.ty t,x,i with
 | some ti,.u (.one (.d (.str s))),.u (.one (.d (.int _ n)))=>match ti.desc with
  | .string=>if 0<=n then ((bsl s)[n.toNat]?).map fun b=>.u (.one (.d (.int .u8 b.toNat))) else none
  | _=>none
 | some ti,.u (.agg cs),.u (.one (.d (.int _ n)))=>match ti.desc with
  | .array m e=>qidxA (tb.ty e) cs m n
  | _=>none
 | _,_,_=>none
def qnil:V->Option V
 | .u (.one (.box s o))=>some (.u (.one (.box s o)))
 | .u (.one (.ref xs o))=>some (.u (.one (.ref xs o)))
 | .u (.one (.elt s i z o))=>some (.u (.one (.elt s i z o)))
 | _=>none
def offsA (sz:Nat):Nat->Nat->List (Nat×Nat)
 | 0,_=>[]
 | m+1,o=>(o,sz)::offsA sz m (o+sz)
def qbuildA (te:Option TI) (m:Nat) (cs:List C) (parts:List (Nat×V)):Option V:=match te with
 | some te=>(fillC (offsA te.size m 0) cs parts).map fun cs=>.u (.agg cs)
 | none=>none
def qbuild (tb:Tb) (t:TypeId) (parts:List (Nat×V)):Option V:=match tb.ty t with
 | some ti=>match ti.desc,ti.zu with
  | .struct _,.agg cs=>(fillC ti.offs cs parts).map fun cs=>.u (.agg cs)
  | .array m e,.agg cs=>qbuildA (tb.ty e) m cs parts
  | _,_=>none
 | none=>none
def iD (tb:Tb) (t:TypeId) (n:Nat) (parts:List (Nat×V)):Option V:=match tb.ty t with
 | some ti=>match ti.desc with
  | .slice e=>match tb.ty e with
   | some te=>if n=0/\parts=[] then some (.u (.one (.d .emp))) else if te.size=0 \/ n*te.size > 2 ^ 24 then none else match lz (.u te.zu) with
    | some zs=>match mA zs with
     | some zr=>(nX te.size (List.replicate n zr) parts).map fun rs=>.u (.one (.d (.sl te.size rs)))
     | none=>none
    | none=>none
   | none=>none
  | _=>none
 | none=>none
def qextract (x:V) (i:Nat):Option V:=match x with
 | .tup us=>match us[i]? with
  | some u=>some (.u u)
  | none=>none
 | _=>none
def qlenB (tb:Tb) (O:Sto) (t:TypeId) (x:V):Option V:=match tb.ty t with
 | some ti=>if lenFits ti.desc x then (qlen O x).map fun n=>.u (.one (.d (.int .i64 n))) else none
 | none=>none
def qpart (tf:Option TI) (cs:List C) (off:Nat):Option V:=match tf with
 | some tf=>if tf.agg then (if off+tf.size<=cs.length then some (.u (.agg ((cs.drop off).take tf.size))) else none) else match cs[off]? with
  | some c=>some (.u (.one c))
  | none=>none
 | none=>none
def qfieldV (tb:Tb) (t:TypeId) (x:V) (k:Nat):Option V:=match tb.ty t,x with
 | some ti,.u (.agg cs)=>match ti.desc with
  | .struct fs=>match fs.toList[k]? with
   | some f=>qpart (tb.ty f.type) cs f.offset
   | none=>none
  | _=>none
 | _,_=>none
def qmax (x y:V):Option V:=match x,y with
 | .u (.one (.d (.int k a))),.u (.one (.d (.int _ b)))=>some (.u (.one (.d (.int k (if b > a then b else a)))))
 | _,_=>none
def qmin (x y:V):Option V:=match x,y with
 | .u (.one (.d (.int k a))),.u (.one (.d (.int _ b)))=>some (.u (.one (.d (.int k (if b < a then b else a)))))
 | _,_=>none
def qmaxs:V->List V->Option V
 | .u (.one (.d (.int k a))),[]=>some (.u (.one (.d (.int k a))))
 | .u (.one (.d (.int k a))),y::r=>(qmax (.u (.one (.d (.int k a)))) y).bind fun z=>qmaxs z r
 | _,_=>none
def qmins:V->List V->Option V
 | .u (.one (.d (.int k a))),[]=>some (.u (.one (.d (.int k a))))
 | .u (.one (.d (.int k a))),y::r=>(qmin (.u (.one (.d (.int k a)))) y).bind fun z=>qmins z r
 | _,_=>none
def ey (tb:Tb) (O:Sto) (t:TypeId) (m k:V) (ok:Bool):Option V:=match tb.ty t,m,vkey k with
 | some ti,.u (.one (.map s)),some key=>match ti.desc,O s with
  | .map kt e,some (.map kk es)=>match tb.ty e with
   | some te=>if tb.key kt=some kk/\key.fits kk=true then
     (match pt es key with
     | some u=>if ok then some (.tup [u,.one (.d (.bool true))]) else some (.u u)
     | none=>if ok then some (.tup [te.zu,.one (.d (.bool false))]) else some (.u te.zu))
    else none
   | none=>none
  | _,_=>none
 | _,_,_=>none
def qpick (c a b:V):Option V:=match c with
 | .u (.one (.d (.bool t)))=>some (pickV t a b)
 | _=>none
def qev (tb:Tb) (Z:Env) (O:Sto) (op:Op):Option V :=
 match op with
 | .move x | .assign x=>some (oev Z x)
 | .pick c a b=>qpick (oev Z c) (oev Z a) (oev Z b)
 | .load t x=>qload tb O t (oev Z x)
 | .fieldAddr t x k=>qfield tb t (oev Z x) k
 | .field t x k=>qfieldV tb t (oev Z x) k
 | .indexAddr t x i=>lJ tb O t (oev Z x) (oev Z i)
 | .slice t x lo hi mx=>qslice tb t (oev Z x) (lo.map (oev Z)) (hi.map (oev Z)) (mx.map (oev Z))
 | .binOp op t x y _=>qbinO tb op t (isNilC y) (oev Z x) (oev Z y)
 | .unOp op _ x=>qun op (oev Z x)
 | .convert src dst x=>qcnv tb O src dst (oev Z x)
 | .index t x i=>qidxS tb t (oev Z x) (oev Z i)
 | .nilCheck x=>qnil (oev Z x)
 | .build t parts=>qbuild tb t (parts.toList.map fun p=>(p.1,oev Z p.2))
 | .buildSlice t n parts=>iD tb t n (parts.toList.map fun p=>(p.1,oev Z p.2))
 | .extract x i=>qextract (oev Z x) i
 | .makeFunc (.func f) first caps=>if first.toList=[] then (pO (caps.toList.map (oev Z))).map fun cs=>.u (.one (.fn f cs)) else none
 | .lookup t m k ok=>ey tb O t (oev Z m) (oev Z k) ok
 | .call c=>match c.callee,c.args.toList,c.argTypes.toList with
  | .builtin .len,[x],[t]=>qlenB tb O t (oev Z x)
  | .builtin .max,x::r,_=>qmaxs (oev Z x) (r.map (oev Z))
  | .builtin .min,x::r,_=>qmins (oev Z x) (r.map (oev Z))
  | _,_,_=>none
 | _=>none
end Go.AM
namespace Go.AM
open Go.RowKit
def Yields (P:Program) (φ:Nat->Value) (F:Nat->Prop) (s:Sem Value) (w:World) (v:V):Prop :=
 ∃ u w',s.run P w=.ok u w'/\Blw w.heap.size w w'/\bn φ w' F v u
section
variable {P:Program} {φ:Nat->Value} {F:Nat->Prop} {w:World} {tb:Tb} {O:Sto} {cx:Cx}
theorem Yields.here {s:Sem Value} {v:V} {u:Value} (h:s.run P w=.ok u w) (hv:bn φ w F v u):Yields P φ F s w v:=⟨u,w,h,Blw.refl _ _,hv⟩
theorem addr_add (b o n:Nat):(⟨b,o,none⟩:Addr).add n=⟨b,o+n,none⟩:=by
 unfold Addr.add
 simp
theorem qload_here (ht:TbOk P tb) (hco:Core cx φ O w) {t:TypeId} {x v:V} {u:Value} (h:qload tb O t x=some v) (hx:bn φ w (cx.fr φ O) x u) :
  ∃ y,(Instr.loadAt t u).run P w=.ok y w/\bn φ w (cx.fr φ O) v y:=by
 unfold qload at h
 split at h
 ·rename_i ti c hty
  have T:=ht.ty t ti hty
  split at h
  ·rename_i cs off hm
   obtain⟨b,o,rfl,hmem⟩:=memOf_sound hco hm hx
   split at h
   ·rename_i hagg
    split at h
    ·rename_i hle
     cases h
     obtain⟨us,h1,h2⟩:=hmem.sub off ti.size
     have hl:us.length=ti.size:=by rw[<- bY h1]; simp; omega
     refine⟨.agg us.toArray,?_,us.toArray,rfl,by simpa using h1⟩
     have:=run_loadCells_list (P:=P) w ⟨b,o+off,none⟩ us (fun j u hj=>by simp_all [addr_add])
     rw[hl] at this
     simp[Instr.loadAt,Instr.sureAddr,loadVar,T.run_agg,T.run_size,hagg,this]
    ·cases h
   ·rename_i hagg
    split at h
    ·rename_i c' hc'
     cases h
     obtain⟨us,h1,h2⟩:=hmem
     obtain⟨u,hu,hcu⟩:=pd h1 hc'
     refine⟨u,?_,hcu⟩
     simp[Instr.loadAt,Instr.sureAddr,loadVar,T.run_agg,hagg,load,Sem.run,(h2 off u hu).1]
    ·cases h
  ·cases h
 ·cases h
theorem qload_sound (ht:TbOk P tb) (hco:Core cx φ O w) {t:TypeId} {x v:V} {u:Value} (h:qload tb O t x=some v) (hx:bn φ w (cx.fr φ O) x u) :
  Yields P φ (cx.fr φ O) (Instr.loadAt t u) w v :=
 let ⟨_,h1,h2⟩:=qload_here ht hco h hx
 Yields.here h1 h2
theorem qfieldV_sound (ht:TbOk P tb) {t:TypeId} {x v:V} {k:Nat} {u:Value} (h:qfieldV tb t x k=some v) (hx:bn φ w F x u):Yields P φ F (Instr.field t u k) w v:=by
 unfold qfieldV at h
 split at h
 ·rename_i ti cs hty
  have T:=ht.ty t ti hty
  split at h
  ·rename_i fs hd
   split at h
   ·rename_i f hf
    have hf':fs[k]?=some f:=by simpa using hf
    obtain⟨arr,rfl,hc⟩:=hx
    unfold qpart at h
    split at h
    ·rename_i tf htf
     have TF:=ht.ty _ tf htf
     split at h
     ·rename_i hag
      split at h
      ·cases h
       refine Yields.here (u:=.agg (arr.extract f.offset (f.offset+tf.size))) ?_ ?_
       ·simp[Instr.field,T.run_und,hd,hf',asAgg,part,TF.run_agg,hag,TF.run_size]
       ·refine⟨_,rfl,?_⟩
        simp_all [iJ,jw]
      ·cases h
     ·rename_i hag
      split at h
      ·rename_i c hcs
       cases h
       obtain⟨u,hu,hcu⟩:=pd hc hcs
       have hu':arr[f.offset]?=some u:=by simpa using hu
       exact Yields.here (u:=u) (by simp[Instr.field,T.run_und,hd,hf',asAgg,part,TF.run_agg,hag,hu']) hcu
      ·cases h
    ·cases h
   ·cases h
  ·cases h
 ·cases h
theorem qfield_sound (ht:TbOk P tb) {t:TypeId} {x v:V} {k:Nat} {u:Value} (h:qfield tb t x k=some v) (hx:bn φ w F x u) :
  Yields P φ F (Instr.fieldAt t u k) w v:=by
 unfold qfield at h
 split at h
 ·rename_i ti c hty
  have T:=ht.ty t ti hty
  split at h
  ·rename_i fs off sz hd hk
   have ho:=T.offs fs hd
   rw[ho,List.getElem?_map] at hk
   cases hf:fs.toList[k]? with
   | none=>simp_all
   | some f =>
    rw[hf] at hk
    simp only[Option.map_some,Option.some.injEq,Prod.mk.injEq] at hk
    obtain⟨h1,h2⟩:=hk
    have hf':fs[k]?=some f:=by simpa using hf
    split at h
    ·cases h
    ·rename_i hsz
     have place:∀ b o,(fieldPlace ⟨b,o,none⟩ f).run P w=.ok ⟨b,o+off,none⟩ w:=by
      intro b o
      unfold fieldPlace
      have hi:∃ i,P.info? f.type=some i/\i.size=sz:=by
       unfold Program.cellsOf at h2
       cases hi:P.info? f.type with
       | none=>simp_all
       | some i=>simp_all
      obtain⟨i,hi,hi'⟩:=hi
      have hrun:(sizeOf f.type).run P w=.ok sz w:=by simp[sizeOf,typeInfo,hi,hi']
      simp[hrun,hsz,addr_add,h1]
     have run:∀ b o,(Instr.fieldAt t (.pointer (some ⟨b,o,none⟩)) k).run P w=.ok (.pointer (some ⟨b,o+off,none⟩)) w:=by
      intro b o
      unfold Instr.fieldAt
      simp only[Sem.run_bind,T.run_und,Result.andThen_ok,hd,hf',Instr.sureAddr,Sem.run_pure,place]
     split at h
     ·cases h
      simp only[bn,bR,bm] at hx
      obtain⟨b,o,rfl,hF,hl,hr⟩:=hx
      grind [Yields.here,bn,bR,bm]
     ·cases h
      simp only[bn,bR,bm] at hx
      obtain⟨b,hp,rfl⟩:=hx
      exact Yields.here (run _ _) (by simp only[bn,bR,bm]; simp_all)
     ·cases h
      simp only[bn,bR,bm] at hx
      obtain⟨b,n,c,hp,rfl⟩:=hx
      grind [Yields.here,bn,bR,bm]
     ·cases h
  ·cases h
 ·cases h
theorem qindex_sound (ht:TbOk P tb) (hco:Core cx φ O w) {t:TypeId} {x i v:V} {u q:Value} (h:lJ tb O t x i=some v) (hx:bn φ w (cx.fr φ O) x u) (hi:bn φ w (cx.fr φ O) i q) :
  Yields P φ (cx.fr φ O) (Instr.indexAt t u q) w v:=by
 unfold lJ at h
 split at h
 ·rename_i ti c k n hty
  have T:=ht.ty t ti hty
  simp only[bn,bR,bm,rep] at hi
  subst hi
  split at h
  ·rename_i e hd
   split at h
   ·rename_i te sz rows hte
    have TE:=ht.ty e te hte
    split at h
    ·rename_i hn
     split at h
     ·rename_i r hr
      cases h
      simp only[bn,bR,bm,rep] at hx
      obtain⟨ao,m,cap,rfl,hm,hc,hmx,hrows⟩:=hx
      have hlt:n.toNat < rows.length:=(List.getElem?_eq_some_iff.1 hr).1
      rcases hrows with hrows | ⟨b,o,rfl,hF,hl,hrows⟩
      ·simp_all
      ·have hg:=repRows_get hrows hr
       have hlt':n < (m:Int):=by omega
       refine Yields.here (u:=.pointer (some ⟨b,o+n.toNat*te.size,none⟩)) ?_ ?_
       ·simp[Instr.indexAt,asIntOf,T.run_und,hd,TE.run_size,hn.1,hlt',addr_add]
       ·simp only[bn,bR,bm]
        grind
     ·cases h
    ·cases h
   ·rename_i te s hte
    have TE:=ht.ty e te hte
    split at h
    ·rename_i sz e' rows hs
     split at h
     ·rename_i hn
      cases h
      obtain⟨_,ho⟩:=hco.objs s _ hs
      simp only[bn,bR,bm] at hx
      rcases ho with ⟨h0,_⟩ | ⟨b,cap,cur,h0,hp,hl,hm',hh,hs',hc⟩
      ·grind
      ·rw[hp] at hx
       obtain⟨rfl,_⟩:=hx
       have hlt':n < (rows.length:Int):=by omega
       refine Yields.here (u:=.pointer (some ⟨b,n.toNat*te.size,none⟩)) ?_ ?_
       ·simp[Instr.indexAt,asIntOf,T.run_und,hd,TE.run_size,hn.1,hlt',addr_add]
       simp_all [bn,bR,bm]
     ·cases h
    ·rename_i ne ie isz els hs
     split at h
     ·rename_i hn
      cases h
      obtain⟨out,ivs,cs,hp,hnd,hsp,hns⟩:=hco.objs s _ hs
      simp only[bn,bR,bm] at hx
      rw[hp,il] at hx
      rcases hsp with ⟨h0,_⟩ | ⟨b,cap,cur,h0,ho,hl,hm',hh,hs',hc⟩
      ·omega
      ·subst ho
       obtain⟨rfl,_⟩:=hx
       have hlt':n < (els.length:Int):=by omega
       refine Yields.here (u:=.pointer (some ⟨b,n.toNat*te.size,none⟩)) ?_ ?_
       ·simp[Instr.indexAt,asIntOf,T.run_und,hd,TE.run_size,hn.1,hlt',addr_add]
       ·simp only[bn,bR,bm]
        exact⟨b,_,_,by rw[hp,il],by rw[<- hn.2.2]; simp⟩
     ·cases h
    ·cases h
   ·cases h
  ·rename_i m e hd
   split at h
   ·rename_i te s o hte
    have TE:=ht.ty e te hte
    split at h
    ·rename_i hn
     cases h
     simp only[bn,bR,bm] at hx
     obtain⟨b,hp,rfl⟩:=hx
     refine Yields.here (u:=.pointer (some ⟨b,o+n.toNat*te.size,none⟩)) ?_ ?_
     ·simp[Instr.indexAt,Instr.sureAddr,asIntOf,T.run_und,hd,TE.run_size,hn.1,hn.2,addr_add]
     ·simp only[bn,bR,bm]
      simp_all
    ·cases h
   ·rename_i te xs o hte
    have TE:=ht.ty e te hte
    split at h
    ·rename_i hn
     cases h
     simp only[bn,bR,bm] at hx
     obtain⟨b,o',rfl,hF,hl,hr⟩:=hx
     refine Yields.here (u:=.pointer (some ⟨b,o'+o+n.toNat*te.size,none⟩)) ?_ ?_
     ·simp[Instr.indexAt,Instr.sureAddr,asIntOf,T.run_und,hd,TE.run_size,hn.1,hn.2,addr_add]
     ·simp only[bn,bR,bm]
      exact⟨b,o'+(o+n.toNat*te.size),by simp,hF,hl,repRow_take _ _ _ _ (oH _ _ _ _ hr)⟩
    ·cases h
   ·cases h
  ·cases h
 ·cases h
def osimv (φ:Nat->Value) (w:World) (F:Nat->Prop):Option V->Option Value->Prop
 | none,none=>True
 | some x,some u=>bn φ w F x u
 | _,_=>False
theorem lq {d:Nat} {x:Option V} {u:Option Value} {l:Int} (h:qb d x=some l) (hx:osimv φ w F x u) :
  (x=none/\u=none/\l=d) \/ ∃ k,u=some (.int k l):=by
 cases x with
 | none =>
  cases u with
  | none=>simp only[qb,Option.some.injEq] at h; simp_all
  | some u=>exact hx.elim
 | some x =>
  cases u with
  | none=>exact hx.elim
  | some u =>
   simp only[qb] at h
   unfold qidx at h
   grind [osimv,bn,bR,bm,rep]
theorem qidx_int {x:V} {u:Value} {n:Int} (h:qidx x=some n) (hx:bn φ w F x u):∃ k,u=.int k n:=by
 unfold qidx at h
 grind [bn,bR,bm,rep]
theorem qslice3_sound (ht:TbOk P tb) {t:TypeId} {x v m:V} {lo hi:Option V} {u um:Value} {ulo uhi:Option Value} (h:qslice3 tb t x lo hi m=some v) (hx:bn φ w F x u)
  (hlo:osimv φ w F lo ulo) (hhi:osimv φ w F hi uhi) (hmx:bn φ w F m um):Yields P φ F (Instr.sliceAt t u ulo uhi (some um)) w v:=by
 unfold qslice3 at h
 split at h
 ·rename_i ti sz rows hi' hty
  have T:=ht.ty t ti hty
  cases uhi with
  | none=>exact hhi.elim
  | some uhi =>
  split at h
  ·rename_i e l hh kk hd hl hh' hk'
   obtain⟨kh,rfl⟩:=qidx_int hh' hhi
   obtain⟨km,rfl⟩:=qidx_int hk' hmx
   split at h
   ·rename_i te hte
    have TE:=ht.ty e te hte
    split at h
    ·rename_i hc
     cases h
     obtain⟨hsz,h0,h1,h2,h3⟩:=hc
     simp only[bn,bR,bm,rep] at hx
     obtain⟨ao,m,cap,rfl,hm,hcap,hmx,hrows⟩:=hx
     have run:(Instr.sliceBounds true m cap ulo (some (.int kh hh)) (some (.int km kk))).run P w=.ok (l.toNat,hh.toNat,kk.toNat) w:=by
      unfold Instr.sliceBounds
      rcases lq hl hlo with ⟨_,rfl,rfl⟩ | ⟨k,rfl⟩
      ·simp[run_sliceBound w km kk cap .slice3Acap (by omega) (by omega),run_sliceBound w kh hh kk.toNat .slice3B (by omega) (by omega)]
      ·simp[run_sliceBound w km kk cap .slice3Acap (by omega) (by omega),run_sliceBound w kh hh kk.toNat .slice3B (by omega) (by omega),run_sliceBound w k l hh.toNat .slice3C (by omega) (by omega)]
     refine Yields.here (u:=.slice (if kk.toNat=l.toNat then ao else ao.map (·.add (l.toNat*te.size))) (hh.toNat - l.toNat) (kk.toNat - l.toNat)) ?_ ?_
     ·simp[Instr.sliceAt,Instr.slice,T.run_und,hd,run,TE.run_size]
     ·have hout:List.drop l.toNat (List.take hh.toNat rows)=[] \/ ∃ b o,(if kk.toNat=l.toNat then ao else ao.map (·.add (l.toNat*te.size)))=some ⟨b,o,none⟩/\F b/\b < w.heap.size/\ca w F te.size (List.drop l.toNat (List.take hh.toNat rows)) b o:=by
       rcases hrows with hrows | ⟨b,o,rfl,hF,hbl,hrows⟩
       ·simp_all
       ·by_cases hz:hh.toNat<=l.toNat
        ·grind
        ·right
         rw[if_neg (by omega)]
         refine⟨b,o+l.toNat*te.size,by simp[addr_add],hF,hbl,?_⟩
         simp_all [qq,qd]
      subst hsz
      simp only[bn,bR,bm]
      unfold slX
      cases hcd:(tb.capd && hh == kk) with
      | false =>
       simp only[cond_false,rep]
       exact⟨_,_,_,rfl,by simp; omega,by omega,by omega,hout⟩
      | true =>
       simp only[Bool.and_eq_true,beq_iff_eq] at hcd
       simp only[cond_true,rep]
       exact⟨_,_,by rw[hcd.2],by simp; omega,by omega,hout⟩
    ·cases h
   ·cases h
  ·cases h
 ·cases h
theorem qslice_sound (ht:TbOk P tb) {t:TypeId} {x v:V} {lo hi mx:Option V} {u:Value} {ulo uhi umx:Option Value} (h:qslice tb t x lo hi mx=some v) (hx:bn φ w F x u)
  (hlo:osimv φ w F lo ulo) (hhi:osimv φ w F hi uhi) (hmx:osimv φ w F mx umx):Yields P φ F (Instr.sliceAt t u ulo uhi umx) w v:=by
 unfold qslice at h
 split at h
 ·rename_i m
  cases umx with
  | none=>exact hmx.elim
  | some um=>exact qslice3_sound ht h hx hlo hhi hmx
 have humx:umx=none:=by cases umx with | none=>rfl | some _=>exact hmx.elim
 subst humx
 split at h
 ·rename_i ti s hty
  have T:=ht.ty t ti hty
  split at h
  ·rename_i l hh hd hl hh'
   split at h
   ·rename_i hc
    cases h
    obtain⟨h0,h1,h2⟩:=hc
    simp only[bn,bR,bm,rep] at hx
    subst hx
    have hsz:s.size=(bsl s).length:=rfl
    have run:(Instr.sliceBounds false s.size s.size ulo uhi none).run P w=.ok (l.toNat,hh.toNat,s.size) w:=by
     unfold Instr.sliceBounds
     rcases lq hl hlo with ⟨_,rfl,rfl⟩ | ⟨k,rfl⟩<;>rcases lq hh' hhi with ⟨_,rfl,rfl⟩ | ⟨k',rfl⟩
     ·simp[hsz]
     ·simp[hsz,run_sliceBound w k' hh (bsl s).length .sliceAlen (by omega) (by omega)]
     ·simp[hsz,run_sliceBound w k l (bsl s).length .sliceB (by omega) (by omega)]
     ·simp[hsz,run_sliceBound w k' hh (bsl s).length .sliceAlen (by omega) (by omega),run_sliceBound w k l hh.toNat .sliceB (by omega) (by omega)]
    have hex:s.extract l.toNat hh.toNat=bs (((bsl s).take hh.toNat).drop l.toNat):=by
     ext1
     apply Array.ext'
     simp[bs,bsl,ByteArray.data_extract,List.extract_eq_take_drop,List.drop_take]
    exact Yields.here (u:=.string (bs (((bsl s).take hh.toNat).drop l.toNat))) (by simp[Instr.sliceAt,Instr.slice,T.run_und,hd,run,hex]) (by rfl)
   ·cases h
  ·cases h
 ·rename_i ti sz rows hty
  have T:=ht.ty t ti hty
  split at h
  ·rename_i e l hh hd hl hh'
   split at h
   ·rename_i te hte
    have TE:=ht.ty e te hte
    split at h
    ·rename_i hc
     cases h
     obtain⟨hsz,h0,h1,h2⟩:=hc
     simp only[bn,bR,bm,rep] at hx
     obtain⟨ao,m,cap,rfl,hm,hcap,hmx,hrows⟩:=hx
     have hbl:∀ (q:Option Value) (d:Int),(∃ k,q=some (.int k d))->0<=d->∀ (y:Nat) (code:BoundsCode),d<=y->∀ v,q=some v->(Instr.sliceBound v y code).run P w=.ok d.toNat w:=by
      rintro q d ⟨k,rfl⟩ hd0 y code hdy v hv
      cases hv
      exact run_sliceBound w k d y code hd0 hdy
     have run:(Instr.sliceBounds true m cap ulo uhi none).run P w=.ok (l.toNat,hh.toNat,cap) w:=by
      unfold Instr.sliceBounds
      rcases lq hl hlo with ⟨_,rfl,rfl⟩ | ⟨k,rfl⟩<;>rcases lq hh' hhi with ⟨_,rfl,rfl⟩ | ⟨k',rfl⟩
      ·simp[hm]
      ·simp[run_sliceBound w k' hh cap .sliceAcap (by omega) (by omega)]
      ·simp_all
      ·simp[run_sliceBound w k' hh cap .sliceAcap (by omega) (by omega),run_sliceBound w k l hh.toNat .sliceB (by omega) (by omega)]
     refine Yields.here (u:=.slice (if cap=l.toNat then ao else ao.map (·.add (l.toNat*te.size))) (hh.toNat - l.toNat) (cap - l.toNat)) ?_ ?_
     ·simp[Instr.sliceAt,Instr.slice,T.run_und,hd,run,TE.run_size]
     ·simp only[bn,bR,bm,rep]
      refine⟨_,_,_,rfl,by simp; omega,by omega,by omega,?_⟩
      rcases hrows with hrows | ⟨b,o,rfl,hF,hbl,hrows⟩
      ·simp_all
      ·by_cases hz:hh.toNat<=l.toNat
       ·simp_all
       ·right
        rw[if_neg (by omega)]
        refine⟨b,o+l.toNat*te.size,by simp[addr_add],hF,hbl,?_⟩
        simp_all [qq,qd]
    ·cases h
   ·cases h
  ·cases h
 ·rename_i ti xs off hty
  have T:=ht.ty t ti hty
  unfold qsliceA at h
  split at h
  ·rename_i m e hd
   have hlo':ulo=none:=by cases ulo with | none=>rfl | some _=>exact hlo.elim
   have hhi':uhi=none:=by cases uhi with | none=>rfl | some _=>exact hhi.elim
   subst hlo' hhi'
   split at h
   ·rename_i te hte
    have TE:=ht.ty e te hte
    unfold sliceR at h
    split at h
    ·rename_i hc
     cases h
     simp only[bn,bR,bm] at hx
     obtain⟨b,o,rfl,hF,hbl,hr⟩:=hx
     have hal:P.arrayLen t=m:=by simp[Program.arrayLen,T.und,hd]
     have hel:P.elem t=e:=by simp[Program.elem,T.und,hd]
     have hT:P.underlying t=some (.array (P.arrayLen t) (P.elem t)):=by rw[hal,hel,T.und,hd]
     refine Yields.here (u:=.slice (some ⟨b,o+off,none⟩) m m) ?_ ?_
     ·rw[run_sliceAt_array_all w t ⟨b,o+off,none⟩ hT,hel,TE.run_size,hal]
      simp[slicedAt,addr_add]
     ·simp only[bn,bR,bm,rep]
      refine⟨_,_,_,rfl,(chunkR_length _ _ _).symm,Nat.le_refl _,by have:=hc.2; unfold maxLen; omega,.inr ⟨b,o+off,rfl,hF,hbl,repRows_chunk m _ b (o+off) hc.1 (oH xs off b o hr)⟩⟩
    ·cases h
   ·cases h
  ·cases h
 ·cases h
theorem qun_sound {op:UnOp} {x v:V} {u:Value} (h:qun op x=some v) (hx:bn φ w F x u):Yields P φ F (Op.unary op u) w v:=by
 unfold qun at h
 split at h
 ·cases h
  simp only[bn,bR,bm,rep] at hx
  subst hx
  exact Yields.here (by rfl) (by rfl)
 ·cases h
  simp only[bn,bR,bm,rep] at hx
  subst hx
  exact Yields.here (by rfl) (by simp[bn,bR,bm,rep])
 ·cases h
theorem qconv_sound (ht:TbOk P tb) {src dst:TypeId} {x v:V} {u:Value} (h:qconv tb src dst x=some v) (hx:bn φ w F x u):Yields P φ F (convert src dst u) w v:=by
 unfold qconv at h
 split at h
 ·rename_i ts td k n hs hd
  have S:=ht.ty src ts hs
  have D:=ht.ty dst td hd
  split at h
  ·rename_i k' hk'
   cases h
   simp only[bn,bR,bm,rep] at hx
   subst hx
   refine Yields.here (u:=.int k' (k'.wrap n)) ?_ (by rfl)
   unfold convert
   simp only[Sem.run_bind,S.run_und,D.run_und,Result.andThen_ok,hk']
   rfl
  ·cases h
 ·cases h
theorem bsl_get (s:ByteArray) (n:Nat):s[n]?=(bsl s)[n]?:=by
 by_cases hn:n < (bsl s).length
 ·simp_all [bsl,ByteArray.getElem_eq_getElem_data]
 ·rw[List.getElem?_eq_none (by omega)]
  have:¬ n < s.size:=hn
  simp_all
theorem qidxS_sound (ht:TbOk P tb) {t:TypeId} {x i v:V} {u q:Value} (h:qidxS tb t x i=some v) (hx:bn φ w F x u) (hi:bn φ w F i q):Yields P φ F (Instr.index t u q) w v:=by
 unfold qidxS at h
 split at h
 ·rename_i ti s k n hty
  have T:=ht.ty t ti hty
  split at h
  ·rename_i hd
   split at h
   ·rename_i h0
    obtain⟨m,rfl⟩:=Int.eq_ofNat_of_zero_le h0
    simp only[Int.toNat_natCast] at h
    cases hb:(bsl s)[m]? with
    | none=>grind
    | some b =>
     rw[hb] at h
     cases h
     simp only[bn,bR,bm,rep] at hx hi
     subst hx hi
     have:=bsl_get s m
     rw[hb] at this
     exact Yields.here (u:=.int .u8 b.toNat) (by simp[Instr.index,asIntOf,T.run_und,hd,this]) (by rfl)
   ·cases h
  ·cases h
 ·rename_i ti cs k n hty
  have T:=ht.ty t ti hty
  split at h
  ·rename_i m e hd
   unfold qidxA at h
   split at h
   ·rename_i te hte
    have TE:=ht.ty e te hte
    split at h
    ·rename_i hc
     obtain⟨h1,h2,h3,h4⟩:=hc
     cases hb:cs[n.toNat]? with
     | none=>grind
     | some c =>
      rw[hb] at h
      cases h
      obtain⟨xs,rfl,hxs⟩:=hx
      simp only[bn,bR,bm,rep] at hi
      subst hi
      obtain⟨u,hu,hcu⟩:=pd hxs hb
      have hp:(part e xs (n.toNat*1)).run P w=.ok u w:=by
       have e1:xs[n.toNat]?=some u:=by simpa using hu
       unfold part
       simp only[Sem.run_bind,TE.run_agg,h2,Result.andThen_ok,Nat.mul_one,e1]
       simp
      refine Yields.here (u:=u) ?_ hcu
      simp only[Instr.index,asIntOf,Sem.run_bind,Sem.run_pure,Result.andThen_ok,T.run_und,hd,h3,h4,and_self,if_true,TE.run_size,h1,hp]
    ·cases h
   ·cases h
  ·cases h
 ·cases h
theorem qnil_sound {x v:V} {u:Value} (h:qnil x=some v) (hx:bn φ w F x u):bn φ w F v u/\∃ a,u=.pointer (some a):=by
 unfold qnil at h
 grind [bn,bR,bm]
theorem byteRows_cons {r:List L} {rs:List (List L)} {ns:List Int} (h:fA (r::rs)=some ns):∃ n ms,r=[.int .u8 n]/\fA rs=some ms/\ns=n::ms:=by
 unfold fA at h
 split at h
 ·grind
 ·rename_i n rs' he
  cases he
  cases hb:fA rs with
  | none=>grind
  | some ms=>simp_all
 ·cases h
theorem byteRows_len:∀ {rows:List (List L)} {ns:List Int},fA rows=some ns->rows.length=ns.length/\∀ r∈rows,r.length=1
 | [],ns,h=>by cases h; simp
 | r::rs,ns,h=>by
  obtain⟨n,ms,rfl,hb,rfl⟩:=byteRows_cons h
  obtain⟨h1,h2⟩:=byteRows_len hb
  simp_all
theorem byteRows_sims {φ:Nat->Value} {w:World} {F:Nat->Prop}:∀ {rows:List (List L)} {ns:List Int} {vs:List Value},fA rows=some ns->bg φ w F (rows.flatten.map C.d) vs->vs=ns.map (Value.int .u8)
 | [],ns,vs,h,hc=>by cases h; simpa [bg] using hc
 | r::rs,ns,vs,h,hc=>by
  obtain⟨n,ms,rfl,hb,rfl⟩:=byteRows_cons h
  simp only[List.flatten_cons,List.cons_append,List.nil_append,List.map_cons,bg,bm,rep] at hc
  obtain⟨v,r',rfl,rfl,hc⟩:=hc
  rw[byteRows_sims hb hc]
  rfl
theorem byteRows_sound:∀ {rows:List (List L)} {ns:List Int} {b o:Nat},fA rows=some ns->ca w F 1 rows b o->rows.length=ns.length/\∀ (j:Nat) (u:Value),(ns.map (Value.int .u8))[j]?=some u->w.cell? ⟨b,o+j,none⟩=some u
 | [],ns,b,o,h,_=>by cases h; simp
 | r::rs,ns,b,o,h,hr=>by
  unfold fA at h
  split at h
  ·grind
  ·rename_i n rs' he
   cases he
   cases hb:fA rs with
   | none=>grind
   | some ms =>
    rw[hb] at h
    cases h
    simp only[ca,d6] at hr
    obtain⟨⟨_,⟨u,hu,hru⟩,_⟩,hrs⟩:=hr
    obtain⟨h1,h2⟩:=byteRows_sound hb hrs
    grind [rep]
  ·cases h
theorem run_pushB (w:World):∀ (ns:List Int) (s:ByteArray),(forIn (ns.map (Value.int .u8)) s (fun c r=>match c with
   | .int .u8 n=>pure (ForInStep.yield (r.push (UInt8.ofNat n.toNat)))
   | _=>do
    stuck "bytesToString: byte expected"
    pure (ForInStep.yield r)):Sem ByteArray).run P w=.ok (⟨s.data++(ns.map fun n=>UInt8.ofNat n.toNat).toArray⟩) w
 | [],s=>by simp
 | n::ns,s=>by
  have ih:=run_pushB w ns (s.push (UInt8.ofNat n.toNat))
  simp_all
theorem run_toString {src dst e:TypeId} {ts td te:TI} (S:TabFact P src ts) (D:TabFact P dst td) (E:TabFact P e te) (hds:ts.desc=.slice e) (hdd:td.desc=.string) (hde:te.desc=.int .u8) {ao:Option Addr} {n c:Nat} {ns:List Int} (hn:n=ns.length)
  (hc:n=0 \/ ∃ b o,ao=some ⟨b,o,none⟩/\∀ (j:Nat) (u:Value),(ns.map (Value.int .u8))[j]?=some u->w.cell? ⟨b,o+j,none⟩=some u) :
  (convert src dst (.slice ao n c)).run P w=.ok (.string (bs (ofBytes ns))) w:=by
 have hld:∀ a,ao=some a->(loadCells a n).run P w=.ok (ns.map (Value.int .u8)).toArray w:=by
  intro a ha
  rcases hc with h0 | ⟨b,o,rfl,hc⟩
  ·subst h0
   have:ns=[]:=List.eq_nil_of_length_eq_zero hn.symm
   subst this
   rfl
  ·cases ha
   have:=run_loadCells_list (P:=P) w ⟨b,o,none⟩ (ns.map (Value.int .u8)) (fun j u hj=>by grind [addr_add])
   simp_all
 unfold convert
 simp only[Sem.run_bind,S.run_und,D.run_und,E.run_und,Result.andThen_ok,hds,hdd,hde]
 unfold Conv.bytesToString
 cases ao with
 | none =>
  have h0:n=0:=by
   simp_all
  subst h0
  have:ns=[]:=List.eq_nil_of_length_eq_zero hn.symm
  subst this
  simp
  rfl
 | some a =>
  simp only[Sem.run_bind,hld a rfl,Result.andThen_ok]
  rw[<- Array.forIn_toList]
  have:=run_pushB (P:=P) w ns ByteArray.empty
  simp only[Sem.run_pure]
  refine Eq.trans (congrArg (fun r=>Result.andThen r _) this) ?_
  simp[bs,ofBytes]
theorem qextract_sound {x v:V} {i:Nat} {u:Value} (h:qextract x i=some v) (hx:bn φ w F x u):Yields P φ F (Instr.extract u i) w v:=by
 unfold qextract at h
 split at h
 ·rename_i us
  split at h
  ·rename_i y hy
   cases h
   simp only[bn] at hx
   obtain⟨arr,rfl,hus⟩:=hx
   have key:∀ (us:List U) (vs:List Value) (i:Nat) (y:U),gh φ w F us vs->us[i]?=some y->∃ z,vs[i]?=some z/\bR φ w F y z:=by
    intro us
    induction us with
    | nil=>simp
    | cons a us ih =>
     intro vs i y hs hi
     obtain⟨z,r,rfl,h1,h2⟩:=hs
     grind
   obtain⟨z,hz,hyz⟩:=key us _ i y hus hy
   exact Yields.here (u:=z) (by simp[Instr.extract,show arr[i]?=some z from by simpa using hz]) hyz
  ·cases h
 ·cases h
theorem qmax_sound {x y v:V} {u q:Value} (h:qmax x y=some v) (hx:bn φ w F x u) (hy:bn φ w F y q):∃ z,Builtin.max2 u q=pure z/\bn φ w F v z:=by
 unfold qmax at h
 split at h
 ·cases h
  simp only[bn,bR,bm,rep] at hx hy
  subst hx hy
  exact⟨_,rfl,by rfl⟩
 ·cases h
theorem qmaxs_sound:∀ {r:List V} {x v:V} {u:Value} {us:List Value},qmaxs x r=some v->bn φ w F x u->us.length=r.length->(∀ (i:Nat) (y:V) (q:Value),r[i]?=some y->us[i]?=some q->bn φ w F y q) ->
  Yields P φ F (us.foldlM Builtin.max2 u) w v
 | [],x,v,u,us,h,hx,hl,_=>by
  have:us=[]:=List.eq_nil_of_length_eq_zero hl
  subst this
  unfold qmaxs at h
  split at h
  ·simp_all [Yields.here]
  ·grind
  ·cases h
 | y::r,x,v,u,us,h,hx,hl,hs=>by
  match us,hl with
  | q::us,hl =>
   unfold qmaxs at h
   split at h
   ·grind
   ·rename_i k a y' r' he
    cases he
    rw[Option.bind_eq_some_iff] at h
    obtain⟨z,hz,h⟩:=h
    obtain⟨z',hz',hsz⟩:=qmax_sound hz hx (hs 0 y q rfl rfl)
    have:=qmaxs_sound h hsz (us:=us) (by simpa using hl) (fun i y q hy hq=>hs (i+1) y q (by simpa using hy) (by simpa using hq))
    simp_all
   ·cases h
theorem qmin_sound {x y v:V} {u q:Value} (h:qmin x y=some v) (hx:bn φ w F x u) (hy:bn φ w F y q):∃ z,Builtin.min2 u q=pure z/\bn φ w F v z:=by
 unfold qmin at h
 split at h
 ·cases h
  simp only[bn,bR,bm,rep] at hx hy
  subst hx hy
  exact⟨_,rfl,by rfl⟩
 ·cases h
theorem qmins_sound:∀ {r:List V} {x v:V} {u:Value} {us:List Value},qmins x r=some v->bn φ w F x u->us.length=r.length->(∀ (i:Nat) (y:V) (q:Value),r[i]?=some y->us[i]?=some q->bn φ w F y q) ->
  Yields P φ F (us.foldlM Builtin.min2 u) w v
 | [],x,v,u,us,h,hx,hl,_=>by
  have:us=[]:=List.eq_nil_of_length_eq_zero hl
  subst this
  unfold qmins at h
  split at h
  ·simp_all [Yields.here]
  ·grind
  ·cases h
 | y::r,x,v,u,us,h,hx,hl,hs=>by
  match us,hl with
  | q::us,hl =>
   unfold qmins at h
   split at h
   ·grind
   ·rename_i k a y' r' he
    cases he
    rw[Option.bind_eq_some_iff] at h
    obtain⟨z,hz,h⟩:=h
    obtain⟨z',hz',hsz⟩:=qmin_sound hz hx (hs 0 y q rfl rfl)
    have:=qmins_sound h hsz (us:=us) (by simpa using hl) (fun i y q hy hq=>hs (i+1) y q (by simpa using hy) (by simpa using hq))
    simp_all
   ·cases h
theorem qa {φ:Nat->Value} {w:World} {F:Nat->Prop}:∀ {es:List (Key×U)} {l:List MapEntry},eH φ w F es l->es.length=l.length
 | [],l,h=>by simp_all [eH]
 | x::es,l,h=>by
  obtain⟨e,r,rfl,_,_,h⟩:=h
  simp[qa h]
theorem qlenB_sound (ht:TbOk P tb) (hco:Core cx φ O w) {t ty:TypeId} {x v:V} {u:Value} (h:qlenB tb O t x=some v) (hx:bn φ w (cx.fr φ O) x u) :
  Yields P φ (cx.fr φ O) (Builtin.len_ #[t] ty #[u]) w v:=by
 unfold qlenB at h
 split at h
 ·rename_i ti hty
  have T:=ht.ty t ti hty
  split at h
  ·rename_i hf
   cases hq:qlen O x with
   | none=>grind
   | some n =>
    rw[hq] at h
    cases h
    suffices hs:(Builtin.len_ #[t] ty #[u]).run P w=.ok (goInt n) w by
     exact Yields.here hs (by rfl)
    unfold lenFits at hf
    unfold qlen at hq
    split at hf<;>first | cases hf | skip
    all_goals (rename_i hd; simp only[bn,bR,bm,rep] at hx hq)
    ·subst hx; cases hq; simp[Builtin.len_,T.run_und,hd]
    ·obtain⟨a,rfl⟩:=hx; cases hq; simp[Builtin.len_,T.run_und,hd]
    ·obtain⟨ao,m,c,rfl,rfl,_⟩:=hx; cases hq; simp[Builtin.len_,T.run_und,hd]
    ·rename_i s
     split at hq
     ·rename_i sz e rows hs
      cases hq
      obtain⟨_,ho⟩:=hco.objs s _ hs
      obtain⟨rfl,_⟩:=hx
      rcases ho with ⟨rfl,a,ha⟩ | ⟨b,cap,cur,h0,hp,hl,hm',hh,hs',hc⟩
      ·simp[Builtin.len_,T.run_und,hd,ha]
      ·simp[Builtin.len_,T.run_und,hd,hp]
     ·rename_i ne ie isz els hs
      cases hq
      obtain⟨out,ivs,cs,hp,hnd,hsp,hns⟩:=hco.objs s _ hs
      obtain⟨rfl,_⟩:=hx
      rw[hp,il]
      rcases hsp with ⟨h0,_,a,ha⟩ | ⟨b,cap,cur,h0,ho,_⟩
      ·simp[Builtin.len_,T.run_und,hd,ha,h0]
      ·simp[Builtin.len_,T.run_und,hd,ho]
     ·cases hq
    ·subst hx; cases hq; simp[Builtin.len_,T.run_und,hd]
    ·rename_i s
     split at hq
     ·rename_i kk es hs
      cases hq
      obtain⟨b,ents,clk,hp,hh,hc,_⟩:=hco.objs s _ hs
      obtain⟨rfl,_⟩:=hx
      have hl:=qa hc
      simp[Builtin.len_,T.run_und,hd,hp,getObj,Sem.run,hh,hl]
     ·cases hq
  ·cases h
 ·cases h
theorem pickV_sound {t:Bool} {a b:V} {u q:Value} (ha:bn φ w F a u) (hb:bn φ w F b q):bn φ w F (pickV t a b) (if t then u else q):=by
 unfold pickV
 grind
end
end Go.AM
namespace Go.AM
open Go.RowKit
section
variable {P:Program} {φ:Nat->Value} {F:Nat->Prop} {w:World} {tb:Tb} {O:Sto} {cx:Cx}
theorem strOp_sound {op:BinOp} {a b:ByteArray} {x:L} (h:strOp op a b=some x):∃ u,(Op.stringOp op a b).run P w=.ok u w/\rep w F x u:=by
 unfold strOp at h
 split at h
 ·split at h
  ·cases h
  ·rename_i hle
   cases h
   exact⟨_,by simp only[Op.stringOp,if_neg hle]; rfl,by simp[rep]⟩
 all_goals first | (cases h; exact⟨_,by simp only[Op.stringOp]; rfl,by simp[rep]⟩) | cases h
theorem eqItems_sound {xs ys:Array Value} (d:Nat) {e:TypeId} {ke:IntKind} (he:P.underlying e=some (.int ke)):∀ (m i:Nat) (cs ds:List C) (b:Bool),cs.length=m->ds.length=m ->
  bg φ w F cs (xs.toList.drop i)->bg φ w F ds (ys.toList.drop i)->qe cs ds=some b->(Op.eqItems (d+1) e 1 xs ys (List.range' i m)).run P w=.ok b w
 | 0,i,cs,ds,b,hc,hd,_,_,h=>by
  have h1:cs=[]:=List.eq_nil_of_length_eq_zero hc
  have h2:ds=[]:=List.eq_nil_of_length_eq_zero hd
  subst h1 h2
  cases h
  rfl
 | m+1,i,cs,ds,b,hc,hd,hx,hy,h=>by
  match cs,ds,hc,hd with
  | c::cs,g::ds,hc,hd =>
   unfold qe at h
   split at h
   ·simp_all
   ·rename_i k a cs' k' a' ds' h1 h2
    cases h1; cases h2
    split at h
    ·rename_i hk
     subst hk
     cases hr:qe cs ds with
     | none=>grind
     | some t =>
      rw[hr] at h
      simp only[Option.map_some,Option.some.injEq] at h
      simp only[bg] at hx hy
      obtain⟨u,ru,hu,hcu,hru⟩:=hx
      obtain⟨v,rv,hv,hcv,hrv⟩:=hy
      simp only[bm,rep] at hcu hcv
      subst hcu hcv
      have e1:xs[i]?=some (.int k a):=by
       have:xs.toList[i]?=some (.int k a):=by rw[<- Nat.add_zero i,<- List.getElem?_drop,hu]; rfl
       simpa using this
      have e2:ys[i]?=some (.int k a'):=by
       have:ys.toList[i]?=some (.int k a'):=by rw[<- Nat.add_zero i,<- List.getElem?_drop,hv]; rfl
       simpa using this
      have p1:(part e xs (i*1)).run P w=.ok (.int k a) w:=by simp[part,isAgg,run_underlying he,e1]
      have p2:(part e ys (i*1)).run P w=.ok (.int k a') w:=by simp[part,isAgg,run_underlying he,e2]
      have ih:=eqItems_sound d he m (i+1) cs ds t (by simpa using hc) (by simpa using hd) (by rw[<- List.tail_drop,hu]; exact hru) (by rw[<- List.tail_drop,hv]; exact hrv) hr
      rw[List.range'_succ]
      simp only[Op.eqItems,Sem.run_bind,p1,p2,Result.andThen_ok,run_equalIn_int w d e k ke a a' he,Sem.run_ite]
      cases hab:(a == a') with
      | false=>simp_all
      | true=>simp_all
    ·cases h
   ·cases h
theorem eqFields_sound {xs ys:Array Value} (d:Nat):∀ (fs:List Field) (i:Nat) (cs ds:List C) (b:Bool),cs.length=fs.length->ds.length=fs.length ->
  (∀ (j:Nat) (f:Field),fs[j]?=some f->f.name ≠ "_" /\ f.offset=i+j/\∃ k,P.underlying f.type=some (.int k)) ->
  bg φ w F cs (xs.toList.drop i)->bg φ w F ds (ys.toList.drop i)->qe cs ds=some b->(Op.eqFields (d+1) xs ys fs).run P w=.ok b w
 | [],i,cs,ds,b,hc,hd,_,_,_,h=>by
  have h1:cs=[]:=List.eq_nil_of_length_eq_zero hc
  have h2:ds=[]:=List.eq_nil_of_length_eq_zero hd
  subst h1 h2
  cases h
  rfl
 | f::fs,i,cs,ds,b,hc,hd,hf,hx,hy,h=>by
  match cs,ds,hc,hd with
  | c::cs,e::ds,hc,hd =>
   unfold qe at h
   split at h
   ·simp_all
   ·rename_i k a cs' k' a' ds' h1 h2
    cases h1; cases h2
    split at h
    ·rename_i hk
     subst hk
     cases hr:qe cs ds with
     | none=>grind
     | some t =>
      rw[hr] at h
      simp only[Option.map_some,Option.some.injEq] at h
      simp only[bg] at hx hy
      obtain⟨u,ru,hu,hcu,hru⟩:=hx
      obtain⟨v,rv,hv,hcv,hrv⟩:=hy
      simp only[bm,rep] at hcu hcv
      subst hcu hcv
      obtain⟨hn,ho,k',hk'⟩:=hf 0 f rfl
      have e1:xs[i]?=some (.int k a):=by
       have:xs.toList[i]?=some (.int k a):=by rw[<- Nat.add_zero i,<- List.getElem?_drop,hu]; rfl
       simpa using this
      have e2:ys[i]?=some (.int k a'):=by
       have:ys.toList[i]?=some (.int k a'):=by rw[<- Nat.add_zero i,<- List.getElem?_drop,hv]; rfl
       simpa using this
      have p1:(part f.type xs f.offset).run P w=.ok (.int k a) w:=by simp[part,isAgg,run_underlying hk',ho,e1]
      have p2:(part f.type ys f.offset).run P w=.ok (.int k a') w:=by simp[part,isAgg,run_underlying hk',ho,e2]
      have ih:=eqFields_sound d fs (i+1) cs ds t (by simpa using hc) (by simpa using hd) (fun j f' hj=>by
       have:=hf (j+1) f' (by simpa using hj)
       grind) (by rw[show i+1=i+1 from rfl,<- List.tail_drop,hu]; exact hru) (by rw[<- List.tail_drop,hv]; exact hrv) hr
      simp only[Op.eqFields,Sem.run_bind,hn,ne_eq,not_false_eq_true,if_true,p1,p2,Result.andThen_ok,run_equalIn_int w d f.type k k' a a' hk',Sem.run_ite]
      cases hab:(a == a') with
      | false=>simp_all
      | true=>simp_all
    ·cases h
   ·cases h
theorem nQ {op:BinOp} {b:Bool} {x:L} (h:negB op b=some x):(op=.eql/\x=.bool b) \/ (op=.neq/\x=.bool !b):=by
 unfold negB at h
 grind
theorem equalIn_nil (d:Nat) {t e:TypeId} (h:P.underlying t=some (.slice e)):(Op.equalIn (d+1) t (.slice none 0 0) (.slice none 0 0)).run P w=.ok true w:=by
 simp[Op.equalIn,run_underlying h]
theorem equalIn_some (d:Nat) {t e:TypeId} (h:P.underlying t=some (.slice e)) (a:Addr) (n c:Nat):(Op.equalIn (d+1) t (.slice (some a) n c) (.slice none 0 0)).run P w=.ok false w:=by
 simp[Op.equalIn,run_underlying h]
theorem qbin_sound (ht:TbOk P tb) {op:BinOp} {t:TypeId} {x y v:V} {u q:Value} {xo yo:Operand} (h:qbin tb op t x y=some v) (hx:bn φ w F x u) (hy:bn φ w F y q) :
  Yields P φ F (do eqGuard op t xo yo u q; binOp op t u q) w v:=by
 unfold qbin at h
 split at h
 ·rename_i k a k' b
  simp only[bn,bR,bm,rep] at hx hy
  subst hx hy
  have hg:(eqGuard op t xo yo (.int k a) (.int k' b)).run P w=.ok () w:=by cases op<;>simp[eqGuard]
  split at h
  ·rename_i hs
   cases hq:shiftOp op k a b with
   | none=>grind
   | some z =>
    rw[hq] at h
    cases h
    unfold shiftOp at hq
    split at hq
    ·split at hq
     ·cases hq
     ·rename_i hb
      cases hq
      exact Yields.here (by simp only[Sem.run_bind,hg,Result.andThen_ok,binOp,Op.shift,if_neg hb]; rfl) (by rfl)
    ·split at hq
     ·cases hq
     ·rename_i hb
      cases hq
      exact Yields.here (by simp only[Sem.run_bind,hg,Result.andThen_ok,binOp,Op.shift,if_neg hb]; rfl) (by rfl)
    ·cases hq
  ·rename_i hs
   split at h
   ·rename_i hk
    subst hk
    cases hq:mL op k a b with
    | none=>grind
    | some z =>
     rw[hq] at h
     cases h
     unfold mL at hq
     split at hq
     case h_4 =>
      split at hq
      ·cases hq
      ·rename_i hb
       cases hq
       exact Yields.here (by simp only[Sem.run_bind,hg,Result.andThen_ok,binOp,ne_eq,not_true_eq_false,if_false,Op.intDiv,if_neg hb]; rfl) (by rfl)
     case h_5 =>
      split at hq
      ·cases hq
      ·rename_i hb
       cases hq
       exact Yields.here (by simp only[Sem.run_bind,hg,Result.andThen_ok,binOp,ne_eq,not_true_eq_false,if_false,Op.intDiv,if_neg hb]; rfl) (by rfl)
     all_goals first
      | (cases hq; exact Yields.here (by simp only[Sem.run_bind,hg,Result.andThen_ok,binOp,ne_eq,not_true_eq_false,if_false,Op.intArith,Op.intBits,Op.intCmp]; rfl) (by simp[bn,bR,bm,rep]))
      | cases hq
   ·cases h
 ·rename_i a b
  simp only[bn,bR,bm,rep] at hx hy
  subst hx hy
  have hg:(eqGuard op t xo yo (.bool a) (.bool b)).run P w=.ok () w:=by cases op<;>simp[eqGuard]
  split at h
  ·rename_i ti hty
   have T:=ht.ty t ti hty
   split at h
   ·rename_i hd
    cases hq:negB op (a == b) with
    | none=>grind
    | some z =>
     rw[hq] at h
     cases h
     have he:(Op.equal t (.bool a) (.bool b)).run P w=.ok (a == b) w:=by
      unfold Op.equal Op.maxDepth
      exact run_equalIn_bool' w 9999 t a b (T.und.trans (by rw[hd]))
     rcases nQ hq with ⟨rfl,rfl⟩ | ⟨rfl,rfl⟩
     ·exact Yields.here (by simp only[Sem.run_bind,hg,Result.andThen_ok,binOp,he]; rfl) (by rfl)
     ·exact Yields.here (by simp only[Sem.run_bind,hg,Result.andThen_ok,binOp,he]; rfl) (by rfl)
   ·cases h
  ·cases h
 ·rename_i a b
  simp only[bn,bR,bm,rep] at hx hy
  subst hx hy
  have hg:(eqGuard op t xo yo (.string a) (.string b)).run P w=.ok () w:=by cases op<;>simp[eqGuard]
  cases hq:strOp op a b with
  | none=>grind
  | some z =>
   rw[hq] at h
   cases h
   obtain⟨u,hu,hr⟩:=strOp_sound (P:=P) (w:=w) (F:=F) hq
   refine Yields.here (u:=u) ?_ hr
   have hb:binOp op t (.string a) (.string b)=Op.stringOp op a b:=by cases op<;>simp[binOp,strOp] at hq ⊢
   simp_all
 ·rename_i cs ds
  split at h
  ·rename_i n hn
   split at h
   ·rename_i hl
    obtain⟨xs,rfl,hxs⟩:=hx
    obtain⟨ys,rfl,hys⟩:=hy
    cases hq:qe cs ds with
    | none=>grind
    | some b =>
     rw[hq] at h
     simp only[Option.bind_some] at h
     cases hz:negB op b with
     | none=>grind
     | some z =>
      rw[hz] at h
      cases h
      have hboth:P.eqGuardType P.depth t=false/\(Op.equalIn 10000 t (.agg xs) (.agg ys)).run P w=.ok b w:=by
       rcases ht.eqn t n hn with ⟨fs,hu,hp,heq,hsz,hfs⟩ | ⟨e,i,k,hu,hi,hce,hk,heq⟩
       ·have hfo:P.fieldsOf t=fs:=by simp[Program.fieldsOf,hu]
        refine⟨heq,?_⟩
        rw[run_equalIn_struct w 9999 t xs ys (by rw[hfo]; exact hu) hp,hfo]
        exact eqFields_sound (φ:=φ) (F:=F) 9998 fs.toList 0 cs ds b (by simp; omega) (by simp; omega) (fun j f hj=>by grind) (by simpa using hxs) (by simpa using hys) hq
       ·refine⟨heq,?_⟩
        rw[run_equalIn_array w 9999 xs ys hu hi,hce,List.range_eq_range']
        exact eqItems_sound (φ:=φ) (F:=F) 9998 hk n 0 cs ds b hl.1 hl.2 (by simpa using hxs) (by simpa using hys) hq
      obtain⟨heq,he⟩:=hboth
      have hg:=run_eqGuard_agg (P:=P) w op t xo yo xs ys heq
      rcases nQ hz with ⟨rfl,rfl⟩ | ⟨rfl,rfl⟩
      ·exact Yields.here (u:=.bool b) (by simp only[Sem.run_bind,hg,Result.andThen_ok,run_eql_struct,he]) (by rfl)
      ·exact Yields.here (u:=.bool !b) (by simp only[Sem.run_bind,hg,Result.andThen_ok,run_neq_struct,he]) (by rfl)
   ·cases h
  ·cases h
 ·rename_i x' _
  simp only[bn,bR,bm,rep] at hx hy
  subst hy
  split at h
  ·rename_i ti hty
   have T:=ht.ty t ti hty
   split at h
   ·rename_i e hd
    simp only[rep] at hx
    subst hx
    have hg:(eqGuard op t xo yo (.slice none 0 0) (.slice none 0 0)).run P w=.ok () w:=by cases op<;>simp[eqGuard]
    have he:(Op.equal t (.slice none 0 0) (.slice none 0 0)).run P w=.ok true w:=by
     unfold Op.equal Op.maxDepth
     exact equalIn_nil 9999 (T.und.trans (by rw[hd]))
    cases hq:negB op true with
    | none=>grind
    | some z =>
     rw[hq] at h
     cases h
     rcases nQ hq with ⟨rfl,rfl⟩ | ⟨rfl,rfl⟩
     ·exact Yields.here (by simp only[Sem.run_bind,hg,Result.andThen_ok,binOp,he]; rfl) (by rfl)
     ·exact Yields.here (by simp only[Sem.run_bind,hg,Result.andThen_ok,binOp,he]; rfl) (by rfl)
   ·rename_i e sz r rs hd
    simp only[rep] at hx
    obtain⟨ao,m,c,rfl,_,_,_,hr⟩:=hx
    obtain⟨b,o,rfl,_⟩:=hr.resolve_left (by simp)
    have hg:(eqGuard op t xo yo (.slice (some ⟨b,o,none⟩) m c) (.slice none 0 0)).run P w=.ok () w:=by cases op<;>simp[eqGuard]
    have he:(Op.equal t (.slice (some ⟨b,o,none⟩) m c) (.slice none 0 0)).run P w=.ok false w:=by
     unfold Op.equal Op.maxDepth
     exact equalIn_some 9999 (T.und.trans (by rw[hd])) _ _ _
    cases hq:negB op false with
    | none=>grind
    | some z =>
     rw[hq] at h
     cases h
     rcases nQ hq with ⟨rfl,rfl⟩ | ⟨rfl,rfl⟩
     ·exact Yields.here (by simp only[Sem.run_bind,hg,Result.andThen_ok,binOp,he]; rfl) (by rfl)
     ·exact Yields.here (by simp only[Sem.run_bind,hg,Result.andThen_ok,binOp,he]; rfl) (by rfl)
   ·cases h
  ·cases h
 ·cases h
end
end Go.AM
namespace Go.AM
open Go.RowKit
section
variable {P:Program} {φ:Nat->Value} {F:Nat->Prop} {w:World} {tb:Tb} {O:Sto} {cx:Cx}
theorem oneCell_cells {u:Value} (h:u.oneCell'=true):u.cells=#[u]:=by
 cases u<;>first | rfl | simp[Value.oneCell'] at h
theorem pJ {c:C} {u:Value} (hc:c≠.top) (h:bm φ w F c u):u.oneCell'=true:=by
 cases c with
 | top=>grind
 | d x=>grind [rep_one,bm]
 | ref xs off=>simp only[bm] at h; obtain⟨b,o,rfl,_⟩:=h; rfl
 | box s off=>simp only[bm] at h; obtain⟨b,_,rfl⟩:=h; rfl
 | own s=>exact h.2
 | elt s i z off=>simp only[bm] at h; obtain⟨b,n,c,_,rfl⟩:=h; rfl
 | map s=>exact h.2
 | nilmap=>simp only[bm] at h; subst h; rfl
 | iter s=>exact h.2
 | fn f caps=>simp only[bm] at h; obtain⟨arr,rfl,_⟩:=h; rfl
theorem eX {x:V} {cs:List C} {u:Value} (h:lz x=some cs) (hx:bn φ w F x u):bg φ w F cs u.cells.toList:=by
 unfold lz at h
 split at h
 ·cases h
 ·rename_i c hc
  cases h
  have:=oneCell_cells (pJ (fun e=>hc e) hx)
  rw[this]
  simp only[bg]
  exact⟨u,[],rfl,hx,rfl⟩
 ·cases h
  obtain⟨arr,rfl,hc⟩:=hx
  exact hc
 ·cases h
theorem foldl_set (off:Nat):∀ (xs:List Value) (k:Nat) (arr:Array Value),off+k+xs.length<=arr.size ->
  ((xs.zipIdx k).foldl (fun cs (p:Value×Nat)=>cs.setIfInBounds (off+p.2) p.1) arr).toList=arr.toList.take (off+k)++xs++arr.toList.drop (off+k+xs.length)
 | [],k,arr,_=>by simp
 | x::xs,k,arr,h=>by
  simp only[List.length_cons] at h
  simp only[List.zipIdx_cons,List.foldl_cons]
  rw[foldl_set off xs (k+1) _ (by simp; omega)]
  have hlt:off+k < arr.toList.length:=by simp; omega
  simp only[Array.toList_setIfInBounds]
  rw[show off+(k+1)=off+k+1 from rfl,List.take_add_one,List.getElem?_set_self hlt,List.take_set_of_le (Nat.le_refl _),List.drop_set_of_lt (by omega)]
  grind
theorem fill_sound {place:Nat->Option (Nat×Nat)} {offs:List (Nat×Nat)} (hp:∀ i p,offs[i]?=some p->place i=some p):∀ (parts:List (Nat×V)) (vals:List (Nat×Value)) (cs cs':List C) (arr:Array Value),
  parts.length=vals.length->(∀ (j:Nat) (p:Nat×V) (q:Nat×Value),parts[j]?=some p->vals[j]?=some q->p.1=q.1/\bn φ w F p.2 q.2)->bg φ w F cs arr.toList->fillC offs cs parts=some cs' ->
  ∃ arr',Instr.fill place arr vals=some arr'/\bg φ w F cs' arr'.toList
 | [],[],cs,cs',arr,_,_,hc,h=>by cases h; exact⟨arr,rfl,hc⟩
 | [],q::vals,_,_,_,hl,_,_,_=>by simp at hl
 | p::parts,[],_,_,_,hl,_,_,_=>by simp at hl
 | (i,x)::parts,(i',u)::vals,cs,cs',arr,hl,hs,hc,h=>by
  obtain⟨h1,h2⟩:=hs 0 (i,x) (i',u) rfl rfl
  simp only at h1 h2
  subst h1
  simp only[fillC] at h
  split at h
  ·rename_i off sz xs ho hv
   split at h
   ·rename_i hle
    have hcu:=eX hv h2
    have hlen:=bY hcu
    have hlen2:=bY hc
    simp only[Array.length_toList] at hlen hlen2
    have e:=foldl_set off u.cells.toList 0 arr (by simp; omega)
    simp only[Nat.add_zero,Array.length_toList] at e
    have hcs:bg φ w F (cs.take off++xs++cs.drop (off+sz)) (arr.toList.take off++u.cells.toList++arr.toList.drop (off+u.cells.size)) :=
     dZ (dZ (iJ off hc) hcu) (by simp_all [jw])
    have hz:(u.cells.zipIdx.foldl (fun cs (c,j)=>cs.setIfInBounds (off+j) c) arr).toList=arr.toList.take off++u.cells.toList++arr.toList.drop (off+u.cells.size):=by
     rw[<- e,<- Array.foldl_toList]
     simp
    obtain⟨arr',hf,hc'⟩:=fill_sound hp parts vals _ cs' (u.cells.zipIdx.foldl (fun cs (c,j)=>cs.setIfInBounds (off+j) c) arr) (by simpa using hl)
     (fun j p q hj hq=>hs (j+1) p q (by simpa using hj) (by simpa using hq)) (by rw[hz]; exact hcs) h
    refine⟨arr',?_,hc'⟩
    simp only[Instr.fill,hp i _ ho]
    grind
   ·cases h
  ·cases h
theorem usim_cells {x:U} {cs:List C} {u:Value} (hz:x=.agg cs) (h:bR φ w F x u):bg φ w F cs u.cells.toList:=by
 subst hz
 obtain⟨arr,rfl,hc⟩:=h
 exact hc
theorem mapM_places (fs:Array Field):∀ l:List Field,(∀ f∈l,∃ i,P.info? f.type=some i) ->
  (l.mapM fun f=>do pure (f.offset,<- sizeOf f.type):Sem (List (Nat×Nat))).run P w=.ok (l.map fun f=>(f.offset,P.cellsOf f.type)) w
 | [],_=>by simp
 | f::l,h=>by
  obtain⟨i,hi⟩:=h f (by simp)
  have hr:(sizeOf f.type).run P w=.ok (P.cellsOf f.type) w:=by simp[sizeOf,typeInfo,hi,Program.cellsOf]
  have ih:=mapM_places fs l (fun g hg=>h g (by simp[hg]))
  simp_all
theorem run_mapM_array {α β:Type} (f:α->Sem β) (l:Array α):(l.mapM f).run P w=((l.toList.mapM f).run P w).andThen fun r w'=>.ok r.toArray w':=by
 simp[Array.mapM_eq_mapM_toList]
theorem offsA_get {sz:Nat}:∀ {m o i:Nat} {p:Nat×Nat},(offsA sz m o)[i]?=some p->p=(o+i*sz,sz)
 | 0,_,_,_,h=>by simp[offsA] at h
 | m+1,o,0,p,h=>by
  simp_all [offsA]
 | m+1,o,i+1,p,h=>by
  simp only[offsA,List.getElem?_cons_succ] at h
  rw[offsA_get h,Nat.add_mul,Nat.one_mul,Nat.add_assoc,Nat.add_comm sz]
theorem qbuild_sound (ht:TbOk P tb) {t:TypeId} {parts:List (Nat×V)} {v:V} {vals:List (Nat×Value)}
  (h:qbuild tb t parts=some v) (hl:parts.length=vals.length) (hs:∀ (j:Nat) (p:Nat×V) (q:Nat×Value),parts[j]?=some p->vals[j]?=some q->p.1=q.1/\bn φ w F p.2 q.2) :
  Yields P φ F (Instr.build t vals.toArray) w v:=by
 unfold qbuild at h
 split at h
 ·rename_i ti hty
  have T:=ht.ty t ti hty
  split at h
  ·rename_i fs cs hd hz
   cases hf:fillC ti.offs cs parts with
   | none=>grind
   | some cs' =>
    rw[hf] at h
    cases h
    have hz':=usim_cells hz (T.zero φ w F)
    have ho:=T.offs fs hd
    obtain⟨arr',h1,h2⟩:=fill_sound (place:=((fs.toList.map fun f=>(f.offset,P.cellsOf f.type)).toArray[·]?)) (offs:=ti.offs)
     (fun i p hi=>by simp_all) parts vals cs cs' ti.zv.cells hl hs hz' hf
    refine Yields.here (u:=.agg arr') ?_ ⟨arr',rfl,h2⟩
    unfold Instr.build
    simp only[Sem.run_bind,T.run_zero,T.run_und,Result.andThen_ok,hd,run_mapM_array,mapM_places fs fs.toList (fun f hf=>Option.isSome_iff_exists.1 (List.all_eq_true.1 (T.fty fs hd) f hf)),h1,Sem.run_pure]
  ·rename_i m e cs hd hz
   unfold qbuildA at h
   split at h
   ·rename_i te hte
    have TE:=ht.ty e te hte
    cases hf:fillC (offsA te.size m 0) cs parts with
    | none=>grind
    | some cs' =>
     rw[hf] at h
     cases h
     have hz':=usim_cells hz (T.zero φ w F)
     obtain⟨arr',h1,h2⟩:=fill_sound (place:=fun i=>some (i*te.size,te.size)) (offs:=offsA te.size m 0) (fun i p hi=>by rw[offsA_get hi,Nat.zero_add]) parts vals cs cs' ti.zv.cells hl hs hz' hf
     refine Yields.here (u:=.agg arr') ?_ ⟨arr',rfl,h2⟩
     unfold Instr.build
     simp only[Sem.run_bind,T.run_zero,T.run_und,Result.andThen_ok,hd,TE.run_size,h1,Sem.run_pure]
   ·cases h
  ·cases h
 ·cases h
theorem lX:∀ {cs:List C} {xs:List L},mA cs=some xs->cs=xs.map C.d
 | [],_,h=>by cases h; rfl
 | c::cs,xs,h=>by
  simp only[mA] at h
  split at h
  ·rename_i x ys h1 h2
   cases h
   cases c<;>simp only[cdata] at h1<;>cases h1
   rw[lX h2]
   rfl
  ·cases h
theorem dX {sz:Nat}:∀ {rs:List (List L)},(∀ r∈rs,r.length=sz)->rs.flatten.length=rs.length*sz
 | [],_=>by simp
 | r::rs,h=>by
  rw[List.flatten_cons,List.length_append,h r (by simp),dX (fun r hr=>h r (by simp[hr])),List.length_cons,Nat.add_mul]
  omega
theorem flatten_set {sz:Nat}:∀ {rs:List (List L)} {i:Nat} {ys:List L},(∀ r∈rs,r.length=sz)->i < rs.length->(rs.set i ys).flatten=rs.flatten.take (i*sz)++ys++rs.flatten.drop (i*sz+sz)
 | [],i,ys,_,hi=>by simp at hi
 | r::rs,0,ys,h,_=>by
  simp_all
 | r::rs,i+1,ys,h,hi=>by
  have hr:=h r (by simp)
  have ih:=flatten_set (rs:=rs) (i:=i) (ys:=ys) (fun r hr=>h r (List.mem_cons_of_mem _ hr)) (by simpa using hi)
  simp only[List.set_cons_succ,List.flatten_cons,ih]
  have e1:(i+1)*sz=r.length+i*sz:=by grind
  have e2:(i+1)*sz+sz=r.length+(i*sz+sz):=by omega
  rw[e2,e1,List.take_length_add_append,List.drop_length_add_append]
  simp
theorem repRow_of {b:Nat}:∀ {xs:List L} {us:List Value} {o:Nat},bg φ w F (xs.map C.d) us->(∀ (j:Nat) (u:Value),us[j]?=some u->w.cell? ⟨b,o+j,none⟩=some u)->d6 w F xs b o
 | [],_,_,_,_=>by simp[d6]
 | x::xs,us,o,h,hc=>by
  simp only[List.map_cons,bg] at h
  obtain⟨v,r,rfl,hv,hr⟩:=h
  simp only[d6]
  exact⟨⟨v,hc 0 v rfl,by simpa [bm] using hv⟩,repRow_of hr fun j u hj=>by rw[show o+1+j=o+(j+1) from by omega]; simp_all⟩
theorem o4 {b sz:Nat}:∀ {rs:List (List L)} {us:List Value} {o:Nat},(∀ r∈rs,r.length=sz)->bg φ w F (rs.flatten.map C.d) us->(∀ (j:Nat) (u:Value),us[j]?=some u->w.cell? ⟨b,o+j,none⟩=some u)->ca w F sz rs b o
 | [],_,_,_,_,_=>by simp[ca]
 | r::rs,us,o,hl,h,hc=>by
  have hr:=hl r (by simp)
  rw[List.flatten_cons,List.map_append] at h
  have hlen:=bY h
  have h1:=iJ sz h
  have h2:=jw sz h
  rw[List.take_left' (by simp[hr])] at h1
  rw[List.drop_left' (by simp[hr])] at h2
  simp only[ca]
  refine⟨⟨hr,repRow_of h1 fun j u hj=>?_⟩,o4 (fun r hr=>hl r (by simp[hr])) h2 fun j u hj=>?_⟩
  ·grind
  grind
theorem zero_cells {zr:List L} {zero:Array Value} (h:bg φ w F (zr.map C.d) zero.toList) (n:Nat) :
  bg φ w F ((List.replicate n zr).flatten.map C.d) ((Array.range (n*zero.size)).map fun j=>zero[j % zero.size]!).toList:=by
 have hz:∀ n,((Array.range (n*zero.size)).map fun j=>zero[j % zero.size]!).toList=(List.replicate n zero.toList).flatten:=by
  intro n
  induction n with
  | zero=>simp
  | succ n ih =>
   simp only[Array.toList_map,Array.toList_range] at ih ⊢
   rw[Nat.add_mul,Nat.one_mul,List.range_add,List.map_append,ih,List.replicate_succ',List.flatten_append]
   congr 1
   simp only[List.map_map,List.flatten_cons,List.flatten_nil,List.append_nil]
   apply List.ext_getElem
   ·simp
   simp_all [Nat.mod_eq_of_lt]
 rw[hz]
 clear hz
 induction n with
 | zero=>simp[bg]
 | succ n ih =>
  grind [dZ]
theorem qo (e:TypeId) (cells:Array Value) (w:World):(newRow e cells).run P w=.ok ⟨w.heap.size,0,none⟩ (w.alloc (.cells cells e)):=rfl
theorem range_zero_map (f:Nat->Value):(Array.range 0).map f=#[]:=by simp
theorem nZ {sz:Nat}:∀ (parts:List (Nat×V)) (vals:List (Nat×Value)) (rs rs':List (List L)) (arr:Array Value),(∀ r∈rs,r.length=sz) ->
  parts.length=vals.length->(∀ (j:Nat) (p:Nat×V) (q:Nat×Value),parts[j]?=some p->vals[j]?=some q->p.1=q.1/\bn φ w F p.2 q.2)->bg φ w F (rs.flatten.map C.d) arr.toList->nX sz rs parts=some rs' ->
  ∃ arr',Instr.fill (fun i=>some (i*sz,sz)) arr vals=some arr'/\bg φ w F (rs'.flatten.map C.d) arr'.toList/\(∀ r∈rs',r.length=sz)/\rs'.length=rs.length
 | [],[],rs,rs',arr,hr,_,_,hc,h=>by cases h; exact⟨arr,rfl,hc,hr,rfl⟩
 | [],q::vals,_,_,_,_,hl,_,_,_=>by simp at hl
 | p::parts,[],_,_,_,_,hl,_,_,_=>by simp at hl
 | (i,x)::parts,(i',u)::vals,rs,rs',arr,hr,hl,hs,hc,h=>by
  obtain⟨h1,h2⟩:=hs 0 (i,x) (i',u) rfl rfl
  simp only at h1 h2
  subst h1
  simp only[nX] at h
  split at h
  ·rename_i xs hv
   split at h
   ·rename_i ys hy
    split at h
    ·rename_i hle
     have hcu:=eX hv h2
     rw[lX hy] at hcu
     have hlen:=bY hcu
     have hlen2:=bY hc
     simp only[Array.length_toList,List.length_map] at hlen hlen2
     rw[dX hr] at hlen2
     have hroom:i*sz+sz<=rs.length*sz:=by
      have:=Nat.mul_le_mul_right sz (show i+1<=rs.length from hle.2)
      grind
     have e:=foldl_set (i*sz) u.cells.toList 0 arr (by simp; omega)
     simp only[Nat.add_zero,Array.length_toList] at e
     have hcs:bg φ w F ((rs.set i ys).flatten.map C.d) (arr.toList.take (i*sz)++u.cells.toList++arr.toList.drop (i*sz+u.cells.size)):=by
      rw[flatten_set hr hle.2,List.map_append,List.map_append,List.map_take,List.map_drop]
      grind [dZ,iJ,jw]
     have hz:(u.cells.zipIdx.foldl (fun cs (c,j)=>cs.setIfInBounds (i*sz+j) c) arr).toList=arr.toList.take (i*sz)++u.cells.toList++arr.toList.drop (i*sz+u.cells.size):=by
      rw[<- e,<- Array.foldl_toList]
      simp
     obtain⟨arr',hf,hc',hr',hl'⟩:=nZ parts vals (rs.set i ys) rs' (u.cells.zipIdx.foldl (fun cs (c,j)=>cs.setIfInBounds (i*sz+j) c) arr)
      (fun r hm=>by
       grind) (by simpa using hl)
      (fun j p q hj hq=>hs (j+1) p q (by simpa using hj) (by simpa using hq)) (by rw[hz]; exact hcs) h
     refine⟨arr',?_,hc',hr',by simpa using hl'⟩
     simp only[Instr.fill]
     grind
    ·cases h
   ·cases h
  ·cases h
theorem run_buildSlice {t e:TypeId} {te:TI} (hT:P.underlying t=some (.slice e)) (TE:TabFact P e te) {n:Nat} (hle:n*te.size<=2 ^ 24) {vals:List (Nat×Value)} {arr':Array Value}
  (h0:n*te.size=0->Instr.fill (fun i=>some (i*te.size,te.size)) #[] vals=some arr')
  (h1:n*te.size≠0->Instr.fill (fun i=>some (i*te.size,te.size)) ((Array.range (n*te.size)).map fun j=>te.zv.cells[j % te.zv.cells.size]!) vals=some arr') :
  (Instr.buildSlice t n vals.toArray).run P w=.ok (.slice (some ⟨w.heap.size,0,none⟩) n n) (w.alloc (.cells arr' e)):=by
 unfold Instr.buildSlice
 have hgt:¬ (n*te.size > 2 ^ 24):=by omega
 simp only[Sem.run_bind,run_underlying hT,Result.andThen_ok,TE.run_size,if_neg hgt]
 by_cases hz:n*te.size=0
 ·simp_all [range_zero_map,qo]
 ·have:=h1 hz
  simp only[if_neg hz,Sem.run_bind,TE.run_zero,Result.andThen_ok,Sem.run_pure,this,qo]
theorem qbuildSlice_sound (ht:TbOk P tb) (hnew:∀ b,w.heap.size<=b->F b) (hmax:2 ^ 24<=maxLen) {t:TypeId} {n:Nat} {parts:List (Nat×V)} {v:V} {vals:List (Nat×Value)}
  (h:iD tb t n parts=some v) (hl:parts.length=vals.length) (hs:∀ (j:Nat) (p:Nat×V) (q:Nat×Value),parts[j]?=some p->vals[j]?=some q->p.1=q.1/\bn φ w F p.2 q.2) :
  Yields P φ F (Instr.buildSlice t n vals.toArray) w v:=by
 unfold iD at h
 split at h
 ·rename_i ti hty
  have T:=ht.ty t ti hty
  split at h
  ·rename_i e hd
   split at h
   ·rename_i te hte
    have TE:=ht.ty e te hte
    split at h
    ·rename_i h0
     obtain⟨rfl,rfl⟩:=h0
     cases h
     have hv:vals=[]:=List.eq_nil_of_length_eq_zero hl.symm
     subst hv
     refine⟨.slice (some ⟨w.heap.size,0,none⟩) 0 0,w.alloc (.cells #[] e),?_,(Blw.refl _ _).alloc (Nat.le_refl _) _,?_⟩
     ·exact run_buildSlice (te:=te) (vals:=[]) (T.und.trans (by rw[hd])) TE (by omega) (fun _=>rfl) (fun h=>absurd (Nat.zero_mul _) h)
     ·simp[bn,bR,bm,rep]
    ·split at h
     ·cases h
     ·rename_i hsz
      simp only[not_or,Nat.not_lt] at hsz
      split at h
      ·rename_i zs hzs
       split at h
       ·rename_i zr hzr
        cases hf:nX te.size (List.replicate n zr) parts with
        | none=>grind
        | some rs =>
         rw[hf] at h
         cases h
         have hzc:=eX (φ:=φ) (w:=w) (F:=F) hzs (TE.zero φ w F)
         rw[lX hzr] at hzc
         have hzl:=bY hzc
         simp only[List.length_map,Array.length_toList] at hzl
         rw[TE.zsize] at hzl
         obtain⟨arr',h1,h2,h3,h4⟩:=nZ parts vals (List.replicate n zr) rs _ (fun r hr=>by simp_all) hl hs (zero_cells hzc n) hf
         rw[List.length_replicate] at h4
         have hsize:arr'.size=n*te.size:=by
          grind [bY,List.length_map,Array.length_toList,dX]
         by_cases hn:n=0
         ·subst hn
          have hrs:rs=[]:=List.eq_nil_of_length_eq_zero h4
          subst hrs
          refine⟨.slice (some ⟨w.heap.size,0,none⟩) 0 0,w.alloc (.cells arr' e),?_,(Blw.refl _ _).alloc (Nat.le_refl _) _,?_⟩
          ·have h1':Instr.fill (fun i=>some (i*te.size,te.size)) #[] vals=some arr':=by grind
           exact run_buildSlice (T.und.trans (by rw[hd])) TE (by omega) (fun _=>h1') (fun h=>absurd (Nat.zero_mul _) h)
          ·simp only[bn,bR,bm,rep]
           grind
         ·have hne:n*te.size≠0:=Nat.mul_ne_zero hn hsz.1
          refine⟨.slice (some ⟨w.heap.size,0,none⟩) n n,w.alloc (.cells arr' e),?_,(Blw.refl _ _).alloc (Nat.le_refl _) _,?_⟩
          ·exact run_buildSlice (T.und.trans (by rw[hd])) TE hsz.2 (fun h=>absurd h hne) (fun _=>by rw[<- h1,TE.zsize])
          ·simp only[bn,bR,bm,rep]
           have hnm:n<=n*te.size:=Nat.le_mul_of_pos_right n (by omega)
           refine⟨_,_,_,rfl,h4.symm,Nat.le_refl _,by omega,.inr ⟨w.heap.size,0,rfl,hnew _ (Nat.le_refl _),by simp,?_⟩⟩
           have hk:Keep F F w (w.alloc (.cells arr' e)):=Keep.of_below ((Blw.refl _ _).alloc (Nat.le_refl _) _)
           exact o4 (us:=arr'.toList) (φ:=φ) h3 (cD hk _ _ h2) fun j u hj=>by
            simp_all
       ·cases h
      ·cases h
   ·cases h
  ·cases h
 ·cases h
end
end Go.AM
namespace Go.AM
open Go.RowKit
theorem Key.val_inj:∀ {k k':Key},k.val=k'.val->k=k'
 | .int _ _,.int _ _,h=>by simp only[Key.val,Value.int.injEq] at h; rw[h.1,h.2]
 | .str _,.str _,h=>by
  simp only[Key.val,Value.string.injEq,ByteArray.mk.injEq] at h
  have h:=congrArg Array.toList h
  simp only at h
  rw[h]
 | .ints l,.ints l',h=>by
  simp only[Key.val,Value.agg.injEq] at h
  have h:=congrArg Array.toList h
  simp only at h
  rw[List.map_inj_right (fun a b e=>by simpa using e)] at h
  rw[h]
 | .int _ _,.str _,h=>by simp[Key.val] at h
 | .int _ _,.ints _,h=>by simp[Key.val] at h
 | .str _,.int _ _,h=>by simp[Key.val] at h
 | .str _,.ints _,h=>by simp[Key.val] at h
 | .ints _,.int _ _,h=>by simp[Key.val] at h
 | .ints _,.str _,h=>by simp[Key.val] at h
section
variable {P:Program} {φ:Nat->Value} {F:Nat->Prop} {w:World} {tb:Tb} {O:Sto} {cx:Cx}
theorem cints_sound:∀ {cs:List C} {l:List Int} {vs:List Value},cints cs=some l->bg φ w F cs vs->vs=l.map (Value.int .i64)
 | [],_,_,h,hc=>by cases h; simpa [bg] using hc
 | c::cs,l,vs,h,hc=>by
  unfold cints at h
  split at h
  ·rename_i h0; cases h0
  ·rename_i n cs' h0
   cases h0
   cases hr:cints cs with
   | none=>rw[hr] at h; cases h
   | some l' =>
    rw[hr] at h
    cases h
    simp only[bg,bm,rep] at hc
    obtain⟨v,r,rfl,rfl,hc⟩:=hc
    rw[cints_sound hr hc]
    rfl
  ·cases h
theorem vkey_sound {x:V} {k:Key} {u:Value} (h:vkey x=some k) (hx:bn φ w F x u):u=k.val:=by
 unfold vkey at h
 split at h
 ·cases h; simpa [bn,bR,bm,rep,Key.val] using hx
 ·cases h; simpa [bn,bR,bm,rep,Key.val] using hx
 ·rename_i cs
  cases hr:cints cs with
  | none=>rw[hr] at h; cases h
  | some l =>
   rw[hr] at h
   cases h
   obtain⟨arr,rfl,hc⟩:=hx
   have:=cints_sound hr hc
   simp only[Key.val,Value.agg.injEq]
   rw[<- this]
 ·cases h
theorem esims_mem:∀ {es:List (Key×U)} {l:List MapEntry},eH φ w F es l->∀ e∈l,∃ x∈es,e.key=x.1.val
 | [],_,h,e,he=>by simp only[eH] at h; subst h; cases he
 | x::es,l,h,e,he=>by
  obtain⟨e',r,rfl,h1,h2,h3⟩:=h
  rcases List.mem_cons.1 he with rfl | he
  ·exact⟨x,by simp,h1⟩
  ·obtain⟨y,hy,hk⟩:=esims_mem h3 e he
   exact⟨y,by simp[hy],hk⟩
theorem esims_get:∀ {es:List (Key×U)} {l:List MapEntry},eH φ w F es l->∀ {j:Nat} {e:MapEntry},l[j]?=some e->∃ x,es[j]?=some x/\e.key=x.1.val/\bR φ w F x.2 e.val
 | [],_,h,j,e,he=>by simp only[eH] at h; subst h; simp at he
 | x::es,l,h,j,e,he=>by
  obtain⟨e',r,rfl,h1,h2,h3⟩:=h
  cases j with
  | zero=>simp at he; subst he; exact⟨x,rfl,h1,h2⟩
  | succ j=>simp at he; simpa using esims_get h3 he
theorem mget_none:∀ {es:List (Key×U)} {l:List MapEntry} {k:Key},eH φ w F es l->(∀ e∈l,e.key≠k.val)->pt es k=none
 | [],_,_,_,_=>rfl
 | x::es,l,k,h,hn=>by
  obtain⟨e',r,rfl,h1,h2,h3⟩:=h
  have:x.1≠k:=fun e=>hn e' (by simp) (by rw[h1,e])
  simp only[pt,if_neg this]
  exact mget_none h3 fun e he=>hn e (by simp[he])
theorem mget_some:∀ {es:List (Key×U)} {j:Nat} {x:Key×U},(es.map (·.1)).Nodup->es[j]?=some x->pt es x.1=some x.2
 | [],j,x,_,h=>by simp at h
 | y::es,0,x,_,h=>by simp at h; subst h; simp[pt]
 | y::es,j+1,x,hn,h=>by
  simp only[List.map_cons,List.nodup_cons] at hn
  simp only[List.getElem?_cons_succ] at h
  have:y.1≠x.1:=fun e=>hn.1 (by rw[e]; exact List.mem_map.2 ⟨x,List.mem_of_getElem? h,rfl⟩)
  simp only[pt,if_neg this]
  exact mget_some hn.2 h
theorem find_sound (ht:TbOk P tb) {kt:TypeId} {kk:KK} (hk:tb.key kt=some kk) {es:List (Key×U)} {ents:List MapEntry} (hes:eH φ w F es ents) (hfit:∀ x∈es,x.1.fits kk=true) (hnd:(es.map (·.1)).Nodup)
  {key:Key} (hf:key.fits kk=true) :
  (∀ em,(Instr.checkKey em 10000 kt key.val).run P w=.ok () w) /\
  (((Instr.findKey kt key.val ents).run P w=.ok none w/\pt es key=none) \/
   ∃ j e u,(Instr.findKey kt key.val ents).run P w=.ok (some (j,e.val)) w/\ents[j]?=some e/\e.key=key.val/\es[j]?=some (key,u)/\pt es key=some u/\bR φ w F u e.val):=by
 obtain⟨K,hof⟩:=ht.key kt kk hk
 obtain⟨l,hl⟩:=hof key hf
 refine⟨fun em=>K.check w em hl,?_⟩
 have hall:∀ e∈ents,∃ l,keyOf P kt e.key=some l:=fun e he=>by
  obtain⟨x,hx,hkx⟩:=esims_mem hes e he
  rw[hkx]
  exact hof x.1 (hfit x hx)
 rcases K.find w hl ents hall with ⟨h1,h2⟩ | ⟨j,e,h1,h2,h3⟩
 ·exact .inl ⟨h1,mget_none hes h2⟩
 ·obtain⟨x,hx,hkx,hv⟩:=esims_get hes h2
  have:x.1=key:=Key.val_inj (hkx.symm.trans h3)
  obtain⟨xk,xu⟩:=x
  subst this
  exact .inr ⟨j,e,xu,h1,h2,h3,hx,mget_some hnd hx,hv⟩
theorem qlookup_sound (ht:TbOk P tb) (hco:Core cx φ O w) {t:TypeId} {m k v:V} {ok:Bool} {u q:Value} (h:ey tb O t m k ok=some v) (hm:bn φ w (cx.fr φ O) m u) (hk:bn φ w (cx.fr φ O) k q) :
  Yields P φ (cx.fr φ O) (Instr.lookup t u q ok) w v:=by
 unfold ey at h
 split at h
 ·rename_i ti s key hty hkey
  have T:=ht.ty t ti hty
  have hq:=vkey_sound hkey hk
  subst hq
  split at h
  ·rename_i kt e kk es hd hs
   split at h
   ·rename_i te hte
    have TE:=ht.ty e te hte
    split at h
    ·rename_i hc
     obtain⟨b,ents,clk,hp,hh,hes,hb1,hb2,hfit,hnd⟩:=hco.objs s _ hs
     have hu:u=.map (some b):=hm.1.trans (by rw[hp]; rfl)
     subst hu
     obtain⟨hchk,hfind⟩:=find_sound ht hc.1 hes hfit hnd hc.2
     have hg:(getObj b).run P w=.ok (.map ents clk) w:=by simp[getObj,Sem.run,hh]
     rcases hfind with ⟨h1,h2⟩ | ⟨j,en,x,h1,h2,h3,h4,h5,h6⟩
     ·rw[h2] at h
      have hrun:(Instr.lookup t (.map (some b)) key.val ok).run P w=.ok (if ok then .tuple #[te.zv,.bool false] else te.zv) w:=by
       unfold Instr.lookup
       simp[T.run_und,hd,hg,hchk,h1,TE.run_zero]
      cases ok with
      | true =>
       cases h
       exact Yields.here hrun ⟨_,rfl,te.zv,[.bool false],rfl,TE.zero _ _ _,.bool false,[],rfl,by simp[bR,bm,rep],rfl⟩
      | false =>
       cases h
       exact Yields.here hrun (TE.zero _ _ _)
     ·rw[h5] at h
      have hrun:(Instr.lookup t (.map (some b)) key.val ok).run P w=.ok (if ok then .tuple #[en.val,.bool true] else en.val) w:=by
       unfold Instr.lookup
       simp[T.run_und,hd,hg,hchk,h1]
      cases ok with
      | true =>
       cases h
       exact Yields.here hrun ⟨_,rfl,en.val,[.bool true],rfl,h6,.bool true,[],rfl,by simp[bR,bm,rep],rfl⟩
      | false =>
       cases h
       exact Yields.here hrun h6
    ·cases h
   ·cases h
  ·cases h
 ·cases h
theorem cdatasC_sound:∀ {vs:List V} {cs:List C} {us:List Value},pO vs=some cs->vs.length=us.length->(∀ (j:Nat) (v:V) (u:Value),vs[j]?=some v->us[j]?=some u->bn φ w F v u)->bg φ w F cs us
 | [],cs,us,h,hl,_=>by
  cases h
  simp only[bg]
  exact List.eq_nil_of_length_eq_zero hl.symm
 | v::vs,cs,[],_,hl,_=>by simp at hl
 | v::vs,cs,u::us,h,hl,hs=>by
  unfold pO at h
  split at h
  ·rename_i h0; cases h0
  ·rename_i c r h0
   cases h0
   cases hr:pO vs with
   | none=>rw[hr] at h; cases h
   | some cs' =>
    rw[hr] at h
    cases h
    simp only[bg]
    exact⟨u,us,rfl,hs 0 _ u rfl rfl,cdatasC_sound hr (by simpa using hl) fun j v u hv hu=>hs (j+1) v u (by simpa using hv) (by simpa using hu)⟩
  ·cases h
def QRes (P:Program) (φ:Nat->Value) (F:Nat->Prop) (w:World) (S:V->Prop):Result Next->Prop
 | .ok (.value u) w'=>Blw w.heap.size w w'/\∃ v,S v/\bn φ w' F v u
 | .ok (.enter f args) w'=>Blw w.heap.size w w'/\Calls P f args w' fun e w''=>∃ u v,e=.returned u/\Blw w'.heap.size w' w''/\S v/\bn φ w'' F v u
 | _=>False
theorem QRes.of_yields {s:Sem Value} {v:V} (h:Yields P φ F s w v):QRes P φ F w (·=v) ((do pure (.value (<- s)):Sem Next).run P w):=by
 obtain⟨u,w',hr,hb,hv⟩:=h
 simp only[Sem.run_bind,hr,Result.andThen_ok,Sem.run_pure]
 exact⟨hb,v,rfl,hv⟩
def Quiet (P:Program) (cx:Cx) (o:Oper) (Z:Env) (O:Sto) (S:V->Prop):Prop :=
 ∀ (φ:Nat->Value) (a:Act) (w:World),Core cx φ O w->(∀ x∈o.op.operands.toList,bn φ w (cx.fr φ O) (oev Z x) (a.eval x))->QRes P φ (cx.fr φ O) w S ((execOp a.eval o).run P w)
theorem Core.new {φ:Nat->Value} {w:World} (h:Core cx φ O w):∀ b,w.heap.size<=b->cx.fr φ O b:=fun b hb =>
 ⟨.inr (.inl (Nat.le_trans h.size hb)),fun⟨s,o,hs,hk⟩=>by have:=(h.own s o b hs hk).2; omega⟩
theorem Core.frm {φ:Nat->Value} {w:World} (h:Core cx φ O w):Fr w (cx.fr φ O):=⟨h.new,h.gw⟩
theorem run_equalIn_nilI (w:World) (n:Nat) (t:TypeId) (ms:Array (String×TypeId)) (h:P.underlying t=some (.interface ms)):(Op.equalIn (n+1) t .nilIface .nilIface).run P w=.ok true w:=by
 have hu:=run_underlying (w:=w) h
 unfold Op.equalIn
 simp only[Sem.run_bind,hu,Result.andThen_ok,Sem.run_pure]
theorem run_equalIn_ifN (w:World) (n:Nat) (t te:TypeId) (pe:Value) (ms:Array (String×TypeId)) (h:P.underlying t=some (.interface ms)):(Op.equalIn (n+1) t (.iface te pe) .nilIface).run P w=.ok false w:=by
 have hu:=run_underlying (w:=w) h
 unfold Op.equalIn
 simp only[Sem.run_bind,hu,Result.andThen_ok,Sem.run_pure]
theorem qbinO_sound (ht:TbOk P tb) {op:BinOp} {t:TypeId} {x y v:V} {u q:Value} {xo yo:Operand} (h:qbinO tb op t (isNilC yo) x y=some v) (hx:bn φ w F x u) (hy:bn φ w F y q) (hq:∀ c,yo=.const c->q=c) :
  Yields P φ F (do eqGuard op t xo yo u q; binOp op t u q) w v:=by
 unfold qbinO at h
 cases hc:isNilC yo with
 | false=>rw[hc] at h; exact qbin_sound ht h hx hy
 | true =>
  rw[hc] at h
  simp only[cond_true] at h
  have hyo:yo=.const .nilIface:=by
   unfold isNilC at hc
   split at hc
   ·unfold isNilV at hc
    split at hc
    ·rfl
    ·cases hc
   ·cases hc
  subst hyo
  have:=hq _ rfl
  subst this
  unfold qbinN at h
  split at h
  ·rename_i eb ti hty
   have T:=ht.ty t ti hty
   split at h
   ·rename_i ms hd
    have hue:∃ r,r=(!eb)/\(eqGuard op t xo (.const .nilIface) u .nilIface).run P w=.ok () w/\(Op.equal t u .nilIface).run P w=.ok r w:=by
     cases eb with
     | false =>
      simp only[bn,bR,bm,rep] at hx
      subst hx
      exact⟨_,rfl,by cases op<;>simp[eqGuard],by
       unfold Op.equal Op.maxDepth
       exact run_equalIn_nilI w 9999 t ms (T.und.trans (by rw[hd]))⟩
     | true =>
      simp only[bn,bR,bm,rep] at hx
      obtain⟨te,pe,rfl⟩:=hx
      exact⟨_,rfl,by cases op<;>simp[eqGuard],by
       unfold Op.equal Op.maxDepth
       exact run_equalIn_ifN w 9999 t te pe ms (T.und.trans (by rw[hd]))⟩
    obtain⟨r,hr,hg,he⟩:=hue
    rw[<- hr] at h
    cases hq2:negB op r with
    | none=>rw[hq2] at h; cases h
    | some z =>
     rw[hq2] at h
     cases h
     rcases nQ hq2 with ⟨rfl,rfl⟩ | ⟨rfl,rfl⟩
     ·exact Yields.here (by simp only[Sem.run_bind,hg,Result.andThen_ok,binOp,he]; rfl) (by simp[bn,bR,bm,rep])
     ·exact Yields.here (by simp only[Sem.run_bind,hg,Result.andThen_ok,binOp,he]; rfl) (by simp[bn,bR,bm,rep])
   ·cases h
  ·cases h
theorem maxLen_big:2 ^ 24<=maxLen:=by simp only[maxLen]; omega
theorem parts_sim {Z:Env} {a:Act} {parts:Array (Nat×Operand)} (hp:∀ x∈(parts.toList.map (·.2)),bn φ w F (oev Z x) (a.eval x)) :
  ∀ (j:Nat) (p:Nat×V) (q:Nat×Value),(parts.toList.map fun p=>(p.1,oev Z p.2))[j]?=some p->(parts.toList.map fun p=>(p.1,a.eval p.2))[j]?=some q->p.1=q.1/\bn φ w F p.2 q.2:=by
 intro j p q h1 h2
 rw[List.getElem?_map] at h1 h2
 cases hx:parts.toList[j]? with
 | none=>rw[hx] at h1; cases h1
 | some x =>
  rw[hx] at h1 h2
  cases h1; cases h2
  exact⟨rfl,hp x.2 (List.mem_map.2 ⟨x,List.mem_of_getElem? hx,rfl⟩)⟩
theorem rowsV_sound (hco:Core cx φ O w) {x:V} {rows:List (List L)} {ns:List Int} {u:Value} (h:rowsV O x=some rows) (hb:fA rows=some ns) (hx:bn φ w (cx.fr φ O) x u) :
  ∃ ao n c,u=.slice ao n c/\n=ns.length/\(n=0 \/ ∃ b o,ao=some ⟨b,o,none⟩/\∀ (j:Nat) (v:Value),(ns.map (Value.int .u8))[j]?=some v->w.cell? ⟨b,o+j,none⟩=some v):=by
 have hlen:=@byteRows_len
 unfold rowsV at h
 split at h
 ·cases h
  cases hb
  simp only[bn,bR,bm,rep] at hx
  exact⟨none,0,0,hx,rfl,.inl rfl⟩
 ·cases h
  cases hb
  simp only[bn,bR,bm,rep] at hx
  obtain⟨a,rfl⟩:=hx
  exact⟨a,0,0,rfl,rfl,.inl rfl⟩
 ·rename_i sz rows'
  cases h
  simp only[bn,bR,bm,rep] at hx
  obtain⟨ao,n,c,rfl,hn,_,_,hr⟩:=hx
  obtain⟨h1,h2⟩:=hlen hb
  refine⟨ao,n,c,rfl,hn.trans h1,?_⟩
  rcases hr with rfl | ⟨b,o,rfl,_,_,hr⟩
  ·exact .inl (by simpa using hn)
  ·by_cases hz:rows=[]
   ·subst hz; exact .inl (by simpa using hn)
   ·have hsz:sz=1:=by
     cases rows with
     | nil=>exact absurd rfl hz
     | cons r rs =>
      simp only[ca] at hr
      rw[<- hr.1.1]
      exact h2 r (by simp)
    subst hsz
    exact .inr ⟨b,o,rfl,(byteRows_sound hb hr).2⟩
 ·rename_i s
  split at h
  ·rename_i sz e rows' hs
   cases h
   obtain⟨hl,ho⟩:=hco.objs s _ hs
   obtain⟨h1,h2⟩:=hlen hb
   simp only[bn,bR,bm] at hx
   rw[hx.1]
   rcases ho with ⟨rfl,a,ha⟩ | ⟨b,cap,cur,h0,hq,_,_,hh,hsz,hc⟩
   ·cases hb; exact⟨a,0,0,(by rw[ha]; rfl),rfl,.inl rfl⟩
   ·refine⟨_,_,_,(by rw[hq]; rfl),h1,.inr ⟨b,0,rfl,fun j v hj=>?_⟩⟩
    have hsz1:rows=[] \/ sz=1:=by
     cases rows with
     | nil=>exact .inl rfl
     | cons r rs=>exact .inr ((hl r (by simp)).symm.trans (h2 r (by simp)))
    rcases hsz1 with rfl | rfl
    ·cases hb; simp at hj
    ·have hcur:=byteRows_sims hb hc
     rw[<- hcur,List.getElem?_take] at hj
     split at hj
     ·simp only[World.cell?,hh,Nat.zero_add]
      simpa using hj
     ·cases hj
  ·cases h
 ·cases h
theorem run_toBytes {src dst e:TypeId} {ts td te:TI} (S:TabFact P src ts) (D:TabFact P dst td) (E:TabFact P e te) (hds:ts.desc=.string) (hdd:td.desc=.slice e) (hde:te.desc=.int .u8) (hnew:∀ b,w.heap.size<=b->F b) (s:ByteArray) (hl:(bsl s).length<=2 ^ 40) :
  Yields P φ F (convert src dst (.string s)) w (.u (.one (.d (.sl 1 ((bsl s).map nI))))):=by
 have hrun:=Go.Lib.run_convert_string_bytes (P:=P) w src dst e s (S.und.trans (by rw[hds])) (D.und.trans (by rw[hdd])) (E.und.trans (by rw[hde]))
 have hge:=grownCap_ge w s.size 0 e
 have hsz:s.size=(bsl s).length:=rfl
 have hcm:=grownCap_le_maxLen w s.size 0 e (by simp only[maxLen]; omega)
 refine⟨_,_,hrun,⟨⟨rfl,rfl,rfl,by rw[Go.Lib.bytesWorld_size]; omega,fun k hk=>Go.Lib.bytesWorld_at_old w e s k (by omega)⟩,?_⟩,?_⟩
 ·refine mt ?_
  simp[Go.Lib.bytesWorld,World.freeze,World.alloc,World.drew,-World.alloc_eq,-World.drew_eq]
 ·simp only[bn,bR,bm,rep]
  refine⟨_,_,_,rfl,by simp[hsz],by omega,hcm,?_⟩
  by_cases hz:(bsl s)=[]
  ·exact .inl (by simp[hz])
  ·refine .inr ⟨_,_,rfl,hnew _ (Nat.le_refl _),by rw[Go.Lib.bytesWorld_size]; omega,?_⟩
   have hcell:∀ j:Nat,j < s.size->(Go.Lib.bytesWorld w e s).cell? ⟨w.heap.size,j,none⟩=some (.int .u8 ((bsl s).getD j 0).toNat):=fun j hj=>by
    rw[Go.Lib.bytesWorld_cell w e s j hj]
    rfl
   have:∀ (l:List UInt8) (o:Nat),(∀ (j:Nat) (b:UInt8),l[j]?=some b->(Go.Lib.bytesWorld w e s).cell? ⟨w.heap.size,o+j,none⟩=some (.int .u8 b.toNat))->ca (Go.Lib.bytesWorld w e s) F 1 (l.map nI) w.heap.size o:=by
    intro l
    induction l with
    | nil=>intro o _; simp[ca]
    | cons b l ih =>
     intro o h
     simp only[List.map_cons,ca,nI,d6,List.length_cons,List.length_nil,Nat.zero_add,and_true,true_and]
     refine⟨⟨_,h 0 b rfl,by simp[rep]⟩,ih (o+1) fun j b' hj=>?_⟩
     have:=h (j+1) b' (by simpa using hj)
     rwa [show o+(j+1)=o+1+j from by omega] at this
   refine this (bsl s) 0 fun j b hj=>?_
   have hjl:j < s.size:=(List.getElem?_eq_some_iff.1 hj).1
   rw[Nat.zero_add,hcell j hjl]
   simp[List.getD_eq_getElem?_getD,hj]
theorem qstr_sound (ht:TbOk P tb) (hco:Core cx φ O w) {src dst:TypeId} {x v:V} {u:Value} (h:qstr tb O src dst x=some v) (hx:bn φ w (cx.fr φ O) x u):Yields P φ (cx.fr φ O) (convert src dst u) w v:=by
 unfold qstr at h
 split at h
 ·rename_i ts td hs hd
  have S:=ht.ty src ts hs
  have D:=ht.ty dst td hd
  split at h
  ·rename_i hds hdd
   split at h
   ·cases h
    simp only[bn,bR,bm,rep] at hx
    subst hx
    rename_i s
    refine Yields.here (u:=.string s) ?_ (by simp[bn,bR,bm,rep])
    unfold convert
    simp only[Sem.run_bind,S.run_und,D.run_und,Result.andThen_ok,hds,hdd]
    simp
   ·cases h
  ·rename_i e hds hdd
   split at h
   ·rename_i te hte
    have E:=ht.ty e te hte
    split at h
    ·rename_i rows hde hr
     cases hb:fA rows with
     | none=>rw[hb] at h; cases h
     | some ns =>
      rw[hb] at h
      cases h
      obtain⟨ao,n,c,rfl,hn,hcells⟩:=rowsV_sound hco hr hb hx
      exact Yields.here (run_toString S D E hds hdd hde hn hcells) (by simp[bn,bR,bm,rep])
    ·cases h
   ·cases h
  ·rename_i e hds hdd
   split at h
   ·rename_i te s hte
    have E:=ht.ty e te hte
    split at h
    ·rename_i hde
     split at h
     ·rename_i hl
      cases h
      simp only[bn,bR,bm,rep] at hx
      subst hx
      exact run_toBytes S D E hds hdd hde hco.new s hl
     ·cases h
    ·cases h
   ·cases h
  ·cases h
 ·cases h
theorem qcnv_sound (ht:TbOk P tb) (hco:Core cx φ O w) {src dst:TypeId} {x v:V} {u:Value} (h:qcnv tb O src dst x=some v) (hx:bn φ w (cx.fr φ O) x u):Yields P φ (cx.fr φ O) (convert src dst u) w v:=by
 unfold qcnv at h
 split at h
 ·rename_i v' hv
  cases h
  exact qconv_sound ht hv hx
 ·exact qstr_sound ht hco h hx
theorem qev_sound (ht:TbOk P tb) {o:Oper} {Z:Env} {v:V} (h:qev tb Z O o.op=some v):Quiet P cx o Z O (·=v):=by
 intro φ a w hco hop
 obtain⟨dst,op,type,pos,after,guard⟩:=o
 simp only at h hop
 cases op with
 | move x =>
  cases h
  exact⟨Blw.refl _ _,_,rfl,hop x (by simp[Op.operands])⟩
 | assign x =>
  cases h
  exact⟨Blw.refl _ _,_,rfl,hop x (by simp[Op.operands])⟩
 | pick c x y =>
  simp only[qev] at h
  unfold qpick at h
  have hc:=hop c (by simp[Op.operands])
  have hx:=hop x (by simp[Op.operands])
  have hy:=hop y (by simp[Op.operands])
  split at h
  ·rename_i t hct
   cases h
   rw[hct] at hc
   simp only[bn,bR,bm,rep] at hc
   have:=pickV_sound (t:=t) hx hy
   simp only[execOp,hc,asBool,Sem.run_bind,Sem.run_pure,Result.andThen_ok]
   exact⟨Blw.refl _ _,_,rfl,this⟩
  ·cases h
 | load t x=>exact QRes.of_yields (qload_sound ht hco h (hop x (by simp[Op.operands])))
 | fieldAddr t x k=>exact QRes.of_yields (qfield_sound ht h (hop x (by simp[Op.operands])))
 | field t x k=>exact QRes.of_yields (qfieldV_sound ht h (hop x (by simp[Op.operands])))
 | indexAddr t x i=>exact QRes.of_yields (qindex_sound ht hco h (hop x (by simp[Op.operands])) (hop i (by simp[Op.operands])))
 | slice t x lo hi mx =>
  refine QRes.of_yields (qslice_sound ht h (hop x (by simp[Op.operands])) ?_ ?_ ?_)
  ·cases lo with
   | none=>trivial
   | some l=>exact hop l (by simp[Op.operands])
  ·cases hi with
   | none=>trivial
   | some l=>exact hop l (by simp[Op.operands])
  ·cases mx with
   | none=>trivial
   | some l=>exact hop l (by simp[Op.operands])
 | binOp op t x y yt=>exact QRes.of_yields (qbinO_sound ht h (hop x (by simp[Op.operands])) (hop y (by simp[Op.operands])) fun c hc=>by subst hc; rfl)
 | unOp op t x=>exact QRes.of_yields (qun_sound h (hop x (by simp[Op.operands])))
 | convert src dst' x=>exact QRes.of_yields (qcnv_sound ht hco h (hop x (by simp[Op.operands])))
 | index t x i=>exact QRes.of_yields (qidxS_sound ht h (hop x (by simp[Op.operands])) (hop i (by simp[Op.operands])))
 | nilCheck x =>
  obtain⟨h1,ad,he⟩:=qnil_sound (show qnil (oev Z x)=some v from h) (hop x (by simp[Op.operands]))
  refine (show QRes P φ (cx.fr φ O) w (·=v) _ from ?_)
  simp only[execOp,he,Sem.run_pure]
  rw[he] at h1
  exact⟨Blw.refl _ _,_,rfl,h1⟩
 | build t parts =>
  have h':qbuild tb t (parts.toList.map fun p=>(p.1,oev Z p.2))=some v:=h
  have hl':(parts.toList.map fun p=>(p.1,oev Z p.2)).length=(parts.toList.map fun p=>(p.1,a.eval p.2)).length:=by rw[List.length_map,List.length_map]
  have:=qbuild_sound (φ:=φ) (w:=w) (F:=cx.fr φ O) ht h' (vals:=parts.toList.map fun p=>(p.1,a.eval p.2)) hl' (parts_sim fun x hx=>hop x (by simpa [Op.operands] using hx))
  have e:(parts.toList.map fun p=>(p.1,a.eval p.2)).toArray=parts.map fun p=>(p.1,a.eval p.2):=by rw[<- Array.toList_map,Array.toArray_toList]
  rw[e] at this
  exact QRes.of_yields this
 | buildSlice t n parts =>
  have h':iD tb t n (parts.toList.map fun p=>(p.1,oev Z p.2))=some v:=h
  have hl':(parts.toList.map fun p=>(p.1,oev Z p.2)).length=(parts.toList.map fun p=>(p.1,a.eval p.2)).length:=by rw[List.length_map,List.length_map]
  have:=qbuildSlice_sound (φ:=φ) (w:=w) (F:=cx.fr φ O) ht hco.new maxLen_big h' (vals:=parts.toList.map fun p=>(p.1,a.eval p.2)) hl' (parts_sim fun x hx=>hop x (by simpa [Op.operands] using hx))
  have e:(parts.toList.map fun p=>(p.1,a.eval p.2)).toArray=parts.map fun p=>(p.1,a.eval p.2):=by rw[<- Array.toList_map,Array.toArray_toList]
  rw[e] at this
  exact QRes.of_yields this
 | extract x i=>exact QRes.of_yields (qextract_sound h (hop x (by simp[Op.operands])))
 | lookup t m k ok=>exact QRes.of_yields (qlookup_sound ht hco h (hop m (by simp[Op.operands])) (hop k (by simp[Op.operands])))
 | makeFunc fn first caps =>
  cases fn with
  | func f =>
   simp only[qev] at h
   split at h
   ·rename_i hf
    have hf':first=#[]:=by simpa using hf
    subst hf'
    cases hc:pO (caps.toList.map (oev Z)) with
    | none=>rw[hc] at h; cases h
    | some cs =>
     rw[hc] at h
     cases h
     have hcs:bg φ w (cx.fr φ O) cs (caps.map a.eval).toList:=cdatasC_sound hc (by simp) fun j v u hv hu=>by
      rw[List.getElem?_map] at hv
      simp only[Array.toList_map,List.getElem?_map] at hu
      cases hx:caps.toList[j]? with
      | none=>rw[hx] at hv; cases hv
      | some x =>
       rw[hx] at hv hu
       cases hv; cases hu
       exact hop x (by simpa [Op.operands] using List.mem_of_getElem? hx)
     exact⟨Blw.refl _ _,_,rfl,caps.map a.eval,by simp,hcs⟩
   ·cases h
  | _=>cases h
 | call c =>
  obtain⟨callee,args,ts⟩:=c
  simp only[qev] at h
  split at h
  ·rename_i hargs hts
   obtain⟨args⟩:=args
   obtain⟨ts⟩:=ts
   simp only at hargs hts
   subst hargs hts
   have:=qlenB_sound (ty:=type) ht hco h (hop _ (by simp[Op.operands,Call.operands]))
   obtain⟨u,w',hr,hb,hv⟩:=this
   simp only[execOp,resolve,invoke,builtin,Sem.run_bind,Sem.run_pure,Result.andThen_ok,List.map_toArray,List.map_cons,List.map_nil,hr]
   exact⟨hb,_,rfl,hv⟩
  ·rename_i hargs
   obtain⟨args⟩:=args
   simp only at hargs
   subst hargs
   rename_i x0 r0
   have:=qmaxs_sound (P:=P) (us:=r0.map a.eval) h (hop _ (by simp[Op.operands,Call.operands])) (by simp) (fun i y q hy hq=>by
    rw[List.getElem?_map] at hy hq
    cases hr:r0[i]? with
    | none=>rw[hr] at hy; cases hy
    | some o=>rw[hr] at hy hq; cases hy; cases hq; exact hop o (by simp[Op.operands,Call.operands,List.mem_of_getElem? hr]))
   obtain⟨u,w',hr,hb,hv⟩:=this
   simp only[execOp,resolve,invoke,builtin,Builtin.max_,Sem.run_bind,Sem.run_pure,Result.andThen_ok,List.map_toArray,List.map_cons,hr]
   exact⟨hb,_,rfl,hv⟩
  ·rename_i hargs
   obtain⟨args⟩:=args
   simp only at hargs
   subst hargs
   rename_i x0 r0
   have:=qmins_sound (P:=P) (us:=r0.map a.eval) h (hop _ (by simp[Op.operands,Call.operands])) (by simp) (fun i y q hy hq=>by
    rw[List.getElem?_map] at hy hq
    cases hr:r0[i]? with
    | none=>rw[hr] at hy; cases hy
    | some o=>rw[hr] at hy hq; cases hy; cases hq; exact hop o (by simp[Op.operands,Call.operands,List.mem_of_getElem? hr]))
   obtain⟨u,w',hr,hb,hv⟩:=this
   simp only[execOp,resolve,invoke,builtin,Builtin.min_,Sem.run_bind,Sem.run_pure,Result.andThen_ok,List.map_toArray,List.map_cons,hr]
   exact⟨hb,_,rfl,hv⟩
  ·cases h
 | _=>cases h
end
end Go.AM
namespace Go.AM
open Go.RowKit
def NE.wipe (d:Nat):NE->NE
 | .own t=>if t=d then .dead else .own t
 | x=>x
def NE.ren (f:Nat->Nat):NE->NE
 | .own t=>.own (f t)
 | x=>x
theorem NE.wipe_comm {d e:Nat} (x:NE):(x.wipe d).wipe e=(x.wipe e).wipe d:=by
 cases x with
 | own t=>grind [NE.wipe]
 | _=>rfl
theorem NE.wipe_idem {d:Nat} (x:NE):(x.wipe d).wipe d=x.wipe d:=by
 cases x with
 | own t=>grind [NE.wipe]
 | _=>rfl
def NE.closed:NE->Bool
 | .own _=>false
 | _=>true
def Ob.wipe (d:Nat):Ob->Option Ob
 | .box cs=>some (.box (cs.map (C.wipe d)))
 | .row sz e rows=>some (.row sz e rows)
 | .map kk es=>some (.map kk (es.map fun x=>(x.1,x.2.wipe d)))
 | .iter m left last=>if m=d then none else some (.iter m (left.map fun x=>(x.1,x.2.wipe d)) (last.map fun x=>(x.1,x.2.wipe d)))
 | .nest e ie sz els=>some (.nest e ie sz (els.map (NE.wipe d)))
def dp (d:Nat) (Z:Env):Env:=fun t=>(Z t).wipe d
def cj (d:Nat) (O:Sto):Sto:=fun s=>(O s).bind (Ob.wipe d)
def drop (so:Option Nat) (O:Sto):Sto:=fun t=>if so=some t then none else O t
def jW (s:Nat) (O:Sto):Sto:=fun t=>match O t with
 | some (.iter m left last)=>if m=s then none else some (.iter m left last)
 | o=>o
section
variable {φ ψ:Nat->Value} {w w':World} {F F':Nat->Prop} {s d:Nat} {O:Sto} {cx:Cx}
theorem pR (h:∀ t,t≠d->ψ t=φ t):∀ {es:List (Key×U)} {l:List MapEntry},eH φ w F es l->eH ψ w F (es.map fun x=>(x.1,x.2.wipe d)) l
 | [],_,hs=>hs
 | x::es,l,hs=>by
  obtain⟨e,r,rfl,h1,h2,h3⟩:=hs
  exact⟨e,r,rfl,h1,usim_wipe h _ _ h2,pR h h3⟩
theorem nH {v:Value} {sz:Nat} {e:TypeId} {rows:List (List L)} (ho:rowv φ w F v sz e rows):rowv ψ w F v sz e rows:=by
 obtain⟨h1,h2⟩:=ho
 refine⟨h1,?_⟩
 rcases h2 with h2 | ⟨b,cap,cur,h0,hp,hl,hm,hh,hs,hc⟩
 ·exact .inl h2
 ·exact .inr ⟨b,cap,cur,h0,hp,hl,hm,hh,hs,csims_phi hc⟩
theorem qh {ie:TypeId} {sz:Nat} (h:∀ t,t≠d->ψ t=φ t):∀ {els:List NE} {cs ivs:List Value},lu φ w F ie sz els cs ivs->lu ψ w F ie sz (els.map (NE.wipe d)) cs ivs
 | [],_,_,hn=>hn
 | x::els,cs,ivs,hn=>by
  obtain⟨c,cs',iv,ivs',rfl,rfl,h1,h2⟩:=hn
  refine⟨c,cs',iv,ivs',rfl,rfl,?_,qh h h2⟩
  cases x with
  | rows r=>exact⟨h1.1,nH h1.2⟩
  | own t =>
   simp only[NE.wipe]
   split
   ·exact⟨h1.2.1,h1.2.2⟩
   ·rename_i ht
    exact⟨by rw[h t ht]; exact h1.1,h1.2⟩
  | dead=>exact h1
theorem nsims_ren {ie:TypeId} {sz:Nat} {f:Nat->Nat}:∀ {els:List NE} {cs ivs:List Value},lu φ w F ie sz (els.map (NE.ren f)) cs ivs↔lu (fun t=>φ (f t)) w F ie sz els cs ivs
 | [],_,_=>Iff.rfl
 | x::els,cs,ivs=>by
  refine exists_congr fun c=>exists_congr fun cs'=>exists_congr fun iv=>exists_congr fun ivs'=>and_congr Iff.rfl (and_congr Iff.rfl (and_congr ?_ nsims_ren))
  cases x with
  | rows r=>exact and_congr Iff.rfl ⟨nH,nH⟩
  | own t=>exact Iff.rfl
  | dead=>exact Iff.rfl
theorem closed_ren {f:Nat->Nat}:∀ {els:List NE},els.all NE.closed=true->els.map (NE.ren f)=els
 | [],_=>rfl
 | x::els,h=>by
  simp only[List.all_cons,Bool.and_eq_true] at h
  rw[List.map_cons,closed_ren h.2]
  cases x with
  | own t=>cases h.1
  | _=>rfl
theorem closed_wipe {d:Nat}:∀ {els:List NE},els.all NE.closed=true->els.map (NE.wipe d)=els
 | [],_=>rfl
 | x::els,h=>by
  simp only[List.all_cons,Bool.and_eq_true] at h
  rw[List.map_cons,closed_wipe h.2]
  cases x with
  | own t=>cases h.1
  | _=>rfl
theorem nsims_closed {ie:TypeId} {sz:Nat}:∀ {els:List NE} {cs ivs:List Value},els.all NE.closed=true->lu φ w F ie sz els cs ivs->lu ψ w F ie sz els cs ivs
 | [],_,_,_,hn=>hn
 | x::els,cs,ivs,hc,hn=>by
  simp only[List.all_cons,Bool.and_eq_true] at hc
  obtain⟨c,cs',iv,ivs',rfl,rfl,h1,h2⟩:=hn
  refine⟨c,cs',iv,ivs',rfl,rfl,?_,nsims_closed hc.2 h2⟩
  cases x with
  | rows r=>exact⟨h1.1,nH h1.2⟩
  | own t=>cases hc.1
  | dead=>exact h1
theorem pj (h:∀ t,t≠d->ψ t=φ t) {t:Nat} (htd:t≠d) {o o':Ob} (ho:jM φ w F t o) (hw:o.wipe d=some o'):jM ψ w F t o':=by
 cases o with
 | box cs =>
  cases hw
  obtain⟨b,arr,ty,hp,hh,hc,h1⟩:=ho
  exact⟨b,arr,ty,(h t htd).trans hp,hh,nE h _ _ hc,h1⟩
 | row sz e rows =>
  cases hw
  obtain⟨h1,h2⟩:=ho
  refine⟨h1,?_⟩
  rw[h t htd]
  rcases h2 with h2 | ⟨b,cap,cur,h0,hp,hl,hm,hh,hs,hc⟩
  ·exact .inl h2
  ·refine .inr ⟨b,cap,cur,h0,hp,hl,hm,hh,hs,?_⟩
   have:=nE h _ _ hc
   rwa [List.map_map] at this
 | map kk es =>
  cases hw
  obtain⟨b,ents,clk,hp,hh,hc,h1,h2,h3,h4⟩:=ho
  refine⟨b,ents,clk,(h t htd).trans hp,hh,pR h hc,h1,h2,?_,?_⟩
  ·grind
  grind
 | iter m left last =>
  simp only[Ob.wipe] at hw
  split at hw
  ·cases hw
  ·rename_i hmd
   cases hw
   obtain⟨b,c,ents,clk,seen,hp,hq,hh,hh',hc,h1,h2,h3⟩:=ho
   refine⟨b,c,ents,clk,seen,(h t htd).trans hp,(h m hmd).trans hq,hh,hh',pR h hc,h1,h2,fun x hx=>?_⟩
   cases last with
   | none=>cases hx
   | some y =>
    cases hx
    obtain⟨e,a1,a2,a3,a4⟩:=h3 y rfl
    grind [usim_wipe]
 | nest e ie sz els =>
  cases hw
  obtain⟨out,ivs,cs,h1,h2,h3,h4⟩:=ho
  exact⟨out,ivs,cs,(h t htd).trans h1,by rw[h t htd]; exact h2,by rw[List.length_map]; exact h3,qh h h4⟩
theorem Core.replace (h:Core cx φ O w) (hd:d < inBase) {so:Option Nat} (hs:∀ s o,so=some s->O s=some o->∀ kk es,o≠.map kk es) {hv:Value} {ob:Ob}
  (hos:w'.os=w.os) (htape:w'.tape=w.tape) (hout:w'.output=w.output) (hdr:drn w<=drn w') (hsize:w.heap.size<=w'.heap.size)
  (hblock:∀ b,b < w.heap.size->(∀ s o,so=some s->O s=some o->¬ hbl (φ s) b)->w'.heap[b]?=w.heap[b]?)
  (hnew:∀ b,hbl hv b->(w.heap.size<=b \/ ∃ s o,so=some s/\O s=some o/\hbl (φ s) b)/\b < w'.heap.size)
  (hit:∀ m left last,ob=.iter m left last->m≠d/\so≠some m/\∃ kk es,O m=some (.map kk es))
  (hob:Keep (cx.fr φ O) (cx.fr (upd φ d hv) (upd (cj d (drop so O)) d (some ob))) w w'->jM (upd φ d hv) w' (cx.fr (upd φ d hv) (upd (cj d (drop so O)) d (some ob))) d ob) :
  Core cx (upd φ d hv) (upd (cj d (drop so O)) d (some ob)) w'/\Keep (cx.fr φ O) (cx.fr (upd φ d hv) (upd (cj d (drop so O)) d (some ob))) w w' /\
   ∀ v u,bn φ w (cx.fr φ O) v u->bn (upd φ d hv) w' (cx.fr (upd φ d hv) (upd (cj d (drop so O)) d (some ob))) (v.wipe d) u:=by
 have hφ:∀ t,t≠d->upd φ d hv t=φ t:=fun t ht=>bj _ _ ht
 have hσ:∀ t o',t≠d->upd (cj d (drop so O)) d (some ob) t=some o'->∃ o,O t=some o/\so≠some t/\o.wipe d=some o':=by
  intro t o' ht ho
  rw[bj _ _ ht] at ho
  simp only[cj,drop] at ho
  split at ho
  ·cases ho
  ·rename_i hts
   cases hst:O t with
   | none=>simp_all
   | some o=>simp_all
 have hk:Keep (cx.fr φ O) (cx.fr (upd φ d hv) (upd (cj d (drop so O)) d (some ob))) w w':=by
  refine⟨hsize,fun b hb hl=>hblock b hl fun s o _ ho he=>hb.2 ⟨s,o,ho,he⟩,fun b hb hl=>⟨hb.1,?_⟩⟩
  rintro⟨t,o',ho,he⟩
  by_cases htd:t=d
  ·subst htd
   rw[upd_same] at he
   rcases (hnew b he).1 with h1 | ⟨s,o,_,h1,h2⟩
   ·omega
   ·exact hb.2 ⟨s,o,h1,h2⟩
  ·obtain⟨o,h1,_,_⟩:=hσ t o' htd ho
   rw[hφ t htd] at he
   exact hb.2 ⟨t,o,h1,he⟩
 have hkeepb:∀ t o b,so≠some t->O t=some o->hbl (φ t) b->w'.heap[b]?=w.heap[b]?:=fun t o b hts ho hb =>
  hblock b (h.own t o b ho hb).2 fun s o' hs' ho' he=>hts (by rw[h.disj t s o o' b ho ho' hb he]; exact hs')
 refine⟨⟨hos.trans h.os,htape.trans h.tape,hout.trans h.output,Nat.le_trans h.drawn hdr,Nat.le_trans h.size hsize,?_,?_,?_,?_,?_,?_⟩,hk,fun v u hvu=>nn hφ v u (el hk v u hvu)⟩
 ·intro b hb hn
  rw[hblock b (Nat.lt_of_lt_of_le hb h.size) fun s o _ ho he=>?_]
  ·exact h.block b hb hn
  ·rcases (h.own s o b ho he).1 with h1 | h1
   ·omega
   ·exact hn h1
 ·intro t o' ho
  by_cases htd:t=d
  ·simp_all [upd_same]
  ·obtain⟨o,h1,hts,h2⟩:=hσ t o' htd ho
   refine pj hφ htd (eu hk (h.objs t o h1) (fun b hb=>hkeepb t o b hts h1 hb) fun m left last b hoi hb=>?_) h2
   subst hoi
   obtain⟨kk,es,hm⟩:=h.itm t m left last h1
   grind
 ·intro t o' b ho hb
  by_cases htd:t=d
  ·subst htd
   rw[upd_same] at hb
   obtain⟨h1,h2⟩:=hnew b hb
   refine⟨?_,h2⟩
   rcases h1 with h1 | ⟨s,o,_,h1,h3⟩
   ·exact .inl (Nat.le_trans h.size h1)
   ·exact (h.own s o b h1 h3).1
  ·obtain⟨o,h1,_,_⟩:=hσ t o' htd ho
   rw[hφ t htd] at hb
   exact⟨(h.own t o b h1 hb).1,Nat.lt_of_lt_of_le (h.own t o b h1 hb).2 hsize⟩
 ·intro t t' o o' b ho ho' hb hb'
  by_cases htd:t=d<;>by_cases htd':t'=d
  ·rw[htd,htd']
  ·subst htd
   obtain⟨o1,h1,hts,_⟩:=hσ t' o' htd' ho'
   rw[hφ t' htd'] at hb'
   rw[upd_same] at hb
   rcases (hnew b hb).1 with h2 | ⟨s,o2,hs',h2,h3⟩
   ·grind
   ·exact absurd (by rw[h.disj t' s o1 o2 b h1 h2 hb' h3]; exact hs') hts
  ·subst htd'
   obtain⟨o1,h1,hts,_⟩:=hσ t o htd ho
   rw[hφ t htd] at hb
   rw[upd_same] at hb'
   rcases (hnew b hb').1 with h2 | ⟨s,o2,hs',h2,h3⟩
   ·grind
   ·exact absurd (by rw[h.disj t s o1 o2 b h1 h2 hb h3]; exact hs') hts
  ·obtain⟨o1,h1,_,_⟩:=hσ t o htd ho
   obtain⟨o2,h2,_,_⟩:=hσ t' o' htd' ho'
   rw[hφ t htd] at hb
   rw[hφ t' htd'] at hb'
   exact h.disj t t' o1 o2 b h1 h2 hb hb'
 ·intro i hi hk
  rw[hφ i (by omega)]
  exact h.inp i hi hk
 ·intro t m left last ho
  have hmap:∀ m kk es,m≠d->so≠some m->O m=some (.map kk es)->∃ kk es,upd (cj d (drop so O)) d (some ob) m=some (.map kk es):=by
   intro m kk es hmd hms hm
   rw[bj _ _ hmd]
   simp only[cj,drop,if_neg hms,hm,Option.bind_some,Ob.wipe]
   simp
  by_cases htd:t=d
  ·subst htd
   rw[upd_same] at ho
   grind
  ·obtain⟨o,h1,hts,h2⟩:=hσ t _ htd ho
   cases o with
   | iter m' left' last' =>
    simp only[Ob.wipe] at h2
    split at h2
    ·cases h2
    ·rename_i hmd
     cases h2
     obtain⟨kk,es,hm⟩:=h.itm t _ _ _ h1
     grind
   | _=>simp[Ob.wipe] at h2
theorem Core.mutate (h:Core cx φ O w) {ob ob':Ob} (hs:O s=some ob) {σ1:Sto} (h1:∀ t o,t≠s->σ1 t=some o->O t=some o) (h2:∀ t m left last,t≠s->σ1 t=some (.iter m left last)->m≠s)
  (h3:∀ m kk es,O m=some (.map kk es)->m≠s->σ1 m=some (.map kk es)) (h4:∀ m left last,ob'=.iter m left last->∃ kk es,m≠s/\O m=some (.map kk es))
  (hos:w'.os=w.os) (htape:w'.tape=w.tape) (hout:w'.output=w.output) (hdr:drn w<=drn w') (hsize:w.heap.size<=w'.heap.size)
  (hblock:∀ b,b < w.heap.size->¬ hbl (φ s) b->w'.heap[b]?=w.heap[b]?)
  (hob:Keep (cx.fr φ O) (cx.fr φ (upd σ1 s (some ob'))) w w'->jM φ w' (cx.fr φ (upd σ1 s (some ob'))) s ob') :
  Core cx φ (upd σ1 s (some ob')) w'/\Keep (cx.fr φ O) (cx.fr φ (upd σ1 s (some ob'))) w w':=by
 have hσ:∀ t o,upd σ1 s (some ob') t=some o->∃ o',O t=some o'/\(t≠s->o'=o):=by
  intro t o ho
  by_cases hts:t=s
  ·simp_all
  ·rw[bj _ _ hts] at ho
   simp_all
 have hk:Keep (cx.fr φ O) (cx.fr φ (upd σ1 s (some ob'))) w w':=by
  refine⟨hsize,fun b hb hl=>hblock b hl fun he=>hb.2 ⟨s,ob,hs,he⟩,fun b hb hl=>⟨hb.1,?_⟩⟩
  rintro⟨t,o,ho,he⟩
  obtain⟨o',h5,_⟩:=hσ t o ho
  exact hb.2 ⟨t,o',h5,he⟩
 have hkeepb:∀ t o b,t≠s->O t=some o->hbl (φ t) b->w'.heap[b]?=w.heap[b]?:=fun t o b hts ho hb =>
  hblock b (h.own t o b ho hb).2 fun he=>hts (h.disj t s o ob b ho hs hb he)
 refine⟨⟨hos.trans h.os,htape.trans h.tape,hout.trans h.output,Nat.le_trans h.drawn hdr,Nat.le_trans h.size hsize,?_,?_,?_,?_,h.inp,?_⟩,hk⟩
 ·intro b hb hn
  rw[hblock b (Nat.lt_of_lt_of_le hb h.size) fun he=>?_]
  ·exact h.block b hb hn
  ·rcases (h.own s ob b hs he).1 with h6 | h6
   ·omega
   ·exact hn h6
 ·intro t o ho
  by_cases hts:t=s
  ·simp_all [upd_same]
  ·rw[bj _ _ hts] at ho
   have h5:=h1 t o hts ho
   refine eu hk (h.objs t o h5) (fun b hb=>hkeepb t o b hts h5 hb) fun m left last b hoi hb=>?_
   subst hoi
   obtain⟨kk,es,hm⟩:=h.itm t m left last h5
   grind
 ·intro t o b ho hb
  obtain⟨o',h5,_⟩:=hσ t o ho
  exact⟨(h.own t o' b h5 hb).1,Nat.lt_of_lt_of_le (h.own t o' b h5 hb).2 hsize⟩
 ·intro t t' o o' b ho ho' hb hb'
  obtain⟨o1,h5,_⟩:=hσ t o ho
  obtain⟨o2,h6,_⟩:=hσ t' o' ho'
  exact h.disj t t' o1 o2 b h5 h6 hb hb'
 ·intro t m left last ho
  have hm:∃ kk es,m≠s/\O m=some (.map kk es):=by
   by_cases hts:t=s
   ·subst hts
    rw[upd_same] at ho
    simp_all
   ·rw[bj _ _ hts] at ho
    obtain⟨kk,es,hm⟩:=h.itm t m left last (h1 t _ hts ho)
    grind
  grind [bj]
end
end Go.AM
namespace Go.AM
open Go.RowKit
theorem iV {α:Type}:∀ {l:List α} {i:Nat} {x:α},l[i]?=some x->l.set i x=l
 | [],i,_,h=>by simp at h
 | y::l,0,x,h=>by simp_all
 | y::l,i+1,x,h=>by simp at h; rw[List.set_cons_succ,iV (by simpa using h)]
structure HQ (φ ψ:Nat->Value):Prop where
 hd:∀ t,hdv (ψ t)=hdv (φ t)
 ptr:∀ t a,φ t=.pointer a->ψ t=.pointer a
 mp:∀ t r,φ t=.map r->ψ t=.map r
theorem HQ.of {φ ψ:Nat->Value} (h:∀ t,veq (φ t) (ψ t)):HQ φ ψ:=⟨fun t=>(h t).hd,fun t a e=>by rw[(h t).eq (by rw[e]; simp),e],fun t r e=>by rw[(h t).eq (by rw[e]; simp),e]⟩
section
variable {φ ψ:Nat->Value} {w w':World} {F F':Nat->Prop} {s d:Nat} {O:Sto} {cx:Cx}
mutual
theorem csim_veq (h:HQ φ ψ):∀ (c:C) (v:Value),bm φ w F c v->bm ψ w F c v
 | .top,v,_=>by simp[bm]
 | .d x,v,hv=>by simpa [bm] using hv
 | .ref xs off,v,hv=>by simpa [bm] using hv
 | .box t off,v,hv=>by
  simp only[bm] at hv ⊢
  obtain⟨b,hp,rfl⟩:=hv
  exact⟨b,by exact h.ptr t _ hp,rfl⟩
 | .own t,v,hv=>by simp only[bm] at hv ⊢; rw[h.hd t]; exact hv
 | .elt t i z off,v,hv=>by simp only[bm] at hv ⊢; rw[h.hd t]; exact hv
 | .map t,v,hv=>by simp only[bm] at hv ⊢; rw[h.hd t]; exact hv
 | .nilmap,v,hv=>by simpa [bm] using hv
 | .iter t,v,hv=>by simp only[bm] at hv ⊢; rw[h.hd t]; exact hv
 | .fn f caps,v,hv=>by
  simp only[bm] at hv ⊢
  obtain⟨arr,rfl,hc⟩:=hv
  exact⟨arr,rfl,csims_veq h caps _ hc⟩
theorem csims_veq (h:HQ φ ψ):∀ (cs:List C) (vs:List Value),bg φ w F cs vs->bg ψ w F cs vs
 | [],vs,hv=>by simpa [bg] using hv
 | c::cs,vs,hv=>by
  simp only[bg] at hv ⊢
  obtain⟨v,r,rfl,hc,hcs⟩:=hv
  exact⟨v,r,rfl,csim_veq h c v hc,csims_veq h cs r hcs⟩
end
theorem usim_veq (h:HQ φ ψ) (x:U) (v:Value) (hv:bR φ w F x v):bR ψ w F x v:=by
 cases x with
 | one c=>exact csim_veq h c v hv
 | agg cs=>obtain⟨arr,rfl,hc⟩:=hv; exact⟨arr,rfl,csims_veq h cs _ hc⟩
theorem usims_veq (h:HQ φ ψ):∀ (us:List U) (vs:List Value),gh φ w F us vs->gh ψ w F us vs
 | [],_,hv=>hv
 | x::us,vs,hv=>by
  obtain⟨v,r,rfl,hc,hcs⟩:=hv
  exact⟨v,r,rfl,usim_veq h x v hc,usims_veq h us r hcs⟩
theorem vsim_veq (h:HQ φ ψ) (x:V) (v:Value) (hv:bn φ w F x v):bn ψ w F x v:=by
 cases x with
 | u x=>exact usim_veq h x v hv
 | tup us=>obtain⟨arr,rfl,hc⟩:=hv; exact⟨arr,rfl,usims_veq h us _ hc⟩
theorem esims_veq (h:HQ φ ψ):∀ {es:List (Key×U)} {l:List MapEntry},eH φ w F es l->eH ψ w F es l
 | [],_,hs=>hs
 | x::es,l,hs=>by
  obtain⟨e,r,rfl,h1,h2,h3⟩:=hs
  exact⟨e,r,rfl,h1,usim_veq h _ _ h2,esims_veq h h3⟩
theorem p8 {ie:TypeId} {sz:Nat} (h:∀ t,hdv (ψ t)=hdv (φ t)):∀ {els:List NE} {cs ivs:List Value},lu φ w F ie sz els cs ivs->lu ψ w F ie sz els cs ivs
 | [],_,_,hn=>hn
 | x::els,cs,ivs,hn=>by
  obtain⟨c,cs',iv,ivs',rfl,rfl,h1,h2⟩:=hn
  refine⟨c,cs',iv,ivs',rfl,rfl,?_,p8 h h2⟩
  cases x with
  | rows r=>exact⟨h1.1,nH h1.2⟩
  | own t=>exact⟨by rw[h t]; exact h1.1,h1.2⟩
  | dead=>exact h1
theorem osim_veq (h:HQ φ ψ) {o:Ob} (hs:ψ s=φ s) (ho:jM φ w F s o):jM ψ w F s o:=by
 cases o with
 | box cs =>
  obtain⟨b,arr,t,h1,h2,h3,h4⟩:=ho
  exact⟨b,arr,t,hs.trans h1,h2,csims_veq h cs _ h3,h4⟩
 | row sz e rows =>
  obtain⟨h1,h2⟩:=ho
  refine⟨h1,?_⟩
  rw[hs]
  rcases h2 with h2 | ⟨b,cap,cur,h0,hp,hl,hm,hh,hz,hc⟩
  ·exact .inl h2
  ·exact .inr ⟨b,cap,cur,h0,hp,hl,hm,hh,hz,csims_phi hc⟩
 | map kk es =>
  obtain⟨b,ents,clk,hp,hh,hc,h1⟩:=ho
  exact⟨b,ents,clk,hs.trans hp,hh,esims_veq h hc,h1⟩
 | iter m left last =>
  obtain⟨b,c,ents,clk,seen,hp,hq,hh,hh',hc,h1,h2,h3⟩:=ho
  exact⟨b,c,ents,clk,seen,hs.trans hp,h.mp m _ hq,hh,hh',esims_veq h hc,h1,h2,
   fun x hx=>let ⟨e,a1,a2,a3,a4⟩:=h3 x hx; ⟨e,a1,a2,a3,usim_veq h _ _ a4⟩⟩
 | nest e ie sz els =>
  obtain⟨out,ivs,cs,h1,h2,h3,h4⟩:=ho
  exact⟨out,ivs,cs,hs.trans h1,by rw[hs]; exact h2,h3,p8 h.hd h4⟩
theorem hblk_undef:iw undef=none:=rfl
theorem fm_sub:∀ (ivs:List Value) (i:Nat),((ivs.set i undef).filterMap iw).Sublist (ivs.filterMap iw)
 | [],_=>List.Sublist.refl _
 | x::ivs,0=>by
  rw[List.set_cons_zero,List.filterMap_cons,hblk_undef,List.filterMap_cons]
  cases iw x with
  | none=>exact List.Sublist.refl _
  | some b=>exact List.sublist_cons_self _ _
 | x::ivs,i+1=>by
  rw[List.set_cons_succ,List.filterMap_cons,List.filterMap_cons]
  cases iw x with
  | none=>exact fm_sub ivs i
  | some b=>exact (fm_sub ivs i).cons_cons b
theorem fm_not:∀ {ivs:List Value} {i:Nat} {iv:Value} {b:Nat},ivs[i]?=some iv->iw iv=some b->(ivs.filterMap iw).Nodup->b ∉ (ivs.set i undef).filterMap iw
 | [],_,_,_,h,_,_=>by simp at h
 | x::ivs,0,iv,b,h,hb,hn=>by
  simp only[List.getElem?_cons_zero,Option.some.injEq] at h
  subst h
  rw[List.filterMap_cons,hb,List.nodup_cons] at hn
  rw[List.set_cons_zero,List.filterMap_cons,hblk_undef]
  exact hn.1
 | x::ivs,i+1,iv,b,h,hb,hn=>by
  rw[List.getElem?_cons_succ] at h
  rw[List.set_cons_succ,List.filterMap_cons]
  rw[List.filterMap_cons] at hn
  cases hx:iw x with
  | none=>rw[hx] at hn; exact fm_not h hb hn
  | some b' =>
   rw[hx,List.nodup_cons] at hn
   rw[List.mem_cons,not_or]
   refine⟨fun e=>hn.1 ?_,fm_not h hb hn.2⟩
   rw[<- e]
   exact List.mem_filterMap.2 ⟨iv,List.mem_of_getElem? h,hb⟩
theorem fm_add:∀ {ivs:List Value} {i:Nat} {v:Value},ivs[i]?=some undef->(ivs.filterMap iw).Nodup->(∀ b,iw v=some b->b ∉ ivs.filterMap iw)->((ivs.set i v).filterMap iw).Nodup
 | [],_,_,h,_,_=>by simp at h
 | x::ivs,0,v,h,hn,hv=>by
  simp only[List.getElem?_cons_zero,Option.some.injEq] at h
  subst h
  rw[List.filterMap_cons,hblk_undef] at hn hv
  rw[List.set_cons_zero,List.filterMap_cons]
  cases hb:iw v with
  | none=>exact hn
  | some b=>exact List.nodup_cons.2 ⟨hv b hb,hn⟩
 | x::ivs,i+1,v,h,hn,hv=>by
  rw[List.getElem?_cons_succ] at h
  rw[List.set_cons_succ,List.filterMap_cons]
  rw[List.filterMap_cons] at hn hv
  cases hx:iw x with
  | none=>rw[hx] at hn hv; exact fm_add h hn hv
  | some b' =>
   rw[hx] at hv
   rw[hx,List.nodup_cons] at hn
   refine List.nodup_cons.2 ⟨fun hm=>?_,fm_add h hn.2 fun b hb hm=>hv b hb (List.mem_cons_of_mem _ hm)⟩
   obtain⟨y,hy,hyb⟩:=List.mem_filterMap.1 hm
   rcases List.mem_or_eq_of_mem_set hy with hy | rfl
   ·exact hn.1 (List.mem_filterMap.2 ⟨y,hy,hyb⟩)
   ·exact hv b' hyb (by simp)
theorem iI (out:Value) (ivs:List Value):blks (.tuple (out::ivs).toArray)=(out::ivs).filterMap iw:=by simp[blks]
theorem pM {out:Value} {ivs:List Value} {b:Nat}:hbl (.tuple (out::ivs).toArray) b↔b∈(out::ivs).filterMap iw:=by unfold hbl; rw[iI]
theorem rowv_slice {v:Value} {sz:Nat} {e:TypeId} {rows:List (List L)} (h:rowv φ w F v sz e rows):v.oneCell'=true/\hdv v=v/\∀ b,hbl v b↔iw v=some b:=by
 obtain⟨_,h⟩:=h
 rcases h with ⟨_,a,rfl⟩ | ⟨b,cap,cur,_,rfl,_⟩
 ·refine⟨rfl,rfl,fun b=>?_⟩
  rw[hbl_slice0]
  cases a<;>simp[iw]
 ·refine⟨rfl,rfl,fun b'=>?_⟩
  rw[hbl_slice]
  simp only[iw]
  split
  ·simp_all
  ·simp_all [eq_comm]
def fcS (s d i:Nat) (e ie:TypeId) (sz:Nat) (els:List NE) (r:List (List L)) (O:Sto):Sto:=upd (upd (cj d O) s (some (.nest e ie sz ((els.map (NE.wipe d)).set i (.own d))))) d (some (.row sz ie r))
theorem Core.focus (h:Core cx φ O w) {e ie:TypeId} {sz i:Nat} {els:List NE} {r:List (List L)} (hs:O s=some (.nest e ie sz els)) (hi:els[i]?=some (.rows r)) (hd:d < inBase) (hsd:s≠d) :
  ∃ φ' iv out ivs cs,φ s=.tuple (out::ivs).toArray/\spine w e els.length out cs/\cs[i]?=some iv/\φ' d=iv/\iv.oneCell'=true/\hdv iv=iv/\(∀ t,t≠d->veq (φ t) (φ' t)) /\
   Core cx φ' (fcS s d i e ie sz els r O) w/\Keep (cx.fr φ O) (cx.fr φ' (fcS s d i e ie sz els r O)) w w/\∀ v u,bn φ w (cx.fr φ O) v u->bn φ' w (cx.fr φ' (fcS s d i e ie sz els r O)) (v.wipe d) u:=by
 obtain⟨out,ivs,cs,hp,hnd,hsp,hn⟩:=h.objs s _ hs
 obtain⟨c,iv,hc,hiv,rfl,hrow⟩:=pu hn hi
 obtain⟨hone,hhd,hbiv⟩:=rowv_slice hrow
 obtain⟨ψ,hψ⟩:∃ ψ,ψ=upd φ s (.tuple (out::ivs.set i undef).toArray):=⟨_,rfl⟩
 have hψs:ψ s=.tuple (out::ivs.set i undef).toArray:=by rw[hψ,upd_same]
 have hψo:∀ t,t≠s->ψ t=φ t:=fun t ht=>by rw[hψ,bj _ _ ht]
 have hv:∀ t,veq (φ t) (ψ t):=fun t=>by
  by_cases ht:t=s
  ·subst ht
   rw[hp,hψs]
   exact .inr ⟨_,_,_,rfl,rfl⟩
  ·rw[hψo t ht]
   exact .refl _
 obtain⟨φ',hφ'⟩:∃ φ',φ'=upd ψ d c:=⟨_,rfl⟩
 have hφd:φ' d=c:=by rw[hφ',upd_same]
 have hφo:∀ t,t≠d->φ' t=ψ t:=fun t ht=>by rw[hφ',bj _ _ ht]
 have hφs:φ' s=.tuple (out::ivs.set i undef).toArray:=(hφo s hsd).trans hψs
 have hnd':=hnd
 rw[hp,iI] at hnd'
 have hset:(out::ivs.set i undef)=(out::ivs).set (i+1) undef:=rfl
 have hivc:(out::ivs)[i+1]?=some c:=hiv
 have bd:∀ b,hbl c b->hbl (φ s) b:=fun b hb=>by
  rw[hp]
  exact ni.2 (.inr ⟨c,List.mem_of_getElem? hiv,(hbiv b).1 hb⟩)
 have bs:∀ b,hbl (φ' s) b->hbl (φ s) b:=fun b hb=>by
  rw[hφs,pM,hset] at hb
  rw[hp,pM]
  exact (fm_sub (out::ivs) (i+1)).mem hb
 have bds:∀ b,hbl c b->¬ hbl (φ' s) b:=fun b hb hb'=>by
  rw[hφs,pM,hset] at hb'
  exact fm_not hivc ((hbiv b).1 hb) hnd' hb'
 have hσd:fcS s d i e ie sz els r O d=some (.row sz ie r):=by unfold fcS; rw[upd_same]
 have hσs:fcS s d i e ie sz els r O s=some (.nest e ie sz ((els.map (NE.wipe d)).set i (.own d))):=by unfold fcS; rw[bj _ _ hsd,upd_same]
 have hσo:∀ t,t≠d->t≠s->fcS s d i e ie sz els r O t=(O t).bind (Ob.wipe d):=fun t h1 h2=>by unfold fcS; rw[bj _ _ h1,bj _ _ h2]; rfl
 have back:∀ t o',fcS s d i e ie sz els r O t=some o'->t≠d->t≠s->∃ o,O t=some o/\o.wipe d=some o':=fun t o' ho h1 h2=>by
  rw[hσo t h1 h2] at ho
  cases hst:O t with
  | none=>rw[hst] at ho; cases ho
  | some o=>rw[hst] at ho; exact⟨o,rfl,ho⟩
 have bk:∀ t o' b,fcS s d i e ie sz els r O t=some o'->hbl (φ' t) b->(t=d/\hbl c b) \/ (t=s/\hbl (φ' s) b) \/ (t≠d/\t≠s/\∃ o,O t=some o/\hbl (φ t) b):=fun t o' b ho hb=>by
  by_cases h1:t=d
  ·subst h1; rw[hφd] at hb; exact .inl ⟨rfl,hb⟩
  ·by_cases h2:t=s
   ·subst h2; exact .inr (.inl ⟨rfl,hb⟩)
   ·obtain⟨o,h3,_⟩:=back t o' ho h1 h2
    rw[hφo t h1,hψo t h2] at hb
    exact .inr (.inr ⟨h1,h2,o,h3,hb⟩)
 have own':∀ t o' b,fcS s d i e ie sz els r O t=some o'->hbl (φ' t) b->∃ t1 o,O t1=some o/\hbl (φ t1) b:=fun t o' b ho hb=>by
  rcases bk t o' b ho hb with ⟨_,h1⟩ | ⟨_,h1⟩ | ⟨_,_,o,h1,h2⟩
  ·exact⟨s,_,hs,bd b h1⟩
  ·exact⟨s,_,hs,bs b h1⟩
  ·exact⟨t,o,h1,h2⟩
 have hk:Keep (cx.fr φ O) (cx.fr φ' (fcS s d i e ie sz els r O)) w w:=⟨Nat.le_refl _,fun _ _ _=>rfl,fun b hb _=>⟨hb.1,fun⟨t,o',ho,he⟩=>hb.2 (own' t o' b ho he)⟩⟩
 refine⟨φ',c,out,ivs,cs,hp,hsp,hc,hφd,hone,hhd,fun t ht=>by rw[hφo t ht]; exact hv t,⟨h.os,h.tape,h.output,h.drawn,h.size,h.block,?_,?_,?_,?_,?_⟩,hk,fun v u hvu=>nn hφo v u (vsim_veq (.of hv) v u (el hk v u hvu))⟩
 ·intro t o' ho
  by_cases h1:t=d
  ·subst h1
   rw[hσd] at ho
   cases ho
   have:=nH (ψ:=φ') (rowv_keep hk (fun _ _=>rfl) hrow)
   show rowv φ' w _ (φ' t) sz ie r
   rw[hφd]
   exact this
  ·by_cases h2:t=s
   ·subst h2
    rw[hσs] at ho
    cases ho
    refine⟨out,ivs.set i undef,cs,hφs,?_,by rw[List.length_set,List.length_map]; exact hsp,?_⟩
    ·rw[hφs,iI,hset]
     exact hnd'.sublist (fm_sub _ _)
    ·have h3:=pA (i:=i) (x:=.own d) (c:=c) (iv:=undef) (qh (d:=d) (ψ:=φ') hφo (p8 (fun t=>(hv t).hd) (lT hk (fun _ _ _ _=>rfl) hn))) ⟨by rw[hφd,hhd],hone,rfl⟩
     rwa [iV hc] at h3
   ·obtain⟨o,h3,h4⟩:=back t o' ho h1 h2
    exact pj hφo h1 (osim_veq (.of hv) (hψo t h2) (eu hk (h.objs t o h3) (fun _ _=>rfl) fun _ _ _ _ _ _=>rfl)) h4
 ·intro t o' b ho hb
  obtain⟨t1,o,h1,h2⟩:=own' t o' b ho hb
  exact h.own t1 o b h1 h2
 ·intro t t' o o' b ho ho' hb hb'
  rcases bk t o b ho hb with ⟨e1,h1⟩ | ⟨e1,h1⟩ | ⟨n1,n2,o1,h1,h2⟩<;>rcases bk t' o' b ho' hb' with ⟨e2,h3⟩ | ⟨e2,h3⟩ | ⟨m1,m2,o2,h3,h4⟩
  ·rw[e1,e2]
  ·exact absurd h3 (bds b h1)
  ·exact absurd (h.disj t' s o2 _ b h3 hs h4 (bd b h1)) m2
  ·exact absurd h1 (bds b h3)
  ·rw[e1,e2]
  ·exact absurd (h.disj t' s o2 _ b h3 hs h4 (bs b h1)) m2
  ·exact absurd (h.disj t s o1 _ b h1 hs h2 (bd b h3)) n2
  ·exact absurd (h.disj t s o1 _ b h1 hs h2 (bs b h3)) n2
  ·exact h.disj t t' o1 o2 b h1 h3 h2 h4
 ·intro k hk1 hk2
  rw[hφo k (by omega)]
  exact (h.inp k hk1 hk2).trans (hv k)
 ·intro t m left last ho
  by_cases h1:t=d
  ·subst h1; rw[hσd] at ho; cases ho
  ·by_cases h2:t=s
   ·subst h2; rw[hσs] at ho; cases ho
   ·obtain⟨o,h3,h4⟩:=back t _ ho h1 h2
    cases o with
    | iter m' l' la' =>
     simp only[Ob.wipe] at h4
     split at h4
     ·cases h4
     ·rename_i hmd
      cases h4
      obtain⟨kk,es,hm⟩:=h.itm t _ _ _ h3
      have hms:m≠s:=fun e=>by rw[e,hs] at hm; cases hm
      exact⟨kk,_,by rw[hσo m hmd hms,hm]; rfl⟩
    | _=>simp[Ob.wipe] at h4
def ufS (s t i:Nat) (e ie:TypeId) (sz:Nat) (els:List NE) (r:List (List L)) (O:Sto):Sto:=upd (upd (cj t O) s (some (.nest e ie sz ((els.map (NE.wipe t)).set i (.rows r))))) t (some (.row sz ie []))
theorem Core.unfocus (h:Core cx φ O w) {e ie:TypeId} {sz i t:Nat} {els:List NE} {r:List (List L)} (hs:O s=some (.nest e ie sz els)) (hi:els[i]?=some (.own t)) (hr:O t=some (.row sz ie r)) (hd:t < inBase) :
  ∃ φ',Core cx φ' (ufS s t i e ie sz els r O) w/\∀ v u,bn φ w (cx.fr φ O) v u->bn φ' w (cx.fr φ' (ufS s t i e ie sz els r O)) (v.wipe t) u:=by
 have hst:s≠t:=fun e=>by rw[e,hr] at hs; cases hs
 obtain⟨out,ivs,cs,hp,hnd,hsp,hn⟩:=h.objs s _ hs
 obtain⟨c,iv,hc,hiv,hx,hone,rfl⟩:=pu hn hi
 have hrow:rowv φ w (cx.fr φ O) (φ t) sz ie r:=h.objs t _ hr
 obtain⟨_,hhd,hbt⟩:=rowv_slice hrow
 rw[hhd] at hx
 subst hx
 obtain⟨ψ,hψ⟩:∃ ψ,ψ=upd φ s (.tuple (out::ivs.set i (φ t)).toArray):=⟨_,rfl⟩
 have hψs:ψ s=.tuple (out::ivs.set i (φ t)).toArray:=by rw[hψ,upd_same]
 have hψo:∀ k,k≠s->ψ k=φ k:=fun k hk=>by rw[hψ,bj _ _ hk]
 have hv:∀ k,veq (φ k) (ψ k):=fun k=>by
  by_cases hk:k=s
  ·subst hk
   rw[hp,hψs]
   exact .inr ⟨_,_,_,rfl,rfl⟩
  ·rw[hψo k hk]
   exact .refl _
 obtain⟨φ',hφ'⟩:∃ φ',φ'=upd ψ t (.slice none 0 0):=⟨_,rfl⟩
 have hφd:φ' t=.slice none 0 0:=by rw[hφ',upd_same]
 have hφo:∀ k,k≠t->φ' k=ψ k:=fun k hk=>by rw[hφ',bj _ _ hk]
 have hφs:φ' s=.tuple (out::ivs.set i (φ t)).toArray:=(hφo s hst).trans hψs
 have hnd':=hnd
 rw[hp,iI] at hnd'
 have hset:(out::ivs.set i (φ t))=(out::ivs).set (i+1) (φ t):=rfl
 have hivc:(out::ivs)[i+1]?=some undef:=hiv
 have bs:∀ b,hbl (φ' s) b->hbl (φ s) b \/ hbl (φ t) b:=fun b hb=>by
  rw[hφs,ni] at hb
  rw[hp,ni,hbt]
  rcases hb with hb | ⟨y,hy,hb⟩
  ·exact .inl (.inl hb)
  ·rcases List.mem_or_eq_of_mem_set hy with hy | rfl
   ·exact .inl (.inr ⟨y,hy,hb⟩)
   ·exact .inr hb
 have hσd:ufS s t i e ie sz els r O t=some (.row sz ie []):=by unfold ufS; rw[upd_same]
 have hσs:ufS s t i e ie sz els r O s=some (.nest e ie sz ((els.map (NE.wipe t)).set i (.rows r))):=by unfold ufS; rw[bj _ _ hst,upd_same]
 have hσo:∀ k,k≠t->k≠s->ufS s t i e ie sz els r O k=(O k).bind (Ob.wipe t):=fun k h1 h2=>by unfold ufS; rw[bj _ _ h1,bj _ _ h2]; rfl
 have back:∀ k o',ufS s t i e ie sz els r O k=some o'->k≠t->k≠s->∃ o,O k=some o/\o.wipe t=some o':=fun k o' ho h1 h2=>by
  rw[hσo k h1 h2] at ho
  cases hst:O k with
  | none=>rw[hst] at ho; cases ho
  | some o=>rw[hst] at ho; exact⟨o,rfl,ho⟩
 have bk:∀ k o' b,ufS s t i e ie sz els r O k=some o'->hbl (φ' k) b->(k=s/\(hbl (φ s) b \/ hbl (φ t) b)) \/ (k≠t/\k≠s/\∃ o,O k=some o/\hbl (φ k) b):=fun k o' b ho hb=>by
  by_cases h1:k=t
  ·subst h1; rw[hφd] at hb; simp at hb
  ·by_cases h2:k=s
   ·subst h2; exact .inl ⟨rfl,bs b hb⟩
   ·obtain⟨o,h3,_⟩:=back k o' ho h1 h2
    rw[hφo k h1,hψo k h2] at hb
    exact .inr ⟨h1,h2,o,h3,hb⟩
 have own':∀ k o' b,ufS s t i e ie sz els r O k=some o'->hbl (φ' k) b->∃ t1 o,O t1=some o/\hbl (φ t1) b:=fun k o' b ho hb=>by
  rcases bk k o' b ho hb with ⟨_,h1 | h1⟩ | ⟨_,_,o,h1,h2⟩
  ·exact⟨s,_,hs,h1⟩
  ·exact⟨t,_,hr,h1⟩
  ·exact⟨k,o,h1,h2⟩
 have hk:Keep (cx.fr φ O) (cx.fr φ' (ufS s t i e ie sz els r O)) w w:=⟨Nat.le_refl _,fun _ _ _=>rfl,fun b hb _=>⟨hb.1,fun⟨k,o',ho,he⟩=>hb.2 (own' k o' b ho he)⟩⟩
 refine⟨φ',⟨h.os,h.tape,h.output,h.drawn,h.size,h.block,?_,?_,?_,?_,?_⟩,fun v u hvu=>nn hφo v u (vsim_veq (.of hv) v u (el hk v u hvu))⟩
 ·intro k o' ho
  by_cases h1:k=t
  ·subst h1
   rw[hσd] at ho
   cases ho
   exact⟨by simp,.inl ⟨rfl,none,hφd⟩⟩
  ·by_cases h2:k=s
   ·subst h2
    rw[hσs] at ho
    cases ho
    refine⟨out,ivs.set i (φ t),cs,hφs,?_,by rw[List.length_set,List.length_map]; exact hsp,?_⟩
    ·rw[hφs,iI,hset]
     refine fm_add hivc hnd' fun b hb hm=>hst (h.disj k t _ _ b hs hr ?_ ((hbt b).2 hb))
     rw[hp,pM]
     exact hm
    ·have h3:=pA (i:=i) (x:=.rows r) (c:=φ t) (iv:=φ t) (qh (d:=t) (ψ:=φ') hφo (p8 (fun t=>(hv t).hd) (lT hk (fun _ _ _ _=>rfl) hn))) ⟨rfl,nH (rowv_keep hk (fun _ _=>rfl) hrow)⟩
     rwa [iV hc] at h3
   ·obtain⟨o,h3,h4⟩:=back k o' ho h1 h2
    exact pj hφo h1 (osim_veq (.of hv) (hψo k h2) (eu hk (h.objs k o h3) (fun _ _=>rfl) fun _ _ _ _ _ _=>rfl)) h4
 ·intro k o' b ho hb
  obtain⟨t1,o,h1,h2⟩:=own' k o' b ho hb
  exact h.own t1 o b h1 h2
 ·intro k k' o o' b ho ho' hb hb'
  rcases bk k o b ho hb with ⟨e1,h1⟩ | ⟨n1,n2,o1,h1,h2⟩<;>rcases bk k' o' b ho' hb' with ⟨e2,h3⟩ | ⟨m1,m2,o2,h3,h4⟩
  ·rw[e1,e2]
  ·rcases h1 with h1 | h1
   ·exact absurd (h.disj k' s o2 _ b h3 hs h4 h1) m2
   ·exact absurd (h.disj k' t o2 _ b h3 hr h4 h1) m1
  ·rcases h3 with h3 | h3
   ·exact absurd (h.disj k s o1 _ b h1 hs h2 h3) n2
   ·exact absurd (h.disj k t o1 _ b h1 hr h2 h3) n1
  ·exact h.disj k k' o1 o2 b h1 h3 h2 h4
 ·intro k hk1 hk2
  rw[hφo k (by omega)]
  exact (h.inp k hk1 hk2).trans (hv k)
 ·intro k m left last ho
  by_cases h1:k=t
  ·subst h1; rw[hσd] at ho; cases ho
  ·by_cases h2:k=s
   ·subst h2; rw[hσs] at ho; cases ho
   ·obtain⟨o,h3,h4⟩:=back k _ ho h1 h2
    cases o with
    | iter m' l' la' =>
     simp only[Ob.wipe] at h4
     split at h4
     ·cases h4
     ·rename_i hmd
      cases h4
      obtain⟨kk,es,hm⟩:=h.itm k _ _ _ h3
      have hms:m≠s:=fun e=>by rw[e,hs] at hm; cases hm
      exact⟨kk,_,by rw[hσo m hmd hms,hm]; rfl⟩
    | _=>simp[Ob.wipe] at h4
theorem Core.renest (h:Core cx φ O w) {e ie:TypeId} {sz:Nat} {els els':List NE} {out:Value} {ivs ivs' cs:List Value} (hs:O s=some (.nest e ie sz els)) (hp:φ s=.tuple (out::ivs).toArray) (hsp:spine w e els.length out cs)
  (hsub:((out::ivs').filterMap iw).Sublist ((out::ivs).filterMap iw)) (hl:els'.length=els.length) (hn:∀ (ψ:Nat->Value) (F':Nat->Prop),(∀ t,veq (φ t) (ψ t))->Keep (cx.fr φ O) F' w w->lu ψ w F' ie sz els' cs ivs') :
  ∃ ψ,(∀ t,veq (φ t) (ψ t))/\ψ s=.tuple (out::ivs').toArray/\Core cx ψ (upd O s (some (.nest e ie sz els'))) w/\∀ v u,bn φ w (cx.fr φ O) v u->bn ψ w (cx.fr ψ (upd O s (some (.nest e ie sz els')))) v u:=by
 obtain⟨ψ,hψ⟩:∃ ψ,ψ=upd φ s (.tuple (out::ivs').toArray):=⟨_,rfl⟩
 have hψs:ψ s=.tuple (out::ivs').toArray:=by rw[hψ,upd_same]
 have hψo:∀ t,t≠s->ψ t=φ t:=fun t ht=>by rw[hψ,bj _ _ ht]
 have hv:∀ t,veq (φ t) (ψ t):=fun t=>by
  by_cases ht:t=s
  ·subst ht
   rw[hp,hψs]
   exact .inr ⟨_,_,_,rfl,rfl⟩
  ·rw[hψo t ht]
   exact .refl _
 have hnd:(blks (φ s)).Nodup:=by
  obtain⟨_,_,_,_,hnd,_⟩:=h.objs s _ hs
  exact hnd
 rw[hp,iI] at hnd
 have bs:∀ t b,hbl (ψ t) b->hbl (φ t) b:=fun t b hb=>by
  by_cases ht:t=s
  ·subst ht
   rw[hψs,pM] at hb
   rw[hp,pM]
   exact hsub.mem hb
  ·rwa [hψo t ht] at hb
 have dom:∀ t o',upd O s (some (.nest e ie sz els')) t=some o'->∃ o,O t=some o/\(t≠s->o=o'):=fun t o' ho=>by
  by_cases ht:t=s
  ·subst ht
   exact⟨_,hs,fun h=>absurd rfl h⟩
  ·rw[bj _ _ ht] at ho
   exact⟨o',ho,fun _=>rfl⟩
 have hk:Keep (cx.fr φ O) (cx.fr ψ (upd O s (some (.nest e ie sz els')))) w w:=⟨Nat.le_refl _,fun _ _ _=>rfl,fun b hb _=>⟨hb.1,fun⟨t,o',ho,he⟩=>by
  obtain⟨o,h1,_⟩:=dom t o' ho
  exact hb.2 ⟨t,o,h1,bs t b he⟩⟩⟩
 refine⟨ψ,hv,hψs,⟨h.os,h.tape,h.output,h.drawn,h.size,h.block,?_,?_,?_,?_,?_⟩,fun v u hvu=>vsim_veq (.of hv) v u (el hk v u hvu)⟩
 ·intro t o' ho
  by_cases ht:t=s
  ·subst ht
   rw[upd_same] at ho
   cases ho
   exact⟨out,ivs',cs,hψs,by rw[hψs,iI]; exact hnd.sublist hsub,by rw[hl]; exact hsp,hn ψ _ hv hk⟩
  ·rw[bj _ _ ht] at ho
   exact osim_veq (.of hv) (hψo t ht) (eu hk (h.objs t o' ho) (fun _ _=>rfl) fun _ _ _ _ _ _=>rfl)
 ·intro t o' b ho hb
  obtain⟨o,h1,_⟩:=dom t o' ho
  exact h.own t o b h1 (bs t b hb)
 ·intro t t' o o' b ho ho' hb hb'
  obtain⟨o1,h1,_⟩:=dom t o ho
  obtain⟨o2,h2,_⟩:=dom t' o' ho'
  exact h.disj t t' o1 o2 b h1 h2 (bs t b hb) (bs t' b hb')
 ·intro k hk1 hk2
  exact (h.inp k hk1 hk2).trans (hv k)
 ·intro t m left last ho
  by_cases ht:t=s
  ·subst ht; rw[upd_same] at ho; cases ho
  ·rw[bj _ _ ht] at ho
   obtain⟨kk,es,hm⟩:=h.itm t m left last ho
   have hms:m≠s:=fun e=>by rw[e,hs] at hm; cases hm
   exact⟨kk,es,by rw[bj _ _ hms]; exact hm⟩
theorem Core.deaden (h:Core cx φ O w) {e ie:TypeId} {sz i:Nat} {els:List NE} (hs:O s=some (.nest e ie sz els)) (hi:i < els.length) :
  ∃ ψ out ivs cs,(∀ t,veq (φ t) (ψ t))/\ψ s=.tuple (out::ivs).toArray/\spine w e els.length out cs/\ivs[i]?=some undef/\Core cx ψ (upd O s (some (.nest e ie sz (els.set i .dead)))) w /\
   (∀ v u,bn φ w (cx.fr φ O) v u->bn ψ w (cx.fr ψ (upd O s (some (.nest e ie sz (els.set i .dead))))) v u)/\lu ψ w (cx.fr ψ (upd O s (some (.nest e ie sz (els.set i .dead))))) ie sz (els.set i .dead) cs ivs:=by
 obtain⟨out,ivs,cs,hp,hnd,hsp,hn⟩:=h.objs s _ hs
 obtain⟨c,iv,hc,hiv,hx⟩:=pu hn (List.getElem?_eq_getElem hi)
 obtain⟨ψ,h1,h2,h3,h4⟩:=h.renest (els':=els.set i .dead) (ivs':=ivs.set i undef) hs hp hsp (fm_sub (out::ivs) (i+1)) (by simp) fun ψ F' hv hk=>by
  have:=pA (i:=i) (x:=.dead) (c:=c) (iv:=undef) (p8 (fun t=>(hv t).hd) (lT hk (fun _ _ _ _=>rfl) hn)) ⟨nsim_one hx,rfl⟩
  rwa [iV hc] at this
 obtain⟨out',ivs',cs',g1,_,g3,g4⟩:=h3.objs s _ (upd_same _ _ _)
 rw[h2] at g1
 simp only[Value.tuple.injEq] at g1
 obtain⟨rfl,rfl⟩:=g1
 have hcs:cs'=cs:=by
  rw[List.length_set] at g3
  rcases hsp with ⟨_,h5,_⟩ | ⟨b,cap,cur,h0,ho,_,_,hh,_,h5⟩<;>rcases g3 with ⟨_,h6,_⟩ | ⟨b',cap',cur',h0',ho',_,_,hh',_,h6⟩
  ·rw[h5,h6]
  ·omega
  ·omega
  ·rw[ho] at ho'
   simp only[Value.slice.injEq,Option.some.injEq,Addr.mk.injEq] at ho'
   obtain⟨⟨rfl,_,_⟩,_,rfl⟩:=ho'
   rw[hh] at hh'
   simp only[Option.some.injEq,Obj.cells.injEq] at hh'
   rw[h5,h6,hh'.1]
 subst hcs
 exact⟨ψ,out,_,_,h1,h2,hsp,by rw[List.getElem?_set_self (by have:=(nsims_length hn).2; omega)],h3,h4,g4⟩
theorem Core.toN (h:Core cx φ O w) {e ie:TypeId} {sz k:Nat} (hs:O s=some (.row 1 e (List.replicate k [.nil]))) (hsb:s < inBase) :
  ∃ ψ,Core cx ψ (upd O s (some (.nest e ie sz (List.replicate k (.rows []))))) w/\∀ v u,bn φ w (cx.fr φ O) v u->bn ψ w (cx.fr ψ (upd O s (some (.nest e ie sz (List.replicate k (.rows [])))))) v u:=by
 have hrow:rowv φ w (cx.fr φ O) (φ s) 1 e (List.replicate k [.nil]):=h.objs s _ hs
 obtain⟨hone,hhd,hbt⟩:=rowv_slice hrow
 obtain⟨ψ,hψ⟩:∃ ψ,ψ=upd φ s (.tuple (φ s::List.replicate k (.slice none 0 0)).toArray):=⟨_,rfl⟩
 have hψs:ψ s=.tuple (φ s::List.replicate k (.slice none 0 0)).toArray:=by rw[hψ,upd_same]
 have hψo:∀ t,t≠s->ψ t=φ t:=fun t ht=>by rw[hψ,bj _ _ ht]
 have hns:(∀ a,φ s≠.pointer a)/\∀ r,φ s≠.map r:=by
  obtain⟨_,h1⟩:=hrow
  rcases h1 with ⟨_,a,h1⟩ | ⟨b,cap,cur,_,h1,_⟩<;>rw[h1]<;>exact⟨(fun _ h=>by cases h),(fun _ h=>by cases h)⟩
 have hq:HQ φ ψ:=⟨fun t=>by
  by_cases ht:t=s
  ·subst ht; rw[hψs,il,hhd]
  ·rw[hψo t ht],fun t a e=>by
  by_cases ht:t=s
  ·subst ht; exact absurd e (hns.1 a)
  ·rw[hψo t ht,e],fun t r e=>by
  by_cases ht:t=s
  ·subst ht; exact absurd e (hns.2 r)
  ·rw[hψo t ht,e]⟩
 have hfm:∀ n,(List.replicate n (Value.slice none 0 0)).filterMap iw=[]:=fun n=>by
  induction n with
  | zero=>rfl
  | succ n ih=>rw[List.replicate_succ,List.filterMap_cons,ih]; rfl
 have hbl':∀ b,hbl (ψ s) b↔hbl (φ s) b:=fun b=>by
  rw[hψs,pM,List.filterMap_cons,hfm,hbt]
  cases iw (φ s) with
  | none=>simp
  | some c=>simp[eq_comm]
 have bs:∀ t b,hbl (ψ t) b->hbl (φ t) b:=fun t b hb=>by
  by_cases ht:t=s
  ·subst ht; exact (hbl' b).1 hb
  ·rwa [hψo t ht] at hb
 have dom:∀ t o',upd O s (some (.nest e ie sz (List.replicate k (.rows [])))) t=some o'->∃ o,O t=some o/\(t≠s->o=o'):=fun t o' ho=>by
  by_cases ht:t=s
  ·subst ht; exact⟨_,hs,fun h=>absurd rfl h⟩
  ·rw[bj _ _ ht] at ho; exact⟨o',ho,fun _=>rfl⟩
 have hk:Keep (cx.fr φ O) (cx.fr ψ (upd O s (some (.nest e ie sz (List.replicate k (.rows [])))))) w w:=⟨Nat.le_refl _,fun _ _ _=>rfl,fun b hb _=>⟨hb.1,fun⟨t,o',ho,he⟩=>by
  obtain⟨o,h1,_⟩:=dom t o' ho
  exact hb.2 ⟨t,o,h1,bs t b he⟩⟩⟩
 have hrep:∀ n,lu ψ w (cx.fr ψ (upd O s (some (.nest e ie sz (List.replicate k (.rows [])))))) ie sz (List.replicate n (.rows [])) (List.replicate n (.slice none 0 0)) (List.replicate n (.slice none 0 0)):=fun n=>by
  induction n with
  | zero=>exact⟨rfl,rfl⟩
  | succ n ih=>exact⟨_,_,_,_,rfl,rfl,⟨rfl,by simp,.inl ⟨rfl,none,rfl⟩⟩,ih⟩
 have hcs:∀ (n:Nat) (us:List Value),bg φ w (cx.fr φ O) ((List.replicate n [L.nil]).flatten.map C.d) us->us=List.replicate n (.slice none 0 0):=fun n=>by
  induction n with
  | zero=>intro us h; simpa [bg] using h
  | succ n ih =>
   intro us h
   rw[List.replicate_succ,List.flatten_cons,List.map_append] at h
   simp only[List.map_cons,List.map_nil,List.singleton_append,bg,bm,rep] at h
   obtain⟨v,r,rfl,rfl,h⟩:=h
   rw[ih r h,List.replicate_succ]
 refine⟨ψ,⟨h.os,h.tape,h.output,h.drawn,h.size,h.block,?_,?_,?_,?_,?_⟩,fun v u hvu=>vsim_veq hq v u (el hk v u hvu)⟩
 ·intro t o' ho
  by_cases ht:t=s
  ·subst ht
   rw[upd_same] at ho
   cases ho
   refine⟨φ t,List.replicate k (.slice none 0 0),List.replicate k (.slice none 0 0),hψs,?_,?_,hrep k⟩
   ·rw[hψs,iI,List.filterMap_cons,hfm]
    cases iw (φ t)<;>simp
   ·rw[List.length_replicate]
    obtain⟨_,h1⟩:=hrow
    rcases h1 with ⟨h0,a,h1⟩ | ⟨b,cap,cur,h0,h1,h2,h3,h4,h5,h6⟩
    ·cases k with
     | zero=>exact .inl ⟨rfl,rfl,a,h1⟩
     | succ k=>simp[List.replicate_succ] at h0
    ·rw[List.length_replicate] at h1 h2 h6
     rw[Nat.mul_one] at h5 h6
     exact .inr ⟨b,cap,cur,h0,h1,h2,h3,h4,h5,(hcs k _ h6).symm⟩
  ·rw[bj _ _ ht] at ho
   exact osim_veq hq (hψo t ht) (eu hk (h.objs t o' ho) (fun _ _=>rfl) fun _ _ _ _ _ _=>rfl)
 ·intro t o' b ho hb
  obtain⟨o,h1,_⟩:=dom t o' ho
  exact h.own t o b h1 (bs t b hb)
 ·intro t t' o o' b ho ho' hb hb'
  obtain⟨o1,h1,_⟩:=dom t o ho
  obtain⟨o2,h2,_⟩:=dom t' o' ho'
  exact h.disj t t' o1 o2 b h1 h2 (bs t b hb) (bs t' b hb')
 ·intro i hi hk'
  rw[hψo i (by omega)]
  exact h.inp i hi hk'
 ·intro t m left last ho
  by_cases ht:t=s
  ·subst ht; rw[upd_same] at ho; cases ho
  ·rw[bj _ _ ht] at ho
   obtain⟨kk,es,hm⟩:=h.itm t m left last ho
   have hms:m≠s:=fun e=>by rw[e,hs] at hm; cases hm
   exact⟨kk,es,by rw[bj _ _ hms]; exact hm⟩
end
def iU {α:Type} (f:α->List L) (l:List (List α)):List NE:=l.map fun r=>.rows (r.map f)
section
variable {α:Type} {f:α->List L} {l:List (List α)}
theorem nels_wipe (d:Nat):(iU f l).map (NE.wipe d)=iU f l:=by unfold iU; rw[List.map_map]; rfl
theorem nels_length:(iU f l).length=l.length:=by simp[iU]
theorem nels_set (i:Nat) (r:List α):(iU f l).set i (.rows (r.map f))=iU f (l.set i r):=by unfold iU; rw[List.map_set]
theorem nels_rep (k:Nat):iU f (List.replicate k [])=List.replicate k (.rows []):=by unfold iU; rw[List.map_replicate]; rfl
theorem newipe_own (d t:Nat):NE.wipe d (.own t)=if t=d then .dead else .own t:=rfl
end
end Go.AM
namespace Go.AM
open Go.RowKit
def noTop (cs:List C):Bool:=cs.all fun c=>match c with | .top=>false | _=>true
def cb (Z:Env) (d:Option Nat) (v:V):Env:=match d with
 | some d=>upd Z d v
 | none=>Z
def fstRow (O:Sto) (sz:Nat) (e:TypeId):V->Option (Option Nat×List (List L))
 | .u (.one (.d .nil))=>some (none,[])
 | .u (.one (.d .emp))=>some (none,[])
 | .u (.one (.own s))=>match O s with
  | some (.row sz' e' rows)=>if sz'=sz/\e'=e then some (some s,rows) else none
  | _=>none
 | _=>none
def fullV (sz:Nat):V->Option (List (List L))
 | .u (.one (.d (.slx sz' rows)))=>if sz'=sz then some rows else none
 | _=>none
def sndRow (O:Sto) (sz:Nat):V->Option (List (List L))
 | .u (.one (.d .nil))=>some []
 | .u (.one (.d .emp))=>some []
 | .u (.one (.d (.sl sz' rows)))=>if sz'=sz then some rows else none
 | .u (.one (.own s))=>match O s with
  | some (.row sz' _ rows)=>if sz'=sz then some rows else none
  | _=>none
 | _=>none
def mset:List (Key×U)->Key->U->List (Key×U)
 | [],k,u=>[(k,u)]
 | x::es,k,u=>if x.1=k then (k,u)::es else x::mset es k u
def mdel:List (Key×U)->Key->List (Key×U)
 | [],_=>[]
 | x::es,k=>if x.1=k then es else x::mdel es k
def vu:V->Option U
 | .u u=>some u
 | _=>none
def qint:V->Option Int
 | .u (.one (.d (.int _ n)))=>some n
 | _=>none
def qc (tb:Tb) (Z:Env) (O:Sto) (t:TypeId) (x y:V) (K:Env->Sto->Prop):Prop:=match tb.ty t,x,lz y with
 | some ti,.u (.one (.box s off)),some xs=>match O s with
  | some (.box cs)=>xs.length=ti.size/\off+ti.size<=cs.length/\noTop xs=true/\K Z (upd O s (some (.box (cs.take off++xs++cs.drop (off+ti.size)))))
  | _=>False
 | some ti,.u (.one (.elt s i sz off)),some xs=>match O s,mA xs with
  | some (.row sz' e rows),some ys=>match rows[i]? with
   | some r=>sz=sz'/\ys.length=ti.size/\off+ti.size<=r.length/\K Z (upd O s (some (.row sz' e (rows.set i (r.take off++ys++r.drop (off+ti.size))))))
   | none=>False
  | some (.nest e ie sz' els),_=>match xs with
   | [.own t']=>sz=1/\off=0/\ti.size=1/\i < els.length/\K Z (upd O s (some (.nest e ie sz' (els.set i (.own t')))))
   | _=>False
  | _,_=>False
 | _,_,_=>False
def aLoadN (tb:Tb) (Z:Env) (O:Sto) (d:Nat) (t:TypeId) (x:V) (K:Env->Sto->Prop):Prop:=match tb.ty t,x with
 | some ti,.u (.one (.elt s i 1 0))=>match O s with
  | some (.nest e ie sz els)=>match els[i]? with
   | some (.rows r)=>(ti.agg=false/\s≠d)/\K (upd (dp d Z) d (.u (.one (.own d)))) (fcS s d i e ie sz els r O)
   | _=>False
  | _=>False
 | _,_=>False
def mZ (tb:Tb) (Z:Env) (O:Sto) (d:Nat) (t:TypeId) (x y:V) (K:Env->Sto->Prop):Prop:=match tb.ty t with
 | some ti=>match ti.desc with
  | .slice e=>match tb.ty e with
   | some te=>match fstRow O te.size e x,sndRow O te.size y with
    | some (so,rows),some news=>0 < te.size/\0 < te.bytes/\(rows.length+news.length)*te.bytes<=140737488355328 /\
      K (upd (dp d Z) d (.u (.one (.own d)))) (upd (cj d (drop so O)) d (some (.row te.size e (rows++news))))
    | none,some news=>match fullV te.size x with
     | some rows=>(0 < te.size/\0 < te.bytes/\(rows.length+news.length)*te.bytes<=140737488355328/\0 < news.length)/\K (upd (dp d Z) d (.u (.one (.own d)))) (upd (cj d O) d (some (.row te.size e (rows++news))))
     | none=>False
    | _,_=>False
   | none=>False
  | _=>False
 | none=>False
def pZ (Z:Env) (O:Sto) (d:Nat) (cs:Option (List C)) (K:Env->Sto->Prop):Prop:=match cs with
 | some cs=>noTop cs=true/\K (upd (dp d Z) d (.u (.one (.box d 0)))) (upd (cj d O) d (some (.box (cs.map (C.wipe d)))))
 | none=>False
def iG:U->List C
 | .one c=>[c]
 | .agg cs=>cs
def allOne:Value->Bool
 | .agg arr=>arr.toList.all Value.oneCell'
 | _=>false
def okZero (ti:TI):Bool:=match ti.zu with
 | .one .top=>ti.zv.oneCell'
 | .one _=>true
 | .agg cs=>noTop cs || allOne ti.zv
def strRow (sz:Nat):V->Option (List UInt8)
 | .u (.one (.d (.str s)))=>if sz=1 then some (bsl s) else none
 | _=>none
def np (tb:Tb) (Z:Env) (O:Sto) (d:Nat) (t t':TypeId) (x y:V) (K:Env->Sto->Prop):Prop:=match tb.ty t,tb.ty t' with
 | some ti,some ts=>match ti.desc,ts.desc with
  | .slice e,.string=>match tb.ty e with
   | some te=>match fstRow O te.size e x,strRow te.size y with
    | some (so,rows),some l=>0 < te.bytes/\(rows.length+l.length)*te.bytes<=140737488355328 /\
      K (upd (dp d Z) d (.u (.one (.own d)))) (upd (cj d (drop so O)) d (some (.row te.size e (rows++l.map nI))))
    | _,_=>False
   | none=>False
  | _,_=>False
 | _,_=>False
def aAllocBox (ti:TI) (Z:Env) (O:Sto) (d:Nat) (K:Env->Sto->Prop):Prop:=okZero ti=true/\K (upd (dp d Z) d (.u (.one (.box d 0)))) (upd (cj d O) d (some (.box ((iG ti.zu).map (C.wipe d)))))
def oG (tb:Tb) (Z:Env) (O:Sto) (t:TypeId) (m k x:V) (K:Env->Sto->Prop):Prop:=match tb.ty t,m,vkey k,vu x with
 | some ti,.u (.one (.map s)),some key,some u=>match ti.desc,O s with
  | .map kt _,some (.map kk es)=>tb.key kt=some kk/\key.fits kk=true/\K Z (upd (jW s O) s (some (.map kk (mset es key u))))
  | _,_=>False
 | _,_,_,_=>False
def aDelete (tb:Tb) (Z:Env) (O:Sto) (d:Option Nat) (t:TypeId) (m k:V) (K:Env->Sto->Prop):Prop:=match tb.ty t,m,vkey k with
 | some ti,.u (.one (.map s)),some key=>match ti.desc,O s with
  | .map kt _,some (.map kk es)=>tb.key kt=some kk/\key.fits kk=true/\K (cb Z d (.tup [])) (upd (jW s O) s (some (.map kk (mdel es key))))
  | _,_=>False
 | _,_,_=>False
def mr (tb:Tb) (Z:Env) (O:Sto) (d:Nat) (t:TypeId) (r:Option V) (K:Env->Sto->Prop):Prop:=match tb.ty t with
 | some ti=>match ti.desc with
  | .map kt _=>match tb.key kt with
   | some kk=>(match r with | none=>True | some v=>(qint v).isSome=true)/\K (upd (dp d Z) d (.u (.one (.map d)))) (upd (cj d O) d (some (.map kk [])))
   | none=>False
  | _=>False
 | none=>False
def jr (tb:Tb) (Z:Env) (O:Sto) (d:Nat) (t:TypeId) (x c:V) (K:Env->Sto->Prop):Prop:=match tb.ty t with
 | some ti=>match ti.desc with
  | .slice e=>match tb.ty e with
   | some te=>match x,c,(lz (.u te.zu)).bind mA with
    | .u (.one (.d (.int .i64 n))),.u (.one (.d (.int .i64 m))),some zr=>(0<=n/\n<=m/\0 < te.size/\0 < te.bytes/\m*te.bytes<=140737488355328) /\
      K (upd (dp d Z) d (.u (.one (.own d)))) (upd (cj d O) d (some (.row te.size e (List.replicate n.toNat zr))))
    | _,_,_=>False
   | none=>False
  | _=>False
 | none=>False
def aRange (tb:Tb) (Z:Env) (O:Sto) (d:Nat) (t:TypeId) (x:V) (K:Env->Sto->Prop):Prop:=match tb.ty t,x with
 | some ti,.u (.one (.map s))=>match ti.desc,O s with
  | .map _ _,some (.map _ es)=>s≠d/\K (upd (dp d Z) d (.u (.one (.iter d)))) (upd (cj d O) d (some (.iter s (es.map fun x=>(x.1,x.2.wipe d)) none)))
  | _,_=>False
 | _,_=>False
def aNext (Z:Env) (O:Sto) (d:Nat) (x:V) (K:Env->Sto->Prop):Prop:=match x with
 | .u (.one (.iter s))=>match O s with
  | some (.iter m left _)=>(left=[]->K (upd Z d (.tup [.one (.d (.bool false))])) O) /\
    ∀ i x,left[i]?=some x->K (upd Z d (.tup [.one (.d (.bool true)),x.1.u,x.2])) (upd O s (some (.iter m (left.eraseIdx i) (some x))))
  | _=>False
 | _=>False
def aEntry (Z:Env) (O:Sto) (d:Nat) (x:V) (K:Env->Sto->Prop):Prop:=match x with
 | .u (.one (.iter s))=>match O s with
  | some (.iter _ _ (some x))=>K (upd Z d (.tup [x.1.u,x.2])) O
  | _=>False
 | _=>False
def aEqNil (tb:Tb) (Z:Env) (O:Sto) (d:Nat) (op:BinOp) (t:TypeId) (x y:V) (K:Env->Sto->Prop):Prop:=match tb.ty t,x,y with
 | some ti,.u (.one (.d (.sl _ []))),.u (.one (.d .nil))=>match ti.desc,op with
  | .slice _,.eql=>K (upd Z d (.u (.one (.d (.bool true))))) O/\K (upd Z d (.u (.one (.d (.bool false))))) O
  | _,_=>False
 | _,_,_=>False
def fF (tb:Tb) (Z:Env) (O:Sto) (o:Oper) (K:Env->Sto->Prop):Prop :=
 match o.op,o.dst with
 | .alloc t,some d=>match tb.ty t with
  | some ti=>aAllocBox ti Z O d K
  | none=>False
 | .box _ x,some d=>pZ Z O d (lz (oev Z x)) K
 | .store t x y,none=>qc tb Z O t (oev Z x) (oev Z y) K
 | .call c,d=>match c.callee,c.args.toList,c.argTypes.toList,d with
  | .builtin .append,[x,y],[t,t'],some d=>if t=t' then mZ tb Z O d t (oev Z x) (oev Z y) K else np tb Z O d t t' (oev Z x) (oev Z y) K
  | .builtin .delete,[m,k],[t,_],d=>aDelete tb Z O d t (oev Z m) (oev Z k) K
  | _,_,_,_=>False
 | .load t x,some d=>aLoadN tb Z O d t (oev Z x) K
 | .mapUpdate t m k x,none=>oG tb Z O t (oev Z m) (oev Z k) (oev Z x) K
 | .makeSlice t x c,some d=>jr tb Z O d t (oev Z x) (oev Z c) K
 | .makeMap t r,some d=>mr tb Z O d t (r.map (oev Z)) K
 | .range t x,some d=>aRange tb Z O d t (oev Z x) K
 | .next x false,some d=>aNext Z O d (oev Z x) K
 | .entry x,some d=>aEntry Z O d (oev Z x) K
 | .binOp op t x y _,some d=>aEqNil tb Z O d op t (oev Z x) (oev Z y) K
 | _,_=>False
def Step (P:Program) (cx:Cx) (o:Oper) (Z:Env) (O:Sto) (K:Env->Sto->Prop):Prop :=
 ∀ (φ:Nat->Value) (a:Act) (w:World),Sim cx φ Z O a w->∀ (next:Act->World->Prop) (Q:Exit->Act->World->Prop),
  (∀ φ' Z' O' a' w',Sim cx φ' Z' O' a' w'->K Z' O'->next a' w')->o.wp P a w next Q
section
variable {P:Program} {tb:Tb} {cx:Cx} {Z:Env} {O:Sto} {o:Oper} {K:Env->Sto->Prop}
theorem Sim.put {φ:Nat->Value} {a:Act} {w:World} (h:Sim cx φ Z O a w) {d:Option Nat} (hd:∀ x,d=some x->x < cx.n) {v:V} {u:Value} (hv:bn φ w (cx.fr φ O) v u) :
  Sim cx φ (cb Z d v) O (a.put d u) w:=by
 cases d with
 | none=>exact h
 | some d =>
  refine⟨h.core,slots_put h.slots hv (Nat.lt_of_lt_of_le (hd d rfl) h.room),h.defers,?_⟩
  simpa [Act.put] using h.room
theorem Step.of_quiet {S:V->Prop} (h:Quiet P cx o Z O S) (hd:∀ x,o.dst=some x->x < cx.n) (hk:∀ v,S v->K (cb Z o.dst v) O):Step P cx o Z O K:=by
 intro φ a w hs next Q hn
 have hq:=h φ a w hs.core (fun x _=>dd hs.core.gw hs.slots x)
 unfold Oper.wp
 generalize (execOp a.eval o).run P w=r at hq
 cases r with
 | ok n w' =>
  cases n with
  | value u =>
   obtain⟨hb,v,hv,hvs⟩:=hq
   exact hn φ _ O _ w' ((hs.below hb).put hd hvs) (hk v hv)
  | enter f args =>
   obtain⟨hb,hc⟩:=hq
   refine hc.mono fun e w'' he=>?_
   obtain⟨u,v,rfl,hb',hv,hvs⟩:=he
   exact hn φ _ O _ w'' (((hs.below hb).below hb').put hd hvs) (hk v hv)
  | _=>exact hq.elim
 | halt x w'=>exact hq.elim
theorem Step.of_run {a:Act} {w w':World} {u:Value} (hr:(execOp a.eval o).run P w=.ok (.value u) w') {φ':Nat->Value} {Z':Env} {O':Sto} (hs:Sim cx φ' Z' O' (a.put o.dst u) w') (hk:K Z' O')
  {next:Act->World->Prop} {Q:Exit->Act->World->Prop} (hn:∀ φ' Z' O' a' w',Sim cx φ' Z' O' a' w'->K Z' O'->next a' w'):o.wp P a w next Q:=by
 unfold Oper.wp
 rw[hr]
 exact hn _ _ _ _ _ hs hk
theorem lI {φ:Nat->Value} {w:World} {F:Nat->Prop}:∀ {cs:List C} {vs:List Value},noTop cs=true->bg φ w F cs vs->∀ u∈vs,u.oneCell'=true
 | [],vs,_,h=>by simp_all [bg]
 | c::cs,vs,hn,h=>by
  simp only[bg] at h
  obtain⟨v,r,rfl,hc,h⟩:=h
  simp only[noTop,List.all_cons,Bool.and_eq_true] at hn
  intro u hu
  rcases List.mem_cons.1 hu with rfl | hu
  ·grind [pJ]
  ·exact lI hn.2 h u hu
theorem Sim.new {φ:Nat->Value} {a:Act} {w w':World} {d:Nat} {hv:Value} {c:C} {Z':Env} {O':Sto} (hs:Sim cx φ Z O a w) (hd:d < cx.n)
  (h:Core cx (upd φ d hv) O' w'/\Keep (cx.fr φ O) (cx.fr (upd φ d hv) O') w w'/\∀ v u,bn φ w (cx.fr φ O) v u->bn (upd φ d hv) w' (cx.fr (upd φ d hv) O') (v.wipe d) u)
  (hρ:Z'=upd (dp d Z) d (.u (.one c))) (hc:bm (upd φ d hv) w' (cx.fr (upd φ d hv) O') c hv):Sim cx (upd φ d hv) Z' O' (a.put (some d) hv) w':=by
 subst hρ
 obtain⟨h1,_,h3⟩:=h
 refine⟨h1,slots_put (fun t=>h3 _ _ (hs.slots t)) hc (Nat.lt_of_lt_of_le hd hs.room),hs.defers,?_⟩
 simpa [Act.put] using hs.room
theorem jd (O:Sto):drop none O=O:=by rfl
theorem newBox_step {φ:Nat->Value} {a:Act} {w:World} {d:Nat} {t:TypeId} {cs:List C} {arr:Array Value} (hs:Sim cx φ Z O a w) (hd:d < cx.n) (hd':d < inBase) (hc:bg φ w (cx.fr φ O) cs arr.toList) (hn:∀ u∈arr.toList,u.oneCell'=true) :
  Sim cx (upd φ d (.pointer (some ⟨w.heap.size,0,none⟩))) (upd (dp d Z) d (.u (.one (.box d 0)))) (upd (cj d O) d (some (.box (cs.map (C.wipe d))))) (a.put (some d) (.pointer (some ⟨w.heap.size,0,none⟩))) (w.alloc (.cells arr t)):=by
 have hb:Blw w.heap.size w (w.alloc (.cells arr t)):=(Blw.refl _ _).alloc (Nat.le_refl _) _
 have key:=hs.core.replace (so:=none) (d:=d) (hv:=.pointer (some ⟨w.heap.size,0,none⟩)) (ob:=.box (cs.map (C.wipe d))) (w':=w.alloc (.cells arr t)) hd' (fun _ _ h=>by cases h) hb.os hb.tape hb.output hb.drawn hb.size
  (fun b hl _=>hb.block b hl) (fun b hbk=>by simp_all) (fun _ _ _ h=>by cases h)
  (fun hk=>⟨w.heap.size,arr,t,upd_same _ _ _,heap_alloc_new w _,nE (fun t ht=>bj _ _ ht) _ _ (cD hk _ _ hc),hn⟩)
 rw[jd] at key
 exact Sim.new hs hd key rfl (by simp only[bm]; exact⟨w.heap.size,upd_same _ _ _,rfl⟩)
theorem alloc_sound (ht:TbOk P tb) {d:Nat} {t:TypeId} (hop:o.op=.alloc t) (hdst:o.dst=some d) (hd:d < cx.n) (hd':d < inBase) (h:fF tb Z O o K):Step P cx o Z O K:=by
 intro φ a w hs next Q hn
 unfold fF at h
 simp only[hop,hdst] at h
 split at h
 ·rename_i ti hty
  have T:=ht.ty t ti hty
  obtain⟨h1,h2⟩:=h
  have hz:=T.zero φ w (cx.fr φ O)
  have hc:bg φ w (cx.fr φ O) (iG ti.zu) ti.zv.cells.toList/\∀ u∈ti.zv.cells.toList,u.oneCell'=true:=by
   unfold okZero at h1
   cases hu:ti.zu with
   | one c =>
    rw[hu] at hz h1
    have ho:ti.zv.oneCell'=true:=by
     cases c with
     | top=>exact h1
     | _=>exact pJ (by simp) hz
    rw[oneCell_cells ho]
    simp only[iG,bg]
    exact⟨⟨ti.zv,[],rfl,hz,rfl⟩,fun u hu=>by simp_all⟩
   | agg cs =>
    rw[hu] at hz h1
    obtain⟨arr,he,hcs⟩:=hz
    rw[he]
    refine⟨hcs,?_⟩
    simp only[Bool.or_eq_true] at h1
    rcases h1 with h1 | h1
    ·exact lI h1 hcs
    ·rw[he] at h1
     exact fun u hu=>List.all_eq_true.1 h1 u hu
  refine Step.of_run (u:=.pointer (some ⟨w.heap.size,0,none⟩)) (w':=w.alloc (.cells ti.zv.cells t)) ?_ (by rw[hdst]; exact newBox_step hs hd hd' hc.1 hc.2) h2 hn
  simp[execOp,hop,Instr.alloc,T.run_zero,newVar,qo]
 ·exact h.elim
theorem box_sound {d:Nat} {t:TypeId} {x:Operand} (hop:o.op=.box t x) (hdst:o.dst=some d) (hd:d < cx.n) (hd':d < inBase) (h:fF tb Z O o K):Step P cx o Z O K:=by
 intro φ a w hs next Q hn
 unfold fF at h
 simp only[hop,hdst] at h
 unfold pZ at h
 split at h
 ·rename_i cs hcs
  have hc:=eX (φ:=φ) (w:=w) (F:=cx.fr φ O) hcs (dd hs.core.gw hs.slots x)
  refine Step.of_run (u:=.pointer (some ⟨w.heap.size,0,none⟩)) (w':=w.alloc (.cells (a.eval x).cells t)) ?_ (by rw[hdst]; exact newBox_step hs hd hd' hc (lI h.1 hc)) h.2 hn
  simp[execOp,hop,Instr.box,newVar,qo]
 ·exact h.elim
theorem run_storeVar {P:Program} {w:World} {t:TypeId} {ti:TI} (T:TabFact P t ti) {b off:Nat} {cur:Array Value} {e:TypeId} (hh:w.heap[b]?=some (.cells cur e (0,0))) {v:Value} (hsz:v.cells.size=ti.size)
  (hroom:off+ti.size<=cur.size) (h1:∀ u∈v.cells.toList,u.oneCell'=true) :
  (Instr.storeAt t (.pointer (some ⟨b,off,none⟩)) v).run P w=.ok () (w.setRow b (cur.toList.take off++v.cells.toList++cur.toList.drop (off+ti.size)).toArray):=by
 have hst:=run_storeCells_at P b off e v.cells.toList 0 cur w hh (by simp; omega) h1
 simp only[Nat.add_zero] at hst
 unfold Instr.storeAt storeVar
 simp only[Instr.sureAddr,Sem.run_bind,Sem.run_pure,Result.andThen_ok,T.run_size,hsz,ne_eq,not_true_eq_false,if_false]
 grind
theorem store_sound (ht:TbOk P tb) {t:TypeId} {x y:Operand} (hop:o.op=.store t x y) (hdst:o.dst=none) (h:fF tb Z O o K):Step P cx o Z O K:=by
 intro φ a w hs next Q hn
 unfold fF at h
 simp only[hop,hdst] at h
 unfold qc at h
 have hx:=dd hs.core.gw hs.slots x
 have hy:=dd hs.core.gw hs.slots y
 have go:∀ (b off:Nat) (cur:Array Value) (e:TypeId) (ti:TI) (s:Nat) (ob ob':Ob),tb.ty t=some ti->a.eval x=.pointer (some ⟨b,off,none⟩)->w.heap[b]?=some (.cells cur e (0,0))->(a.eval y).cells.size=ti.size->off+ti.size<=cur.size ->
   (∀ u∈(a.eval y).cells.toList,u.oneCell'=true)->O s=some ob->(∀ kk es,ob≠.map kk es)->(∀ m l la,ob'≠.iter m l la)->hbl (φ s) b ->
   (Keep (cx.fr φ O) (cx.fr φ (upd O s (some ob'))) w (w.setRow b (cur.toList.take off++(a.eval y).cells.toList++cur.toList.drop (off+ti.size)).toArray) ->
    jM φ (w.setRow b (cur.toList.take off++(a.eval y).cells.toList++cur.toList.drop (off+ti.size)).toArray) (cx.fr φ (upd O s (some ob'))) s ob') ->
   K Z (upd O s (some ob'))->o.wp P a w next Q:=by
  intro b off cur e ti s ob ob' hty hxe hh hsz hroom h1 hs' hnm hni hbk hob hk
  have T:=ht.ty t ti hty
  have hrun:=run_storeVar T hh hsz hroom h1
  have key:=hs.core.mutate (s:=s) (ob':=ob') (w':=w.setRow b (cur.toList.take off++(a.eval y).cells.toList++cur.toList.drop (off+ti.size)).toArray) hs' (σ1:=O) (fun _ _ _ h=>h)
   (fun t m l la _ h e=>by
    subst e
    obtain⟨kk,es,hm⟩:=hs.core.itm t m l la h
    grind) (fun _ _ _ h _=>h) (fun m l la h=>absurd h (hni m l la)) rfl rfl rfl (Nat.le_refl _) (by simp)
   (fun b' _ hne=>setRow_other w b b' _ (fun e=>hne (e ▸ hbk))) hob
  have hs2:Sim cx φ Z (upd O s (some ob')) (a.put o.dst undef) (w.setRow b (cur.toList.take off++(a.eval y).cells.toList++cur.toList.drop (off+ti.size)).toArray):=by
   rw[hdst]
   exact⟨key.1,fun t=>el key.2 _ _ (hs.slots t),hs.defers,hs.room⟩
  unfold Oper.wp
  have he:(execOp a.eval o).run P w=.ok .skip (w.setRow b (cur.toList.take off++(a.eval y).cells.toList++cur.toList.drop (off+ti.size)).toArray):=by
   simp[execOp,hop,hxe,hrun]
  rw[he]
  exact hn _ _ _ _ _ hs2 hk
 split at h
 ·rename_i ti s off xs hty hxv hyv
  split at h
  ·rename_i cs hs'
   obtain⟨h1,h2,h3,h4⟩:=h
   rw[hxv] at hx
   obtain⟨b,arr,t',hp,hh,hc,hone⟩:=hs.core.objs s _ hs'
   obtain⟨b',hb',hxe⟩:=hx
   rw[hp] at hb'
   simp only[Value.pointer.injEq,Option.some.injEq,Addr.mk.injEq] at hb'
   obtain⟨rfl,_,_⟩:=hb'
   have hcy:=eX hyv hy
   have hl1:=bY hcy
   have hl2:=bY hc
   simp only[Array.length_toList] at hl1 hl2
   have h1c:=lI h3 hcy
   refine go b off arr t' ti s _ (.box (cs.take off++xs++cs.drop (off+ti.size))) hty hxe hh (by omega) (by omega) h1c hs' (fun _ _ h=>by cases h) (fun _ _ _ h=>by cases h) (by rw[hp]; simp) (fun hk=>?_) h4
   refine⟨b,_,t',hp,setRow_heap w b arr _ t' (0,0) hh,?_,?_⟩
   ·grind [dZ,iJ,cD,jw]
   grind
  ·exact h.elim
 ·rename_i ti s i sz off xs hty hxv hyv
  split at h
  ·rename_i sz' e rows ys hs' hys
   split at h
   ·rename_i r hr
    obtain⟨rfl,h1,h2,h4⟩:=h
    rw[hxv] at hx
    obtain⟨b',n',c',hb',hxe⟩:=hx
    obtain⟨hrl,ho⟩:=hs.core.objs s _ hs'
    rcases ho with ⟨h0,_⟩ | ⟨b,cap,cur,h0,hp,hl,hm',hh,hcs,hc⟩
    ·grind
    ·rw[hp] at hb'
     simp at hb'
     obtain⟨rfl,_,_⟩:=hb'
     have hcy:=eX hyv hy
     rw[lX hys] at hcy
     have hl1:=bY hcy
     simp only[List.length_map,Array.length_toList] at hl1
     have hil:i < rows.length:=(List.getElem?_eq_some_iff.1 hr).1
     have hri:=hrl r (List.mem_of_getElem? hr)
     have hle:i*sz+sz<=rows.length*sz:=by
      have:=Nat.mul_le_mul_right sz (show i+1<=rows.length from hil)
      grind
     have hle2:rows.length*sz<=cap*sz:=Nat.mul_le_mul_right sz hl
     have h1c:=ji hcy
     have hnew:(r.take off++ys++r.drop (off+ti.size)).length=sz:=by simp; omega
     refine go b (i*sz+off) cur e ti s _ (.row sz e (rows.set i (r.take off++ys++r.drop (off+ti.size)))) hty hxe hh (by omega) (by omega) h1c hs' (fun _ _ h=>by cases h) (fun _ _ _ h=>by cases h) (by rw[hp]; simp only[hbl_slice]; grind) (fun hk=>?_) h4
     refine⟨fun q hq=>?_,.inr ⟨b,cap,_,h0,by simp_all,by simp_all,hm',setRow_heap w b cur _ e (0,0) hh,?_,?_⟩⟩
     ·grind
     ·simp; omega
     ·rw[List.length_set,flatten_set hrl hil]
      have hfl:=dX hrl
      have hck:=cD hk _ _ hc
      have hcy':=cD hk _ _ hcy
      have e1:rows.flatten.take (i*sz)++(r.take off++ys++r.drop (off+ti.size))++rows.flatten.drop (i*sz+sz) =
        rows.flatten.take (i*sz+off)++ys++rows.flatten.drop (i*sz+off+ti.size):=by
       have hrow:=flatten_row hrl hr
       have d1:rows.flatten.take (i*sz+off)=rows.flatten.take (i*sz)++r.take off:=by
        rw[List.take_add,<- hrow,List.take_take,Nat.min_eq_left (by omega)]
       have d2:rows.flatten.drop (i*sz+off+ti.size)=r.drop (off+ti.size)++rows.flatten.drop (i*sz+sz):=by
        rw[Nat.add_assoc,<- List.drop_drop]
        grind [List.take_append_drop,List.drop_drop]
       rw[d1,d2]
       simp
      rw[e1]
      have e2:(cur.toList.take (i*sz+off)++(a.eval y).cells.toList++cur.toList.drop (i*sz+off+ti.size)).take (rows.length*sz) =
        (cur.toList.take (rows.length*sz)).take (i*sz+off)++(a.eval y).cells.toList++(cur.toList.take (rows.length*sz)).drop (i*sz+off+ti.size):=by
       rw[List.take_append,List.take_append,List.take_take,List.take_take,List.drop_take]
       have q1:(cur.toList.take (i*sz+off)).length=i*sz+off:=by simp; omega
       have q2:(cur.toList.take (i*sz+off)++(a.eval y).cells.toList).length=i*sz+off+ti.size:=by simp_all
       rw[q1,q2,Nat.min_eq_right (by omega),Nat.min_eq_left (by omega),List.take_of_length_le (l:=(a.eval y).cells.toList) (by grind)]
      grind [List.map_take,List.map_drop,dZ,iJ,jw]
   ·exact h.elim
  ·rename_i e ie sz' els hs'
   split at h
   ·rename_i t'
    obtain⟨rfl,rfl,h2,h3,h4⟩:=h
    obtain⟨ψ,out,ivs,cs,hv,hp,hsp,hiv,hco,hvs,hns⟩:=hs.core.deaden hs' h3
    rw[hxv] at hx
    simp only[bn,bR,bm] at hx
    obtain⟨b,n,c,hb',hxe⟩:=hx
    rw[Nat.mul_one,Nat.add_zero] at hxe
    rw[<- (hv s).hd,hp,il] at hb'
    subst hb'
    rcases hsp with ⟨h0,_⟩ | ⟨b',cap,cur,h0,ho,hl,hm,hh,hz,rfl⟩
    ·omega
    simp only[Value.slice.injEq,Option.some.injEq,Addr.mk.injEq] at ho
    obtain⟨⟨rfl,_,_⟩,rfl,rfl⟩:=ho
    have T:=ht.ty t ti hty
    have hcy:=eX hyv (hvs _ _ hy)
    have hcy0:=eX hyv hy
    have hy1:∃ u,(a.eval y).cells.toList=[u]/\u=hdv (ψ t')/\u.oneCell'=true:=by
     simp only[bg,bm] at hcy
     obtain⟨u,q,he,⟨h5,h6⟩,rfl⟩:=hcy
     exact⟨u,he,h5,h6⟩
    obtain⟨u,he,hu1,hu2⟩:=hy1
    have hsz:(a.eval y).cells.size=ti.size:=by rw[h2,<- Array.length_toList,he]; rfl
    have hrun:=run_storeVar T (off:=i) hh hsz (by omega) (by rw[he]; simpa using hu2)
    rw[he,h2] at hrun
    have key:=hco.mutate (s:=s) (ob:=.nest e ie sz' (els.set i .dead)) (ob':=.nest e ie sz' (els.set i (.own t'))) (w':=w.setRow b (cur.toList.take (i)++[u]++cur.toList.drop (i+1)).toArray) (upd_same _ _ _) (σ1:=O) (fun t o ht ho=>by rw[bj _ _ ht]; exact ho)
     (fun t m l la _ h e=>by
      subst e
      obtain⟨kk,es,hm⟩:=hs.core.itm t m l la h
      rw[hs'] at hm
      cases hm) (fun m kk es hm hms=>by rwa [bj _ _ hms] at hm) (fun m l la h=>by cases h) rfl rfl rfl (Nat.le_refl _) (by simp)
     (fun b' _ hne=>setRow_other w b b' _ (fun e=>hne (by rw[hp,ni]; exact .inl (by simp[iw,e]; omega)))) (fun hk=>by
      have hnd:(blks (ψ s)).Nodup:=by
       obtain⟨_,_,_,_,hnd,_⟩:=hco.objs s _ (upd_same _ _ _)
       exact hnd
      have hnd':=hnd
      rw[hp,iI,List.filterMap_cons,show iw (Value.slice (some ⟨b,0,none⟩) els.length c)=some b from by simp[iw]; omega,List.nodup_cons] at hnd'
      have h5:=pA (i:=i) (x:=.own t') (c:=u) (iv:=undef) (lT hk (fun iv hv' b' hb'=>setRow_other w b b' _ (fun e=>hnd'.1 (by rw[<- e]; exact List.mem_filterMap.2 ⟨iv,hv',hb'⟩))) hns) ⟨hu1,hu2,rfl⟩
      rw[List.set_set,iV hiv] at h5
      have hlen:i < cur.toList.length:=by simp; omega
      have hcur:cur.toList.take (i)++[u]++cur.toList.drop (i+1)=cur.toList.set i u:=by
       rw[List.set_eq_take_append_cons_drop,if_pos hlen]
       simp
      refine⟨_,ivs,_,hp,hnd,.inr ⟨b,c,_,h0,by rw[List.length_set],by rw[List.length_set]; exact hl,hm,setRow_heap w b cur _ e (0,0) hh,by rw[hcur]; simp[hz],by rw[List.length_set]⟩,?_⟩
      rw[hcur] at h5 ⊢
      rw[<- List.take_set] at h5
      exact h5)
    have hs2:Sim cx ψ Z (upd O s (some (.nest e ie sz' (els.set i (.own t'))))) (a.put o.dst undef) (w.setRow b (cur.toList.take (i)++[u]++cur.toList.drop (i+1)).toArray):=by
     rw[hdst]
     exact⟨key.1,fun t=>el key.2 _ _ (hvs _ _ (hs.slots t)),hs.defers,hs.room⟩
    unfold Oper.wp
    have hex:(execOp a.eval o).run P w=.ok .skip (w.setRow b (cur.toList.take (i)++[u]++cur.toList.drop (i+1)).toArray):=by
     simp[execOp,hop,hxe,hrun]
    rw[hex]
    exact hn _ _ _ _ _ hs2 h4
   ·exact h.elim
  ·exact h.elim
 ·exact h.elim
theorem loadN_sound (ht:TbOk P tb) {d:Nat} {t:TypeId} {x:Operand} (hop:o.op=.load t x) (hdst:o.dst=some d) (hd:d < cx.n) (hd':d < inBase) (h:aLoadN tb Z O d t (oev Z x) K):Step P cx o Z O K:=by
 intro φ a w hs next Q hn
 unfold aLoadN at h
 have hx:=dd hs.core.gw hs.slots x
 split at h
 ·rename_i ti s i hty hxv
  have T:=ht.ty t ti hty
  rw[hxv] at hx
  split at h
  ·rename_i e ie sz els hs'
   split at h
   ·rename_i r hr
    obtain⟨⟨hag,hsd⟩,h⟩:=h
    obtain⟨φ',iv,out,ivs,cs,hp,hsp,hc,hφd,hone,hhd,_,hco,_,hvs⟩:=hs.core.focus hs' hr hd' hsd
    simp only[bn,bR,bm] at hx
    obtain⟨b,n,c,hb',hxe⟩:=hx
    rw[Nat.mul_one,Nat.add_zero] at hxe
    rw[hp,il] at hb'
    subst hb'
    rcases hsp with ⟨h0,_⟩ | ⟨b',cap,cur,h0,ho,hl,hm,hh,hz,rfl⟩
    ·have:=(List.getElem?_eq_some_iff.1 hr).1; omega
    simp only[Value.slice.injEq,Option.some.injEq,Addr.mk.injEq] at ho
    obtain⟨⟨rfl,_,_⟩,rfl,rfl⟩:=ho
    have hlt:=(List.getElem?_eq_some_iff.1 hr).1
    have hcell:w.cell? ⟨b,i,none⟩=some iv:=by
     rw[cell_of_row w b _ cur e (0,0) hh]
     rw[List.getElem?_take,if_pos hlt] at hc
     simpa using hc
    refine Step.of_run (u:=iv) (w':=w) ?_ (by
     rw[hdst]
     refine⟨hco,slots_put (fun t=>hvs _ _ (hs.slots t)) (by simp only[bn,bR,bm]; rw[hφd,hhd]; exact⟨rfl,hone⟩) (Nat.lt_of_lt_of_le hd hs.room),hs.defers,?_⟩
     simpa [Act.put] using hs.room) h hn
    simp[execOp,hop,hxe,Instr.loadAt,Instr.sureAddr,loadVar,T.run_agg,hag,load,Sem.run,hcell]
   ·exact h.elim
  ·exact h.elim
 ·exact h.elim
theorem equalIn_none' {w:World} (d:Nat) {t e:TypeId} (h:P.underlying t=some (.slice e)) (n c:Nat):(Op.equalIn (d+1) t (.slice none n c) (.slice none 0 0)).run P w=.ok true w:=by
 simp[Op.equalIn,run_underlying h]
theorem eqNil_sound (ht:TbOk P tb) {d:Nat} {op:BinOp} {t yt:TypeId} {x y:Operand} (hop:o.op=.binOp op t x y yt) (hdst:o.dst=some d) (hd:d < cx.n) (h:aEqNil tb Z O d op t (oev Z x) (oev Z y) K):Step P cx o Z O K:=by
 intro φ a w hs next Q hn
 unfold aEqNil at h
 split at h
 ·rename_i ti sz hty hx hy
  have T:=ht.ty t ti hty
  split at h
  ·rename_i e hde
   have hxs:=dd hs.core.gw hs.slots x
   have hys:=dd hs.core.gw hs.slots y
   rw[hx] at hxs
   rw[hy] at hys
   simp only[bn,bR,bm,rep] at hxs hys
   obtain⟨ao,n,c,hu,hn0,_⟩:=hxs
   have hg:∀ u:Value,(eqGuard .eql t x y (.slice ao n c) u).run P w=.ok () w:=fun u=>by simp[eqGuard]
   have hput:∀ b:Bool,Sim cx φ (upd Z d (.u (.one (.d (.bool b))))) O (a.put (some d) (.bool b)) w:=fun b =>
    ⟨hs.core,slots_put hs.slots (by rfl) (Nat.lt_of_lt_of_le hd hs.room),hs.defers,by simpa [Act.put] using hs.room⟩
   cases ao with
   | none =>
    have he:(Op.equal t (.slice none n c) (.slice none 0 0)).run P w=.ok true w:=by
     unfold Op.equal Op.maxDepth
     exact equalIn_none' 9999 (T.und.trans (by rw[hde])) n c
    refine Step.of_run (u:=.bool true) (w':=w) ?_ (by rw[hdst]; exact hput true) h.1 hn
    simp only[execOp,hop,hu,hys,Sem.run_bind,hg,Result.andThen_ok,binOp,he]
    rfl
   | some ad =>
    have he:(Op.equal t (.slice (some ad) n c) (.slice none 0 0)).run P w=.ok false w:=by
     unfold Op.equal Op.maxDepth
     exact equalIn_some 9999 (T.und.trans (by rw[hde])) ad n c
    refine Step.of_run (u:=.bool false) (w':=w) ?_ (by rw[hdst]; exact hput false) h.2 hn
    simp only[execOp,hop,hu,hys,Sem.run_bind,hg,Result.andThen_ok,binOp,he]
    rfl
  ·exact h.elim
 ·exact h.elim
end
end Go.AM
namespace Go.AM
open Go.RowKit
section
variable {P:Program} {tb:Tb} {cx:Cx} {Z:Env} {O:Sto} {o:Oper} {K:Env->Sto->Prop}
theorem gj {φ ψ:Nat->Value} {w:World} {F:Nat->Prop}:∀ {xs:List L} {vs:List Value},bg φ w F (xs.map C.d) vs->bg ψ w F (xs.map C.d) vs
 | [],_,h=>h
 | x::xs,vs,h=>by
  simp only[List.map_cons,bg] at h ⊢
  obtain⟨v,r,rfl,hc,h⟩:=h
  exact⟨v,r,rfl,by simpa [bm] using hc,gj h⟩
def jC (w:World) (e:TypeId) (sz:Nat) (u:Value) (n:Nat) (xs:List Value):Prop :=
 (n=0/\xs=[]/\∃ a,u=.slice a 0 0) \/
 ∃ b cap cur,0 < cap/\u=.slice (some ⟨b,0,none⟩) n cap/\n<=cap/\cap<=maxLen/\w.heap[b]?=some (.cells cur e (0,0))/\cur.size=cap*sz/\cur.toList.take (n*sz)=xs
theorem run_app {w:World} {t ty e:TypeId} {te:TI} (hT:P.underlying t=some (.slice e)) (TE:TabFact P e te) (hsz:0 < te.size) (hby:0 < te.bytes) {u:Value} {n:Nat} {xs:List Value} (hu:jC w e te.size u n xs) (hxl:xs.length=n*te.size)
  {A:Option Addr} {m c:Nat} {ns:List Value} (hl:ns.length=m*te.size) (hA:0 < m->∃ ad,A=some ad/\∀ (j:Nat) (v:Value),ns[j]?=some v->w.cell? (ad.add j)=some v) (h1:∀ v∈ns,v.oneCell'=true)
  (hb:(n+m)*te.bytes<=140737488355328) :
  ∃ v' w',(Builtin.append_ #[t,t] ty #[u,.slice A m c]).run P w=.ok v' w'/\w'.os=w.os/\w'.tape=w.tape/\w'.output=w.output/\w.heap.size<=w'.heap.size/\(∀ b,b < w.heap.size->¬ hbl u b->w'.heap[b]?=w.heap[b]?) /\
   (∀ b,hbl v' b->(w.heap.size<=b \/ hbl u b)/\b < w'.heap.size)/\jC w' e te.size v' (n+m) (xs++ns):=by
 obtain⟨i,hi,hi1,hi2,hi3⟩:=TE.get
 have hnm:n+m<=(n+m)*te.bytes:=Nat.le_mul_of_pos_right _ hby
 have h63:n+m<=maxLen:=by simp only[maxLen]; omega
 rcases Nat.eq_zero_or_pos m with hm | hm
 ·subst hm
  have hns:ns=[]:=List.eq_nil_of_length_eq_zero (by simpa using hl)
  subst hns
  refine⟨u,w,?_,rfl,rfl,rfl,Nat.le_refl _,fun _ _ _=>rfl,fun b hbk=>⟨.inr hbk,?_⟩,by simpa using hu⟩
  ·have hlc:∀ ad:Addr,(loadCells ad 0).run P w=.ok #[] w:=fun ad=>by rfl
   rcases hu with ⟨rfl,rfl,a,rfl⟩ | ⟨b,cap,cur,_,rfl,hnc,_⟩
   ·cases a<;>cases A<;>simp[Builtin.append_,run_underlying hT,sizeOf,typeInfo,hi,Builtin.lenOf,Builtin.firstCells,hlc,storeCells]
   ·cases A<;>simp[Builtin.append_,run_underlying hT,sizeOf,typeInfo,hi,Builtin.lenOf,Builtin.firstCells,hlc,storeCells,hnc]
  ·rcases hu with ⟨rfl,rfl,a,rfl⟩ | ⟨b',cap,cur,h0,rfl,hnc,_,hh,_⟩
   ·simp at hbk
   ·simp only[hbl_slice] at hbk
    grind
 ·obtain⟨ad,rfl,hcells⟩:=hA hm
  have key:∀ v w'',w.heap.size<=w''.heap.size->w''.ownsRow 0 e te.size v (n+m) (xs++ns)->jC w'' e te.size v (n+m) (xs++ns):=by
   intro v w'' _ ho
   rcases ho.2 with ⟨_,h0⟩ | ⟨g,cap,cur,rfl,_,hh,hc1,hc2,hc3,hc4⟩
   ·omega
   ·exact .inr ⟨g,cap,cur,by omega,rfl,hc1,hc2,hh,hc3,hc4⟩
  rcases hu with ⟨rfl,rfl,a,rfl⟩ | ⟨b,cap,cur,h0,rfl,hnc,hcm,hh,hcs,htk⟩
  ·have fin:∀ v' w'',w''.ownsRow 0 e te.size v' (0+m) ([]++ns)->w.grownBy w'' none->(v'.ownBlock=none \/ v'.ownBlock=some w.heap.size)->(Builtin.append_ #[t,t] ty #[.slice a 0 0,.slice (some ad) m c]).run P w=.ok v' w'' ->
     ∃ v' w',(Builtin.append_ #[t,t] ty #[.slice a 0 0,.slice (some ad) m c]).run P w=.ok v' w'/\w'.os=w.os/\w'.tape=w.tape/\w'.output=w.output/\w.heap.size<=w'.heap.size/\(∀ b,b < w.heap.size->¬ hbl (.slice a 0 0) b->w'.heap[b]?=w.heap[b]?) /\
      (∀ b,hbl v' b->(w.heap.size<=b \/ hbl (.slice a 0 0) b)/\b < w'.heap.size)/\jC w' e te.size v' (0+m) ([]++ns):=by
    intro v' w'' ho hg hbk hrun
    refine⟨v',w'',hrun,hg.os,hg.tape,hg.output,hg.size,fun b hb' _=>hg.block b hb' (by simp),fun b hb'=>?_,key v' w'' hg.size ho⟩
    rcases key v' w'' hg.size ho with ⟨h0,_⟩ | ⟨g,cap,cur,h0,rfl,_,_,hh,_⟩
    ·omega
    ·obtain⟨_,rfl⟩:=(hbl_slice _ _ _ _).1 hb'
     simp[Value.ownBlock] at hbk
     grind
   cases a with
   | none =>
    obtain⟨v',w'',hrun,ho,hg,_,hbk⟩:=run_append_own_at (P:=P) w 0 t ty e i te.zv te.size te.bytes hT hi hi3 hi1 hi2 TE.zsize hsz (.slice none 0 0) 0 [] (World.ownsRow_nil w 0 e te.size) ad m c ns hl hcells h1 h63 hb (Nat.zero_le _)
    exact fin v' w'' ho (by simpa [Value.ownBlock] using hg) (by simpa [Value.ownBlock] using hbk) hrun
   | some a0 =>
    have hrun:=run_append_grow (P:=P) w t ty e i te.zv hT hi hi3 a0 0 0 [] (by simp) (fun j v hj=>by simp at hj) ad m c ns (by rw[hi1]; exact hl) hcells (by omega) (by omega) (growslice_fits (by omega) (by rw[hi2]; exact hb))
    have hge:=grownCap_ge w (0+m) 0 e
    have hcm:=grownCap_le_maxLen w (0+m) 0 e h63
    refine fin _ _ ?_ ?_ ?_ hrun
    rotate_left
    ·exact⟨rfl,rfl,rfl,by simp,fun k hk _=>Below.heap_alloc w.drew _ k hk⟩
    ·simp[Value.ownBlock]
    refine⟨by simpa using hl,.inr ⟨w.heap.size,_,_,rfl,Nat.zero_le _,heap_alloc_new w.drew _,hge,hcm,?_,?_⟩⟩
    ·simp only[Array.size_append,List.size_toArray,size_zeroCells,TE.zsize,List.length_nil,Nat.zero_add,hl,<- Nat.add_mul]
     simp_all
    simp_all
  ·obtain⟨v',w'',hrun,ho,hg,_,hbk⟩:=run_append_own_at (P:=P) w 0 t ty e i te.zv te.size te.bytes hT hi hi3 hi1 hi2 TE.zsize hsz (.slice (some ⟨b,0,none⟩) n cap) n xs
    ⟨hxl,.inr ⟨b,cap,cur,rfl,Nat.zero_le _,hh,hnc,hcm,hcs,htk⟩⟩ ad m c ns hl hcells h1 h63 hb (Nat.zero_le _)
   refine⟨v',w'',hrun,hg.os,hg.tape,hg.output,hg.size,fun b' hb' hne=>hg.block b' hb' (fun e=>hne ?_),fun b' hb'=>?_,key v' w'' hg.size ho⟩
   ·refine (hbl_slice _ _ _ _).2 ⟨by omega,?_⟩
    first | simpa [Value.ownBlock] using e.symm | simpa [Value.ownBlock] using e
   ·rcases key v' w'' hg.size ho with ⟨h0,_⟩ | ⟨g,cap',cur',h0',rfl,_,_,hh',_⟩
    ·omega
    ·obtain⟨_,rfl⟩:=(hbl_slice _ _ _ _).1 hb'
     refine⟨?_,(Array.getElem?_eq_some_iff.1 hh').1⟩
     simp only[Value.ownBlock,Option.some.injEq] at hbk
     rcases hbk with hbk | hbk
     ·exact .inr (by simp only[hbl_slice]; grind)
     omega
theorem mem_of_rows {φ:Nat->Value} {w:World} {F:Nat->Prop} {sz:Nat}:∀ {rs:List (List L)} {b o:Nat},ca w F sz rs b o->Mem φ w F (rs.flatten.map C.d) b o
 | [],b,o,_=>⟨[],by simp[bg],fun j u hj=>by simp at hj⟩
 | r::rs,b,o,h=>by
  simp only[ca] at h
  obtain⟨us,h1,h2⟩:=pV (φ:=φ) h.1.2
  obtain⟨vs,h3,h4⟩:=mem_of_rows (φ:=φ) h.2
  have hl:us.length=sz:=by rw[<- bY h1,List.length_map]; exact h.1.1
  refine⟨us++vs,by rw[List.flatten_cons,List.map_append]; exact dZ h1 h3,fun j u hj=>?_⟩
  rcases Nat.lt_or_ge j us.length with hj' | hj'
  ·rw[List.getElem?_append_left hj'] at hj
   exact h2 j u hj
  ·rw[List.getElem?_append_right hj'] at hj
   have:=h4 _ u hj
   rwa [hl,show o+sz+(j - sz)=o+j by omega] at this
theorem run_appX {w:World} {t ty e:TypeId} {te:TI} (hT:P.underlying t=some (.slice e)) (TE:TabFact P e te) (hsz:0 < te.size) (hby:0 < te.bytes) {ao:Option Addr} {n:Nat} {xs:List Value} (hxl:xs.length=n*te.size)
  (hx:0 < n->∃ ad,ao=some ad/\∀ (j:Nat) (v:Value),xs[j]?=some v->w.cell? (ad.add j)=some v)
  {A:Option Addr} {m c:Nat} {ns:List Value} (hl:ns.length=m*te.size) (hA:0 < m->∃ ad,A=some ad/\∀ (j:Nat) (v:Value),ns[j]?=some v->w.cell? (ad.add j)=some v) (hx1:∀ v∈xs,v.oneCell'=true) (h1:∀ v∈ns,v.oneCell'=true) (hm:0 < m)
  (hb:(n+m)*te.bytes<=140737488355328) :
  ∃ v' w',(Builtin.append_ #[t,t] ty #[.slice ao n n,.slice A m c]).run P w=.ok v' w'/\w'.os=w.os/\w'.tape=w.tape/\w'.output=w.output/\w.heap.size<=w'.heap.size/\(∀ b,b < w.heap.size->w'.heap[b]?=w.heap[b]?) /\
   (∀ b,hbl v' b->w.heap.size<=b/\b < w'.heap.size)/\jC w' e te.size v' (n+m) (xs++ns):=by
 rcases Nat.eq_zero_or_pos n with h0 | h0
 ·subst h0
  have hxs:xs=[]:=List.eq_nil_of_length_eq_zero (by simpa using hxl)
  subst hxs
  obtain⟨v',w',a1,a2,a3,a4,a5,a6,a7,a8⟩:=run_app (P:=P) (ty:=ty) (c:=c) hT TE hsz hby (u:=.slice ao 0 0) (n:=0) (xs:=[]) (.inl ⟨rfl,rfl,ao,rfl⟩) (by simp) hl hA h1 hb
  exact⟨v',w',a1,a2,a3,a4,a5,fun b hb=>a6 b hb (by simp),fun b hb=>by have:=a7 b hb; simp at this; exact this,a8⟩
 ·obtain⟨ad0,rfl,hc0⟩:=hx h0
  obtain⟨ad,rfl,hcells⟩:=hA hm
  obtain⟨i,hi,hi1,hi2,hi3⟩:=TE.get
  have hnm:n+m<=(n+m)*te.bytes:=Nat.le_mul_of_pos_right _ hby
  have h63:n+m<=maxLen:=by simp only[maxLen]; omega
  have hrun:=run_append_grow (P:=P) w t ty e i te.zv hT hi hi3 ad0 n n xs (by rw[hi1]; exact hxl) hc0 ad m c ns (by rw[hi1]; exact hl) hcells (by omega) (by omega) (growslice_fits (by omega) (by rw[hi2]; exact hb))
  have hge:=grownCap_ge w (n+m) n e
  have hcm:=grownCap_le_maxLen w (n+m) n e h63
  refine⟨_,_,hrun,rfl,rfl,rfl,by simp,fun k hk=>Below.heap_alloc w.drew _ k hk,fun b hb=>?_,.inr ⟨w.heap.size,_,_,by omega,rfl,hge,hcm,heap_alloc_new w.drew _,?_,?_⟩⟩
  ·obtain⟨_,rfl⟩:=(hbl_slice _ _ _ _).1 hb
   simp
  ·simp only[Array.size_append,List.size_toArray,size_zeroCells,TE.zsize,hl,hxl,<- Nat.add_mul]
   rw[Nat.add_sub_cancel' hge]
  ·have hlen:(xs++ns).length=(n+m)*te.size:=by rw[List.length_append,hxl,hl,Nat.add_mul]
   refine (congrArg _ ?_).trans (List.take_left' (l₂:=(Builtin.zeroCells te.zv.cells (grownCap w (n+m) n e - (n+m))).toList) hlen)
   simp
theorem sndRow_sound {φ:Nat->Value} {w:World} (hco:Core cx φ O w) {sz:Nat} {y:V} {q:Value} {news:List (List L)} (h:sndRow O sz y=some news) (hy:bn φ w (cx.fr φ O) y q) :
  (∀ r∈news,r.length=sz)/\∃ A c ns,q=.slice A news.length c/\bg φ w (cx.fr φ O) (news.flatten.map C.d) ns/\(0 < news.length->∃ ad,A=some ad/\∀ (j:Nat) (v:Value),ns[j]?=some v->w.cell? (ad.add j)=some v):=by
 unfold sndRow at h
 split at h
 ·cases h
  simp only[bn,bR,bm,rep] at hy
  subst hy
  exact⟨by simp,none,0,[],rfl,by simp[bg],by simp⟩
 ·cases h
  simp only[bn,bR,bm,rep] at hy
  obtain⟨a,rfl⟩:=hy
  exact⟨by simp,a,0,[],rfl,by simp[bg],by simp⟩
 ·split at h
  ·rename_i hz
   cases h
   simp only[bn,bR,bm,rep] at hy
   obtain⟨ao,n,c,rfl,rfl,_,_,hr⟩:=hy
   rcases hr with rfl | ⟨b,o,rfl,hF,hl,hr⟩
   ·exact⟨by simp,ao,c,[],rfl,by simp[bg],by simp⟩
   ·have hall:∀ (rs:List (List L)) (o:Nat),ca w (cx.fr φ O) sz rs b o->(∀ r∈rs,r.length=sz)/\∃ ns,bg φ w (cx.fr φ O) (rs.flatten.map C.d) ns/\∀ (j:Nat) (v:Value),ns[j]?=some v->w.cell? ⟨b,o+j,none⟩=some v:=by
     intro rs
     induction rs with
     | nil=>simp[bg]
     | cons r rs ih =>
      intro o hrs
      simp only[ca] at hrs
      obtain⟨ih1,ns,ih2,ih3⟩:=ih (o+sz) hrs.2
      obtain⟨us,h1,h2⟩:=pV (φ:=φ) hrs.1.2
      have hul:=bY h1
      simp only[List.length_map] at hul
      refine⟨by simp_all,us++ns,by rw[List.flatten_cons,List.map_append]; exact dZ h1 ih2,fun j v hj=>?_⟩
      grind
    subst hz
    obtain⟨h1,ns,h2,h3⟩:=hall news o hr
    exact⟨h1,_,c,ns,rfl,h2,fun _=>⟨_,rfl,fun j v hj=>by grind [addr_add]⟩⟩
  ·cases h
 ·rename_i s
  split at h
  ·rename_i sz' e' rows hs
   split at h
   ·rename_i hz
    cases h
    subst hz
    simp only[bn,bR,bm] at hy
    obtain⟨h1,ho⟩:=hco.objs s _ hs
    refine⟨h1,?_⟩
    obtain⟨rfl,_⟩:=hy
    rcases ho with ⟨rfl,a,ha⟩ | ⟨b,cap,cur,h0,hp,hl,hm',hh,hs',hc⟩
    ·simp_all [bg]
    ·refine⟨some ⟨b,0,none⟩,cap,_,(by rw[hp]; rfl),hc,fun _=>⟨_,rfl,fun j v hj=>?_⟩⟩
     rw[addr_add,Nat.zero_add,cell_of_row w b j cur e' (0,0) hh]
     grind
   ·cases h
  ·cases h
 ·cases h
theorem append_sound (ht:TbOk P tb) {d:Nat} {x y:Operand} {t:TypeId} {ats:Array TypeId} {args:Array Operand} (hop:o.op=.call { callee:=.builtin .append,args:=args,argTypes:=ats }) (hargs:args.toList=[x,y]) (hats:ats.toList=[t,t])
  (hdst:o.dst=some d) (hd:d < cx.n) (hd':d < inBase) (h:mZ tb Z O d t (oev Z x) (oev Z y) K):Step P cx o Z O K:=by
 intro φ a w hs next Q hn
 obtain⟨args⟩:=args
 obtain⟨ats⟩:=ats
 simp only at hargs hats
 subst hargs hats
 have hx:=dd hs.core.gw hs.slots x
 have hy:=dd hs.core.gw hs.slots y
 unfold mZ at h
 split at h
 ·rename_i ti hty
  have T:=ht.ty t ti hty
  split at h
  ·rename_i e hde
   split at h
   ·rename_i te hte
    have TE:=ht.ty e te hte
    split at h
    ·rename_i so rows news hf hsn
     obtain⟨hsz,hby,hbd,hk⟩:=h
     obtain⟨hn1,A,c,ns,hq,hns,hA⟩:=sndRow_sound hs.core hsn hy
     have hnl:ns.length=news.length*te.size:=by rw[<- bY hns,List.length_map,dX hn1]
     have hfst:(∀ r∈rows,r.length=te.size)/\(∃ xs,jC w e te.size (a.eval x) rows.length xs/\bg φ w (cx.fr φ O) (rows.flatten.map C.d) xs)/\(∀ s o,so=some s->O s=some o->∃ sz e rows,o=.row sz e rows) /\
       (∀ b,hbl (a.eval x) b->∃ s o,so=some s/\O s=some o/\hbl (φ s) b)/\(∀ b,(∀ s o,so=some s->O s=some o->¬ hbl (φ s) b)->¬ hbl (a.eval x) b):=by
      unfold fstRow at hf
      split at hf
      ·cases hf
       rename_i hxv
       rw[hxv] at hx
       simp only[bn,bR,bm,rep] at hx
       rw[hx]
       refine⟨by simp,⟨[],.inl ⟨rfl,rfl,none,rfl⟩,by simp[bg]⟩,?_,?_,?_⟩
       ·simp
       ·intro b h; cases h
       ·intro b _ h; cases h
      ·cases hf
       rename_i hxv
       rw[hxv] at hx
       simp only[bn,bR,bm,rep] at hx
       obtain⟨a0,ha0⟩:=hx
       rw[ha0]
       refine⟨by simp,⟨[],.inl ⟨rfl,rfl,a0,rfl⟩,by simp[bg]⟩,?_,?_,?_⟩
       ·simp
       ·simp
       simp
      ·rename_i s hxv
       split at hf
       ·rename_i sz' e' rows' hs'
        split at hf
        ·rename_i hz
         cases hf
         obtain⟨rfl,rfl⟩:=hz
         rw[hxv] at hx
         obtain⟨hxe,_⟩:=hx
         obtain⟨h1,ho⟩:=hs.core.objs s _ hs'
         have hv:hdv (φ s)=φ s:=by rcases ho with ⟨_,a,h⟩ | ⟨_,_,_,_,h,_⟩<;>rw[h]<;>rfl
         rw[hxe,hv]
         refine⟨h1,?_,fun s' o' hso hs2=>?_,fun b hb=>⟨s,_,rfl,hs',hb⟩,fun b hb=>hb s _ rfl hs'⟩
         ·rcases ho with ⟨rfl,a0,ha0⟩ | ⟨b,cap,cur,h0,hp,hl,hm',hh,hs',hc⟩
          ·exact⟨[],.inl ⟨rfl,rfl,a0,ha0⟩,by simp[bg]⟩
          ·exact⟨_,.inr ⟨b,cap,cur,h0,hp,hl,hm',hh,hs',rfl⟩,hc⟩
         simp_all
        ·cases hf
       ·cases hf
      ·cases hf
     obtain⟨hr1,⟨xs,hrow,hxs⟩,hso,hbo,hbo'⟩:=hfst
     have hxl:xs.length=rows.length*te.size:=by rw[<- bY hxs,List.length_map,dX hr1]
     obtain⟨v',w',hrun,hos,htp,hout,hsize,hblk',hnew,hrow'⟩:=run_app (P:=P) (ty:=o.type) (c:=c) (T.und.trans (by rw[hde])) TE hsz hby hrow hxl hnl hA (ji hns) hbd
     have hfl:∀ r∈rows++news,r.length=te.size:=fun r hr=>by
      grind
     have hone:v'.oneCell'=true:=by
      rcases hrow' with ⟨_,_,a0,rfl⟩ | ⟨_,_,_,_,rfl,_⟩<;>rfl
     have key:=hs.core.replace (so:=so) (d:=d) (hv:=v') (ob:=.row te.size e (rows++news)) (w':=w') hd' (fun s o h1 h2 kk es e=>by obtain⟨_,_,_,h3⟩:=hso s o h1 h2; rw[h3] at e; cases e) hos htp hout (pa _ _ _ _ hrun) hsize
      (fun b hl hne=>hblk' b hl (hbo' b hne)) (fun b hb=>by
       grind) (fun _ _ _ h=>by cases h)
      (fun hkp=>by
       refine⟨hfl,?_⟩
       rw[upd_same]
       have hcs:bg (upd φ d v') w' (cx.fr (upd φ d v') (upd (cj d (drop so O)) d (some (.row te.size e (rows++news))))) ((rows++news).flatten.map C.d) (xs++ns):=by
        grind [dZ,gj,cD]
       rcases hrow' with ⟨h0,_,a0,hv⟩ | ⟨b,cap,cur,h0,hv,h1,h2,h3,h4,h5⟩
       ·simp_all
       grind)
     refine Step.of_run (u:=v') (w':=w') ?_ (by rw[hdst]; exact Sim.new hs hd key rfl (by simp only[bm]; rw[upd_same,show hdv v'=v' by rcases hrow' with ⟨_,_,a0,rfl⟩ | ⟨_,_,_,_,rfl,_⟩<;>rfl]; exact⟨rfl,hone⟩)) hk hn
     unfold execOp
     simp only[hop,resolve,invoke,builtin,Sem.run_bind,Sem.run_pure,Result.andThen_ok,List.map_toArray,List.map_cons,List.map_nil,hq,hrun]
    ·rename_i news hf hsn
     split at h
     ·rename_i rows hfu
      obtain⟨⟨hsz,hby,hbd,hpos⟩,hk⟩:=h
      obtain⟨hn1,A,c,ns,hq,hns,hA⟩:=sndRow_sound hs.core hsn hy
      have hnl:ns.length=news.length*te.size:=by rw[<- bY hns,List.length_map,dX hn1]
      unfold fullV at hfu
      split at hfu
      ·rename_i sz' rows' hxv
       split at hfu
       ·rename_i hz
        cases hfu
        subst hz
        rw[hxv] at hx
        simp only[bn,bR,bm,rep] at hx
        obtain⟨ao,n,hxe,hnr,hmx,hro⟩:=hx
        have hr1:∀ r∈rows,r.length=te.size:=by
         rcases hro with rfl | ⟨b,o,_,_,_,hr⟩
         ·simp
         ·exact fun r hr'=>let ⟨i,hi⟩:=List.mem_iff_getElem?.1 hr'; (repRows_get hr hi).1
        obtain⟨xs,hxl,hxs,hcell⟩:∃ xs:List Value,xs.length=rows.length*te.size/\bg φ w (cx.fr φ O) (rows.flatten.map C.d) xs/\(0 < n->∃ ad,ao=some ad/\∀ (j:Nat) (v:Value),xs[j]?=some v->w.cell? (ad.add j)=some v):=by
         rcases hro with rfl | ⟨b,o,hao,_,_,hr⟩
         ·exact⟨[],by simp,by simp[bg],fun h=>by simp at hnr; omega⟩
         ·obtain⟨us,h1,h2⟩:=mem_of_rows (φ:=φ) hr
          refine⟨us,by rw[<- bY h1,List.length_map,dX hr1],h1,fun _=>⟨⟨b,o,none⟩,hao,fun j v hj=>?_⟩⟩
          rw[addr_add]
          exact (h2 j v hj).1
        obtain⟨v',w',hrun,hos,htp,hout,hsize,hblk',hnew,hrow'⟩:=run_appX (P:=P) (ty:=o.type) (c:=c) (T.und.trans (by rw[hde])) TE hsz hby (n:=rows.length) (xs:=xs) hxl (by rw[<- hnr]; exact hcell) hnl hA (ji hxs) (ji hns) hpos hbd
        have hfl:∀ r∈rows++news,r.length=te.size:=fun r hr=>by
         rcases List.mem_append.1 hr with hr | hr
         ·exact hr1 r hr
         ·exact hn1 r hr
        have hone:v'.oneCell'=true:=by
         rcases hrow' with ⟨_,_,a0,rfl⟩ | ⟨_,_,_,_,rfl,_⟩<;>rfl
        have hdv':hdv v'=v':=by
         rcases hrow' with ⟨_,_,a0,rfl⟩ | ⟨_,_,_,_,rfl,_⟩<;>rfl
        have key:=hs.core.replace (so:=none) (d:=d) (hv:=v') (ob:=.row te.size e (rows++news)) (w':=w') hd' (fun _ _ h=>by cases h) hos htp hout (pa _ _ _ _ hrun) hsize
         (fun b hl _=>hblk' b hl) (fun b hb=>⟨.inl (hnew b hb).1,(hnew b hb).2⟩) (fun _ _ _ h=>by cases h)
         (fun hkp=>by
          refine⟨hfl,?_⟩
          rw[upd_same]
          have hcs:bg (upd φ d v') w' (cx.fr (upd φ d v') (upd (cj d (drop none O)) d (some (.row te.size e (rows++news))))) ((rows++news).flatten.map C.d) (xs++ns):=by
           rw[List.flatten_append,List.map_append]
           exact dZ (gj (cD hkp _ _ hxs)) (gj (cD hkp _ _ hns))
          rcases hrow' with ⟨h0,_,a0,hv⟩ | ⟨b,cap,cur,h0,hv,h1,h2,h3,h4,h5⟩
          ·omega
          ·refine .inr ⟨b,cap,cur,h0,by rw[List.length_append]; exact hv,by rw[List.length_append]; exact h1,h2,h3,h4,?_⟩
           rw[List.length_append,h5]
           exact hcs)
        rw[jd] at key
        refine Step.of_run (u:=v') (w':=w') ?_ (by rw[hdst]; exact Sim.new hs hd key rfl (by simp only[bm]; rw[upd_same,hdv']; exact⟨rfl,hone⟩)) hk hn
        unfold execOp
        rw[hnr] at hxe
        simp only[hop,resolve,invoke,builtin,Sem.run_bind,Sem.run_pure,Result.andThen_ok,List.map_toArray,List.map_cons,List.map_nil,hq,hxe,hrun]
       ·cases hfu
      ·cases hfu
     ·exact h.elim
    ·exact h.elim
   ·exact h.elim
  ·exact h.elim
 ·exact h.elim
theorem run_appS {w:World} {t ts ty e:TypeId} {te:TI} (hT:P.underlying t=some (.slice e)) (hS:P.underlying ts=some .string) (TE:TabFact P e te) (hsz:te.size=1) (hby:0 < te.bytes) {u:Value} {n:Nat} {xs:List Value} (hu:jC w e te.size u n xs) (hxl:xs.length=n)
  (s:ByteArray) (hb:(n+(bsl s).length)*te.bytes<=140737488355328) :
  ∃ v' w',(Builtin.append_ #[t,ts] ty #[u,.string s]).run P w=.ok v' w'/\w'.os=w.os/\w'.tape=w.tape/\w'.output=w.output/\w.heap.size<=w'.heap.size/\(∀ b,b < w.heap.size->¬ hbl u b->w'.heap[b]?=w.heap[b]?) /\
   (∀ b,hbl v' b->(w.heap.size<=b \/ hbl u b)/\b < w'.heap.size)/\jC w' e te.size v' (n+(bsl s).length) (xs++Lib.strCells s):=by
 have hm:(bsl s).length=s.size:=rfl
 rw[hm] at hb ⊢
 obtain⟨i,hi,hi1,hi2,hi3⟩:=TE.get
 rw[hsz] at hi1 hu ⊢
 have hzs:=TE.zsize
 rw[hsz] at hzs
 have hnm:n+s.size<=(n+s.size)*te.bytes:=Nat.le_mul_of_pos_right _ hby
 have h63:n+s.size<=maxLen:=by simp only[maxLen]; omega
 have hlen:(xs++Lib.strCells s).length=n+s.size:=by rw[List.length_append,hxl,Lib.strCells_length]
 have grown:∀ (old:Nat),0 < n+s.size->∀ C:Array Value,C=xs.toArray++(Lib.strCells s).toArray++Builtin.zeroCells te.zv.cells (grownCap w (n+s.size) old e - (n+s.size)) ->
   (Builtin.append_ #[t,ts] ty #[u,.string s]).run P w=.ok (.slice (some ⟨w.heap.size,0,none⟩) (n+s.size) (grownCap w (n+s.size) old e)) (w.drew.alloc (.cells C e)) ->
   ∃ v' w',(Builtin.append_ #[t,ts] ty #[u,.string s]).run P w=.ok v' w'/\w'.os=w.os/\w'.tape=w.tape/\w'.output=w.output/\w.heap.size<=w'.heap.size/\(∀ b,b < w.heap.size->¬ hbl u b->w'.heap[b]?=w.heap[b]?) /\
   (∀ b,hbl v' b->(w.heap.size<=b \/ hbl u b)/\b < w'.heap.size)/\jC w' e 1 v' (n+s.size) (xs++Lib.strCells s):=by
  rintro old hpos C rfl hrun
  have hge:=grownCap_ge w (n+s.size) old e
  have hcm:=grownCap_le_maxLen w (n+s.size) old e h63
  refine⟨_,_,hrun,rfl,rfl,rfl,by simp,fun k hk _=>Below.heap_alloc w.drew _ k hk,fun b hbk=>?_,.inr ⟨w.heap.size,_,_,by omega,rfl,hge,hcm,heap_alloc_new w.drew _,?_,?_⟩⟩
  ·simp_all
  ·simp only[Array.size_append,List.size_toArray,size_zeroCells,hzs,hxl,Lib.strCells_length]
   omega
  grind
 rcases hu with ⟨rfl,rfl,a,rfl⟩ | ⟨b,cap,cur,h0,rfl,hnc,hcm,hh,hcs,htk⟩
 ·by_cases hz:s.size=0
  ·have hn:Lib.strCells s=[]:=List.eq_nil_of_length_eq_zero (by simp_all)
   refine⟨.slice a 0 0,w,?_,rfl,rfl,rfl,Nat.le_refl _,fun _ _ _=>rfl,fun b hbk=>?_,.inl ⟨by omega,by simp[hn],a,rfl⟩⟩
   ·have hf:=Lib.run_firstCells_string (P:=P) w 1 s
    rw[hz,hn] at hf
    cases a<;>simp[Builtin.append_,run_underlying hT,run_underlying hS,sizeOf,typeInfo,hi,hi1,Builtin.lenOf,hz,hf,storeCells]
   simp_all
  ·cases a with
   | none =>
    have hr:=run_append_nil_string (P:=P) w t ts ty e i te.zv hT hS hi hi3 s (by omega) (by omega) (by grind)
    refine grown 0 (by omega) _ ?_ (by simpa using hr)
    have e1:(s.data.map fun b=>Value.int .u8 b.toNat)=(Lib.strCells s).toArray:=by
     apply Array.ext'
     simp[Lib.strCells]
    simp[e1]
   | some a0 =>
    have hr:=Lib.run_append_grow_string (P:=P) w t ts ty e i te.zv hT hS hi hi3 a0 0 0 [] (by simp) (fun j v hj=>by simp at hj) s (by omega) (by omega) (growslice_fits (by omega) (by rw[hi2]; exact hb))
    grind
 ·by_cases hroom:n+s.size<=cap
  ·have hcs':cur.size=cap:=by simpa using hcs
   have hr:=Lib.run_append_room_string (P:=P) w t ts ty e i hT hS hi hi1 b n cap cur hh s hroom (by omega)
   have hbl:=(Array.getElem?_eq_some_iff.1 hh).1
   refine⟨_,_,hr,rfl,rfl,rfl,by simp,fun k _ hk=>setRow_other w b k _ (fun e=>hk (by simp_all)),fun k hk=>?_,.inr ⟨b,cap,_,h0,rfl,hroom,hcm,setRow_heap w b cur _ e _ hh,?_,?_⟩⟩
   ·simp_all
   ·grind
   grind
  ·have holds:∀ j v,xs[j]?=some v->w.cell? ((⟨b,0,none⟩:Addr).add j)=some v:=fun j v hj=>by
    rw[addr_add]
    simp only[World.cell?,hh,Nat.zero_add]
    grind
   have hr:=Lib.run_append_grow_string (P:=P) w t ts ty e i te.zv hT hS hi hi3 ⟨b,0,none⟩ n cap xs (by simp_all) holds s (by omega) (by omega) (growslice_fits (by omega) (by rw[hi2]; exact hb))
   grind
theorem appendS_sound (ht:TbOk P tb) {d:Nat} {x y:Operand} {t t':TypeId} {ats:Array TypeId} {args:Array Operand} (hop:o.op=.call { callee:=.builtin .append,args:=args,argTypes:=ats }) (hargs:args.toList=[x,y]) (hats:ats.toList=[t,t'])
  (hdst:o.dst=some d) (hd:d < cx.n) (hd':d < inBase) (h:np tb Z O d t t' (oev Z x) (oev Z y) K):Step P cx o Z O K:=by
 intro φ a w hs next Q hn
 obtain⟨args⟩:=args
 obtain⟨ats⟩:=ats
 simp only at hargs hats
 subst hargs hats
 have hx:=dd hs.core.gw hs.slots x
 have hy:=dd hs.core.gw hs.slots y
 unfold np at h
 split at h
 ·rename_i ti ts hty hty'
  have T:=ht.ty t ti hty
  have TS:=ht.ty t' ts hty'
  split at h
  ·rename_i e hde hds
   split at h
   ·rename_i te hte
    have TE:=ht.ty e te hte
    split at h
    ·rename_i so rows l hf hsn
     obtain⟨hby,hbd,hk⟩:=h
     obtain⟨s,hyv,hz1,rfl⟩:∃ s,oev Z y=.u (.one (.d (.str s)))/\te.size=1/\l=bsl s:=by
      unfold strRow at hsn
      grind
     rw[hyv] at hy
     have hq:a.eval y=.string s:=by grind [bn,bR,bm,rep]
     have hsz:0 < te.size:=by omega
     have hn1:∀ r∈(bsl s).map nI,r.length=te.size:=fun r hr=>by
      obtain⟨b,_,rfl⟩:=List.mem_map.1 hr
      rw[hz1]; rfl
     have hns:bg φ w (cx.fr φ O) (((bsl s).map nI).flatten.map C.d) (Lib.strCells s):=by
      have key:∀ l:List UInt8,bg φ w (cx.fr φ O) ((l.map nI).flatten.map C.d) (l.map fun b=>Value.int .u8 b.toNat):=by
       intro l
       induction l with
       | nil=>simp[bg]
       | cons b l ih =>
        simp only[List.map_cons,nI,List.flatten_cons,List.cons_append,List.nil_append,bg]
        exact⟨_,_,rfl,by simp[bm,rep],ih⟩
      exact key (bsl s)
     have hfst:(∀ r∈rows,r.length=te.size)/\(∃ xs,jC w e te.size (a.eval x) rows.length xs/\bg φ w (cx.fr φ O) (rows.flatten.map C.d) xs)/\(∀ s o,so=some s->O s=some o->∃ sz e rows,o=.row sz e rows) /\
       (∀ b,hbl (a.eval x) b->∃ s o,so=some s/\O s=some o/\hbl (φ s) b)/\(∀ b,(∀ s o,so=some s->O s=some o->¬ hbl (φ s) b)->¬ hbl (a.eval x) b):=by
      unfold fstRow at hf
      split at hf
      ·cases hf
       rename_i hxv
       rw[hxv] at hx
       simp only[bn,bR,bm,rep] at hx
       rw[hx]
       refine⟨by simp,⟨[],.inl ⟨rfl,rfl,none,rfl⟩,by simp[bg]⟩,?_,?_,?_⟩
       ·simp
       ·intro b h; cases h
       ·intro b _ h; cases h
      ·cases hf
       rename_i hxv
       rw[hxv] at hx
       simp only[bn,bR,bm,rep] at hx
       obtain⟨a0,ha0⟩:=hx
       rw[ha0]
       refine⟨by simp,⟨[],.inl ⟨rfl,rfl,a0,rfl⟩,by simp[bg]⟩,?_,?_,?_⟩
       ·simp
       ·simp
       simp
      ·rename_i s hxv
       split at hf
       ·rename_i sz' e' rows' hs'
        split at hf
        ·rename_i hz
         cases hf
         obtain⟨rfl,rfl⟩:=hz
         rw[hxv] at hx
         obtain⟨hxe,_⟩:=hx
         obtain⟨h1,ho⟩:=hs.core.objs s _ hs'
         have hv:hdv (φ s)=φ s:=by rcases ho with ⟨_,a,h⟩ | ⟨_,_,_,_,h,_⟩<;>rw[h]<;>rfl
         rw[hxe,hv]
         refine⟨h1,?_,fun s' o' hso hs2=>?_,fun b hb=>⟨s,_,rfl,hs',hb⟩,fun b hb=>hb s _ rfl hs'⟩
         ·rcases ho with ⟨rfl,a0,ha0⟩ | ⟨b,cap,cur,h0,hp,hl,hm',hh,hs',hc⟩
          ·exact⟨[],.inl ⟨rfl,rfl,a0,ha0⟩,by simp[bg]⟩
          ·exact⟨_,.inr ⟨b,cap,cur,h0,hp,hl,hm',hh,hs',rfl⟩,hc⟩
         simp_all
        ·cases hf
       ·cases hf
      ·cases hf
     obtain⟨hr1,⟨xs,hrow,hxs⟩,hso,hbo,hbo'⟩:=hfst
     have hxl:xs.length=rows.length*te.size:=by rw[<- bY hxs,List.length_map,dX hr1]
     obtain⟨v',w',hrun,hos,htp,hout,hsize,hblk',hnew,hrow'⟩:=run_appS (P:=P) (ty:=o.type) (T.und.trans (by rw[hde])) (TS.und.trans (by rw[hds])) TE hz1 hby hrow (by simp_all) s (by simpa using hbd)
     have hfl:∀ r∈rows++(bsl s).map nI,r.length=te.size:=fun r hr=>by
      grind
     have hone:v'.oneCell'=true:=by
      rcases hrow' with ⟨_,_,a0,rfl⟩ | ⟨_,_,_,_,rfl,_⟩<;>rfl
     have key:=hs.core.replace (so:=so) (d:=d) (hv:=v') (ob:=.row te.size e (rows++(bsl s).map nI)) (w':=w') hd' (fun s o h1 h2 kk es e=>by obtain⟨_,_,_,h3⟩:=hso s o h1 h2; rw[h3] at e; cases e) hos htp hout (pa _ _ _ _ hrun) hsize
      (fun b hl hne=>hblk' b hl (hbo' b hne)) (fun b hb=>by
       grind) (fun _ _ _ h=>by cases h)
      (fun hkp=>by
       refine⟨hfl,?_⟩
       rw[upd_same]
       have hcs:bg (upd φ d v') w' (cx.fr (upd φ d v') (upd (cj d (drop so O)) d (some (.row te.size e (rows++(bsl s).map nI))))) ((rows++(bsl s).map nI).flatten.map C.d) (xs++Lib.strCells s):=by
        grind [dZ,gj,cD]
       rcases hrow' with ⟨h0,_,a0,hv⟩ | ⟨b,cap,cur,h0,hv,h1,h2,h3,h4,h5⟩
       ·simp_all
       grind)
     refine Step.of_run (u:=v') (w':=w') ?_ (by rw[hdst]; exact Sim.new hs hd key rfl (by simp only[bm]; rw[upd_same,show hdv v'=v' by rcases hrow' with ⟨_,_,a0,rfl⟩ | ⟨_,_,_,_,rfl,_⟩<;>rfl]; exact⟨rfl,hone⟩)) hk hn
     unfold execOp
     simp only[hop,resolve,invoke,builtin,Sem.run_bind,Sem.run_pure,Result.andThen_ok,List.map_toArray,List.map_cons,List.map_nil,hq,hrun]
    ·exact h.elim
   ·exact h.elim
  ·exact h.elim
 ·exact h.elim
end
end Go.AM
namespace Go.AM
open Go.RowKit
theorem pF:∀ {es:List (Key×U)} {j:Nat} {k:Key} {x u:U},(es.map (·.1)).Nodup->es[j]?=some (k,x)->mset es k u=es.set j (k,u)
 | [],j,_,_,_,_,h=>by simp at h
 | y::es,0,k,x,u,_,h=>by simp_all [mset]
 | y::es,j+1,k,x,u,hn,h=>by
  simp only[List.map_cons,List.nodup_cons] at hn
  simp only[List.getElem?_cons_succ] at h
  have:y.1≠k:=fun e=>hn.1 (by grind)
  simp only[mset,if_neg this,List.set_cons_succ]
  rw[pF hn.2 h]
theorem mget_none_ne:∀ {es:List (Key×U)} {k:Key},pt es k=none->∀ x∈es,x.1≠k
 | [],_,_,x,hx=>by cases hx
 | y::es,k,h,x,hx=>by
  simp only[pt] at h
  split at h
  ·cases h
  ·rename_i hne
   rcases List.mem_cons.1 hx with rfl | hx
   ·exact hne
   ·exact mget_none_ne h x hx
theorem mset_new:∀ {es:List (Key×U)} {k:Key} {u:U},pt es k=none->mset es k u=es++[(k,u)]
 | [],_,_,_=>rfl
 | y::es,k,u,h=>by
  simp only[pt] at h
  split at h
  ·cases h
  ·rename_i hne
   simp only[mset,if_neg hne,List.cons_append]
   rw[mset_new h]
theorem pL:∀ {es:List (Key×U)} {j:Nat} {k:Key} {x:U},(es.map (·.1)).Nodup->es[j]?=some (k,x)->mdel es k=es.eraseIdx j
 | [],j,_,_,_,h=>by simp at h
 | y::es,0,k,x,_,h=>by simp_all [mdel]
 | y::es,j+1,k,x,hn,h=>by
  simp only[List.map_cons,List.nodup_cons] at hn
  simp only[List.getElem?_cons_succ] at h
  have:y.1≠k:=fun e=>hn.1 (by grind)
  simp only[mdel,if_neg this,List.eraseIdx_cons_succ]
  rw[pL hn.2 h]
theorem mdel_none:∀ {es:List (Key×U)} {k:Key},pt es k=none->mdel es k=es
 | [],_,_=>rfl
 | y::es,k,h=>by
  simp only[pt] at h
  split at h
  ·cases h
  ·rename_i hne
   simp only[mdel,if_neg hne]
   rw[mdel_none h]
section
variable {P:Program} {tb:Tb} {cx:Cx} {Z:Env} {O:Sto} {o:Oper} {K:Env->Sto->Prop} {φ:Nat->Value} {w:World} {F:Nat->Prop}
theorem esims_set:∀ {es:List (Key×U)} {l:List MapEntry} {j:Nat} {k:Key} {u:U} {e:MapEntry},eH φ w F es l->e.key=k.val->bR φ w F u e.val->eH φ w F (es.set j (k,u)) (l.set j e)
 | [],_,j,_,_,_,h,_,_=>by simp_all [eH]
 | x::es,l,j,k,u,e,h,hk,hu=>by
  obtain⟨e',r,rfl,h1,h2,h3⟩:=h
  cases j with
  | zero=>exact⟨e,r,rfl,hk,hu,h3⟩
  | succ j=>exact⟨e',_,rfl,h1,h2,esims_set h3 hk hu⟩
theorem esims_append:∀ {es fs:List (Key×U)} {l m:List MapEntry},eH φ w F es l->eH φ w F fs m->eH φ w F (es++fs) (l++m)
 | [],_,_,_,h,h'=>by simp_all [eH]
 | x::es,fs,l,m,h,h'=>by
  obtain⟨e,r,rfl,h1,h2,h3⟩:=h
  exact⟨e,r++m,rfl,h1,h2,esims_append h3 h'⟩
theorem nF:∀ {es:List (Key×U)} {l:List MapEntry} {j:Nat},eH φ w F es l->eH φ w F (es.eraseIdx j) (l.eraseIdx j)
 | [],_,j,h=>by simp_all [eH]
 | x::es,l,j,h=>by
  obtain⟨e,r,rfl,h1,h2,h3⟩:=h
  cases j with
  | zero=>exact h3
  | succ j=>exact⟨e,_,rfl,h1,h2,nF h3⟩
def gr (w:World) (b:Nat) (o:Obj):World:={ w with heap:=w.heap.setIfInBounds b o }
theorem oM (w:World) (b b':Nat) (o:Obj) (h:b≠b'):(gr w b o).heap[b']?=w.heap[b']?:=by
 simp[gr,Array.getElem?_setIfInBounds_ne h]
theorem setObjW_same (w:World) (b:Nat) (o:Obj) (h:b < w.heap.size):(gr w b o).heap[b]?=some o:=by simp[gr,h]
theorem jD {b:Nat} {ents:Array MapEntry} {clk:Nat} (hh:w.heap[b]?=some (.map ents clk)):(getObj b).run P w=.ok (.map ents clk) w:=by simp[getObj,Sem.run,hh]
theorem qi {b:Nat} {ents:Array MapEntry} {clk:Nat} (hh:w.heap[b]?=some (.map ents clk)) (o:Obj):(setObj b o).run P w=.ok () (gr w b o):=by simp[setObj,Sem.run,hh,gr]
theorem dropIt_sub {s t:Nat} {o:Ob} (h:jW s O t=some o):O t=some o:=by
 grind [jW]
theorem dropIt_iter {s t m:Nat} {l:List (Key×U)} {la:Option (Key×U)} (h:jW s O t=some (.iter m l la)):m≠s:=by
 grind [jW]
theorem dropIt_map {s m:Nat} {kk:KK} {es:List (Key×U)} (h:O m=some (.map kk es)):jW s O m=some (.map kk es):=by
 unfold jW
 rw[h]
theorem mapWrite (hco:Core cx φ O w) {s:Nat} {kk:KK} {es es':List (Key×U)} (hs:O s=some (.map kk es)) {b:Nat} {ents:Array MapEntry} {clk clk':Nat} {ents':Array MapEntry} (hp:φ s=.map (some b)) (hh:w.heap[b]?=some (.map ents clk))
  (hes:∀ F' w',Keep (cx.fr φ O) F' w w'->eH φ w' F' es' ents'.toList)
  (h1:(ents'.toList.map (·.born)).Nodup) (h2:∀ e∈ents'.toList,e.born < clk') (h3:∀ x∈es',x.1.fits kk=true) (h4:(es'.map (·.1)).Nodup) :
  Core cx φ (upd (jW s O) s (some (.map kk es'))) (gr w b (.map ents' clk'))/\Keep (cx.fr φ O) (cx.fr φ (upd (jW s O) s (some (.map kk es')))) w (gr w b (.map ents' clk')):=by
 have hl:b < w.heap.size:=(Array.getElem?_eq_some_iff.1 hh).1
 refine hco.mutate (ob':=.map kk es') hs (fun t o _ h=>dropIt_sub h) (fun t m l la _ h=>dropIt_iter h) (fun m kk es h _=>dropIt_map h) (fun _ _ _ h=>by cases h) rfl rfl rfl (Nat.le_refl _) (by simp[gr])
  (fun b' _ hne=>oM w b b' _ (fun e=>hne (by rw[hp,e]; simp))) (fun hk=>?_)
 exact⟨b,ents',clk',hp,setObjW_same w b _ hl,hes _ _ hk,h1,h2,h3,h4⟩
theorem Sim.written {φ:Nat->Value} {a:Act} {w w':World} {O':Sto} (hs:Sim cx φ Z O a w) (h:Core cx φ O' w'/\Keep (cx.fr φ O) (cx.fr φ O') w w'):Sim cx φ Z O' a w' :=
 ⟨h.1,fun t=>el h.2 _ _ (hs.slots t),hs.defers,hs.room⟩
theorem mapset_sound (ht:TbOk P tb) {t:TypeId} {m k x:Operand} (hop:o.op=.mapUpdate t m k x) (hdst:o.dst=none) (h:oG tb Z O t (oev Z m) (oev Z k) (oev Z x) K):Step P cx o Z O K:=by
 intro φ a w hs next Q hn
 have hm:=dd hs.core.gw hs.slots m
 have hk:=dd hs.core.gw hs.slots k
 have hx:=dd hs.core.gw hs.slots x
 unfold oG at h
 split at h
 ·rename_i ti s key u hty hmv hkv hxv
  have T:=ht.ty t ti hty
  split at h
  ·rename_i kt e kk es hd hs'
   obtain⟨hkt,hfit,hK⟩:=h
   obtain⟨b,ents,clk,hp,hh,hes,hb1,hb2,hfits,hnd⟩:=hs.core.objs s _ hs'
   rw[hmv] at hm
   have hme:a.eval m=.map (some b):=hm.1.trans (by rw[hp]; rfl)
   have hke:=vkey_sound hkv hk
   have hxu:bR φ w (cx.fr φ O) u (a.eval x):=by
    unfold vu at hxv
    split at hxv
    ·cases hxv
     rename_i hxe
     rw[hxe] at hx
     exact hx
    ·cases hxv
   obtain⟨hchk,hfind⟩:=find_sound (P:=P) (w:=w) ht hkt hes hfits hnd hfit
   obtain⟨K',hof⟩:=ht.key kt kk hkt
   obtain⟨lk,hlk⟩:=hof key hfit
   rcases hfind with ⟨h1,h2⟩ | ⟨j,en,x',h1,h2,h3,h4,h5,h6⟩
   ·have hw:=mapWrite hs.core hs' hp hh (es':=mset es key u) (ents':=ents.push { key:=key.val,val:=a.eval x,born:=clk }) (clk':=clk+1)
     (fun F' w' hkp=>by
      rw[mset_new h2,Array.toList_push]
      exact esims_append (gV hkp hes) ⟨_,[],rfl,rfl,kQ hkp _ _ hxu,rfl⟩)
     (by
      grind)
     (fun e he=>by
      grind)
     (fun y hy=>by
      rw[mset_new h2] at hy
      grind)
     (by
      rw[mset_new h2,List.map_append,List.nodup_append]
      refine⟨hnd,by simp,fun p hp q hq=>?_⟩
      obtain⟨e,he,rfl⟩:=List.mem_map.1 hp
      simp only[List.map_cons,List.map_nil,List.mem_cons,List.not_mem_nil,or_false] at hq
      grind [mget_none_ne])
    have hrun:(execOp a.eval o).run P w=.ok .skip (gr w b (.map (ents.push { key:=key.val,val:=a.eval x,born:=clk }) (clk+1))):=by
     simp only[execOp,hop,hme,hke,Instr.mapUpdate,Sem.run_bind,T.run_und,Result.andThen_ok,hd,jD hh,hchk,h1,qi hh,Sem.run_pure]
    unfold Oper.wp
    rw[hrun]
    refine hn φ Z _ _ _ ?_ hK
    rw[hdst]
    exact hs.written hw
   ·have hej:ents[j]?=some en:=by simpa using h2
    have hlt:j < ents.size:=(Array.getElem?_eq_some_iff.1 hej).1
    have hmod:(ents.modify j fun e=>{ e with key:=key.val,val:=a.eval x }).toList=ents.toList.set j { key:=key.val,val:=a.eval x,born:=en.born }:=by
     apply List.ext_getElem?
     grind
    have hborn:(ents.toList.set j { key:=key.val,val:=a.eval x,born:=en.born }).map (·.born)=ents.toList.map (·.born):=by
     simp_all [iV]
    have hw:=mapWrite hs.core hs' hp hh (es':=mset es key u) (ents':=ents.modify j fun e=>{ e with key:=key.val,val:=a.eval x }) (clk':=clk)
     (fun F' w' hkp=>by
      rw[pF hnd h4,hmod]
      exact esims_set (gV hkp hes) rfl (kQ hkp _ _ hxu))
     (by simp_all)
     (fun e he=>by
      grind)
     (fun y hy=>by
      rw[pF hnd h4] at hy
      grind)
     (by
      rw[pF hnd h4,List.map_set,iV (by simp_all)]
      exact hnd)
    have hstay:=K'.stays w hlk
    have hrun:(execOp a.eval o).run P w=.ok .skip (gr w b (.map (ents.modify j fun e=>{ e with key:=key.val,val:=a.eval x }) clk)):=by
     simp only[execOp,hop,hme,hke,Instr.mapUpdate,Sem.run_bind,T.run_und,Result.andThen_ok,hd,jD hh,hchk,h1,hej,Option.map_some,Option.getD_some,h3,hstay,qi hh,Sem.run_pure]
    unfold Oper.wp
    rw[hrun]
    refine hn φ Z _ _ _ ?_ hK
    rw[hdst]
    exact hs.written hw
  ·exact h.elim
 ·exact h.elim
theorem delete_sound (ht:TbOk P tb) {t t':TypeId} {m k:Operand} {args:Array Operand} {ats:Array TypeId} (hop:o.op=.call { callee:=.builtin .delete,args:=args,argTypes:=ats }) (hargs:args.toList=[m,k]) (hats:ats.toList=[t,t'])
  (hd':∀ x,o.dst=some x->x < cx.n) (h:aDelete tb Z O o.dst t (oev Z m) (oev Z k) K):Step P cx o Z O K:=by
 intro φ a w hs next Q hn
 obtain⟨args⟩:=args
 obtain⟨ats⟩:=ats
 simp only at hargs hats
 subst hargs hats
 have hm:=dd hs.core.gw hs.slots m
 have hk:=dd hs.core.gw hs.slots k
 unfold aDelete at h
 split at h
 ·rename_i ti s key hty hmv hkv
  have T:=ht.ty t ti hty
  split at h
  ·rename_i kt e kk es hd hs'
   obtain⟨hkt,hfit,hK⟩:=h
   obtain⟨b,ents,clk,hp,hh,hes,hb1,hb2,hfits,hnd⟩:=hs.core.objs s _ hs'
   rw[hmv] at hm
   have hme:a.eval m=.map (some b):=hm.1.trans (by rw[hp]; rfl)
   have hke:=vkey_sound hkv hk
   obtain⟨hchk,hfind⟩:=find_sound (P:=P) (w:=w) ht hkt hes hfits hnd hfit
   rcases hfind with ⟨h1,h2⟩ | ⟨j,en,x',h1,h2,h3,h4,h5,h6⟩
   ·have hw:=mapWrite hs.core hs' hp hh (es':=mdel es key) (ents':=ents) (clk':=clk) (fun F' w' hkp=>by grind [mdel_none,gV]) hb1 hb2 (by rw[mdel_none h2]; exact hfits) (by rw[mdel_none h2]; exact hnd)
    refine Step.of_run (u:=.tuple #[]) (w':=gr w b (.map ents clk)) ?_ ((hs.written hw).put hd' (v:=.tup []) ⟨#[],rfl,rfl⟩) hK hn
    unfold execOp
    simp only[hop,resolve,invoke,builtin,Builtin.delete_,Sem.run_bind,Sem.run_pure,Result.andThen_ok,List.map_toArray,List.map_cons,List.map_nil,List.getElem?_toArray,List.getElem?_cons_zero,List.getElem?_cons_succ,hme,hke,T.run_und,hd,jD hh,hchk,h1,qi hh]
   ·have hej:ents[j]?=some en:=by simpa using h2
    have hlt:j < ents.size:=(Array.getElem?_eq_some_iff.1 hej).1
    have hel:(ents.eraseIdxIfInBounds j).toList=ents.toList.eraseIdx j:=by
     simp
    have hw:=mapWrite hs.core hs' hp hh (es':=mdel es key) (ents':=ents.eraseIdxIfInBounds j) (clk':=clk) (fun F' w' hkp=>by rw[pL hnd h4,hel]; exact nF (gV hkp hes))
     (by grind) (fun e he=>by grind)
     (fun y hy=>by rw[pL hnd h4] at hy; exact hfits y (List.mem_of_mem_eraseIdx hy)) (by rw[pL hnd h4]; grind)
    refine Step.of_run (u:=.tuple #[]) (w':=gr w b (.map (ents.eraseIdxIfInBounds j) clk)) ?_ ((hs.written hw).put hd' (v:=.tup []) ⟨#[],rfl,rfl⟩) hK hn
    unfold execOp
    simp only[hop,resolve,invoke,builtin,Builtin.delete_,Sem.run_bind,Sem.run_pure,Result.andThen_ok,List.map_toArray,List.map_cons,List.map_nil,List.getElem?_toArray,List.getElem?_cons_zero,List.getElem?_cons_succ,hme,hke,T.run_und,hd,jD hh,hchk,h1,qi hh]
  ·exact h.elim
 ·exact h.elim
theorem makeMap_sound (ht:TbOk P tb) {d:Nat} {t:TypeId} {r:Option Operand} (hop:o.op=.makeMap t r) (hdst:o.dst=some d) (hd:d < cx.n) (hd':d < inBase) (h:mr tb Z O d t (r.map (oev Z)) K):Step P cx o Z O K:=by
 intro φ a w hs next Q hn
 unfold mr at h
 split at h
 ·rename_i ti hty
  have T:=ht.ty t ti hty
  split at h
  ·rename_i kt e hde
   split at h
   ·rename_i kk hkk
    obtain⟨hr,hK⟩:=h
    have hb:Blw w.heap.size w (w.alloc (.map #[] 0)):=(Blw.refl _ _).alloc (Nat.le_refl _) _
    have key:=hs.core.replace (so:=none) (d:=d) (hv:=.map (some w.heap.size)) (ob:=.map kk []) (w':=w.alloc (.map #[] 0)) hd' (fun _ _ h=>by cases h) hb.os hb.tape hb.output hb.drawn hb.size
     (fun b hl _=>hb.block b hl) (fun b hbk=>by simp_all) (fun _ _ _ h=>by cases h)
     (fun _=>⟨w.heap.size,#[],0,upd_same _ _ _,heap_alloc_new w _,rfl,by simp,by simp,by simp,by simp⟩)
    rw[jd] at key
    refine Step.of_run (u:=.map (some w.heap.size)) (w':=w.alloc (.map #[] 0)) ?_ (by rw[hdst]; exact Sim.new hs hd key rfl (by simp only[bm]; exact⟨(by rw[upd_same]; rfl),rfl⟩)) hK hn
    have hnew:(newObj (.map #[] 0)).run P w=.ok w.heap.size (w.alloc (.map #[] 0)):=rfl
    cases r with
    | none=>simp only[execOp,hop,Instr.makeMap,Option.map_none,Sem.run_bind,Sem.run_pure,Result.andThen_ok,hnew]
    | some x =>
     have hx:=dd hs.core.gw hs.slots x
     simp only[Option.map_some] at hr
     unfold qint at hr
     split at hr
     ·rename_i q n hxe
      rw[hxe] at hx
      simp only[bn,bR,bm,rep] at hx
      simp only[execOp,hop,Instr.makeMap,Option.map_some,Sem.run_bind,Sem.run_pure,Result.andThen_ok,T.run_und,hde,hx,asInt,asIntOf,hnew]
     ·cases hr
   ·exact h.elim
  ·exact h.elim
 ·exact h.elim
theorem makeSlice_sound (ht:TbOk P tb) {d:Nat} {t:TypeId} {x c:Operand} (hop:o.op=.makeSlice t x c) (hdst:o.dst=some d) (hd:d < cx.n) (hd':d < inBase) (h:jr tb Z O d t (oev Z x) (oev Z c) K):Step P cx o Z O K:=by
 intro φ a w hs next Q hn
 unfold jr at h
 split at h
 ·rename_i ti hty
  have T:=ht.ty t ti hty
  split at h
  ·rename_i e hde
   split at h
   ·rename_i te hte
    have TE:=ht.ty e te hte
    split at h
    ·rename_i n m zr hx hc hz
     obtain⟨⟨h0,hnm,hsz,hby,hbm⟩,hK⟩:=h
     have hx':=dd hs.core.gw hs.slots x
     have hc':=dd hs.core.gw hs.slots c
     rw[hx] at hx'
     rw[hc] at hc'
     simp only[bn,bR,bm,rep] at hx' hc'
     obtain⟨i,hi,hi1,hi2,hi3⟩:=TE.get
     obtain⟨zs,hzs,hzr⟩:=Option.bind_eq_some_iff.1 hz
     have hzc:=eX (φ:=φ) (w:=w) (F:=cx.fr φ O) hzs (TE.zero _ _ _)
     rw[lX hzr] at hzc
     have hm0:0<=m:=by omega
     obtain⟨N,rfl⟩:=Int.eq_ofNat_of_zero_le h0
     obtain⟨M,rfl⟩:=Int.eq_ofNat_of_zero_le hm0
     have hNM:N<=M:=by omega
     have hMM:M<=M*te.bytes:=Nat.le_mul_of_pos_right _ hby
     have hbM:M*te.bytes<=140737488355328:=by omega
     have hwN:IntKind.i64.wrap (N:Int)=N:=IntWalk.i64_in _ ⟨by omega,by omega⟩
     have hwM:IntKind.i64.wrap (M:Int)=M:=IntWalk.i64_in _ ⟨by omega,by omega⟩
     have hzcs:=TE.zsize
     have hbi:¬ ((te.bytes:Int)*(M:Int) > 2 ^ 48):=by
      grind
     have hroom:∀ b:Nat,(askRoom b).run P w=.ok () w:=fun b=>by simp
     let cells:Array Value:=(Array.range (M*te.zv.cells.size)).map fun j=>te.zv.cells[j % te.zv.cells.size]!
     have hrun:(Instr.makeSlice t (.int .i64 N) (.int .i64 M)).run P w=.ok (.slice (some ⟨w.heap.size,0,none⟩) N M) (w.alloc (.cells cells e)):=by
      have hnew:∀ cs:Array Value,(newRow e cs).run P w=.ok ⟨w.heap.size,0,none⟩ (w.alloc (.cells cs e)):=fun cs=>rfl
      have hM0:¬ ((M:Int) < 0):=by omega
      have hN0:¬ ((N:Int) < 0):=by omega
      have hNM0:¬ ((N:Int) > M):=by omega
      have hti:(typeInfo e).run P w=.ok i w:=by simp[typeInfo,hi]
      unfold Instr.makeSlice
      simp only[Sem.run_bind,T.run_und,Result.andThen_ok,hde,asInt,asIntOf,Sem.run_pure,hti,hi2,hwN,hwM,hM0,hN0,hNM0,hbi,decide_false,Bool.or_self,Bool.false_eq_true,if_false,hroom,TE.run_size,Int.toNat_natCast]
      split
      ·rename_i h0
       have:M*te.size=0:=h0
       simp only[Sem.run_bind,Sem.run_pure,Result.andThen_ok,hnew]
       grind
      ·simp only[Sem.run_bind,TE.run_zero,Sem.run_pure,Result.andThen_ok,hnew]
       grind
     have hb:Blw w.heap.size w (w.alloc (.cells cells e)):=(Blw.refl _ _).alloc (Nat.le_refl _) _
     have hzl:=bY hzc
     simp only[List.length_map,Array.length_toList] at hzl
     rw[hzcs] at hzl
     have hcells:bg φ w (cx.fr φ O) ((List.replicate M zr).flatten.map C.d) cells.toList:=by
      exact zero_cells hzc M
     have hcs:cells.size=M*te.size:=by simp[cells,hzcs]
     have key:=hs.core.replace (so:=none) (d:=d) (hv:=.slice (some ⟨w.heap.size,0,none⟩) N M) (ob:=.row te.size e (List.replicate N zr)) (w':=w.alloc (.cells cells e)) hd' (fun _ _ h=>by cases h) hb.os hb.tape hb.output hb.drawn hb.size
      (fun b hl _=>hb.block b hl) (fun b hbk=>by
       simp_all) (fun _ _ _ h=>by cases h)
      (fun hk=>by
       refine⟨fun r hr=>by simp_all,?_⟩
       by_cases hM:M=0
       ·have hN:N=0:=by omega
        subst hM hN
        exact .inl ⟨rfl,_,upd_same _ _ _⟩
       ·refine .inr ⟨w.heap.size,M,cells,by omega,by rw[List.length_replicate]; exact upd_same _ _ _,by simpa using hNM,by simp only[maxLen]; omega,heap_alloc_new w _,hcs,?_⟩
        have h1:=iJ (N*te.size) hcells
        have h2:((List.replicate M zr).flatten.map C.d).take (N*te.size)=(List.replicate N zr).flatten.map C.d:=by
         rw[<- List.map_take]
         congr 1
         rw[show M=N+(M - N) from by omega,<- List.replicate_append_replicate,List.flatten_append,List.take_append_of_le_length (by simp[hzl]),List.take_of_length_le (by simp[hzl])]
        grind [gj,cD])
     rw[jd] at key
     refine Step.of_run (u:=.slice (some ⟨w.heap.size,0,none⟩) N M) (w':=w.alloc (.cells cells e)) ?_ (by rw[hdst]; exact Sim.new hs hd key rfl (by simp only[bm]; exact⟨(by rw[upd_same]; rfl),rfl⟩)) hK hn
     simp only[execOp,hop,hx',hc',hrun,Sem.run_bind,Sem.run_pure,Result.andThen_ok]
    ·exact h.elim
   ·exact h.elim
  ·exact h.elim
 ·exact h.elim
theorem range_sound (ht:TbOk P tb) {d:Nat} {t:TypeId} {x:Operand} (hop:o.op=.range t x) (hdst:o.dst=some d) (hd:d < cx.n) (hd':d < inBase) (h:aRange tb Z O d t (oev Z x) K):Step P cx o Z O K:=by
 intro φ a w hs next Q hn
 have hx:=dd hs.core.gw hs.slots x
 unfold aRange at h
 split at h
 ·rename_i ti s hty hxv
  have T:=ht.ty t ti hty
  split at h
  ·rename_i kt e kk es hde hs'
   obtain⟨hsd,hK⟩:=h
   obtain⟨c,ents,clk,hp,hh,hes,hb1,hb2,hfits,hnd⟩:=hs.core.objs s _ hs'
   rw[hxv] at hx
   have hxe:a.eval x=.map (some c):=hx.1.trans (by rw[hp]; rfl)
   have hb:Blw w.heap.size w (w.alloc (.mapIter (some c) clk #[] clk)):=(Blw.refl _ _).alloc (Nat.le_refl _) _
   have hcl:c < w.heap.size:=(Array.getElem?_eq_some_iff.1 hh).1
   have key:=hs.core.replace (so:=none) (d:=d) (hv:=.pointer (some ⟨w.heap.size,0,none⟩)) (ob:=.iter s (es.map fun x=>(x.1,x.2.wipe d)) none) (w':=w.alloc (.mapIter (some c) clk #[] clk)) hd' (fun _ _ h=>by cases h) hb.os hb.tape hb.output hb.drawn hb.size
    (fun b hl _=>hb.block b hl) (fun b hbk=>by simp_all) (fun m l la h=>by simp_all)
    (fun hkp=>⟨w.heap.size,c,ents,clk,#[],upd_same _ _ _,(bj _ _ hsd).trans hp,heap_alloc_new w _,(Below.heap_alloc w _ c hcl).trans hh,by
     have:(ents.toList.filter fun e=>!(#[]:Array Nat).contains e.born)=ents.toList:=by simp
     rw[this]
     exact pR (fun t ht=>bj _ _ ht) (gV hkp hes),hb1,hb2,fun _ h=>by cases h⟩)
   rw[jd] at key
   refine Step.of_run (u:=.pointer (some ⟨w.heap.size,0,none⟩)) (w':=w.alloc (.mapIter (some c) clk #[] clk)) ?_ (by rw[hdst]; exact Sim.new hs hd key rfl (by simp only[bm]; exact⟨(by rw[upd_same]; rfl),rfl⟩)) hK hn
   have hnew:∀ ob,(newObj ob).run P w=.ok w.heap.size (w.alloc ob):=fun _=>rfl
   simp only[execOp,hop,Instr.range,Sem.run_bind,Sem.run_pure,Result.andThen_ok,T.run_und,hde,hxe,jD hh,hnew]
  ·exact h.elim
 ·exact h.elim
theorem filter_born:∀ {l:List MapEntry} {k:Nat} {e:MapEntry},(l.map (·.born)).Nodup->l[k]?=some e->(l.filter fun x=>!(x.born == e.born))=l.eraseIdx k
 | [],k,_,_,h=>by simp at h
 | y::l,0,e,hn,h=>by
  simp_all
 | y::l,k+1,e,hn,h=>by
  simp only[List.map_cons,List.nodup_cons] at hn
  simp only[List.getElem?_cons_succ] at h
  have:y.born≠e.born:=fun he=>hn.1 (by grind)
  simp only[List.filter_cons,List.eraseIdx_cons_succ]
  rw[if_pos (by simpa using this),filter_born hn.2 h]
theorem find_born:∀ {l:List MapEntry} {e:MapEntry},(l.map (·.born)).Nodup->e∈l->l.find? (·.born == e.born)=some e
 | [],_,_,h=>by cases h
 | y::l,e,hn,h=>by
  simp only[List.map_cons,List.nodup_cons] at hn
  rcases List.mem_cons.1 h with rfl | h
  ·simp
  ·have:y.born≠e.born:=fun he=>hn.1 (by grind)
   rw[List.find?_cons_of_neg (by simpa using this)]
   exact find_born hn.2 h
theorem usim_key (k:Key):bR φ w F k.u k.val:=by
 cases k with
 | int k n=>rfl
 | str s=>rfl
 | ints l =>
  refine⟨_,rfl,?_⟩
  have:∀ l:List Int,bg φ w F (l.map fun n=>C.d (.int .i64 n)) (l.map (Value.int .i64)):=by
   intro l
   induction l with
   | nil=>simp[bg]
   | cons n l ih=>simp only[List.map_cons,bg]; exact⟨_,_,rfl,by simp[bm,rep],ih⟩
  simpa using this l
theorem entry_sound {d:Nat} {x:Operand} (hop:o.op=.entry x) (hdst:o.dst=some d) (hd:d < cx.n) (h:aEntry Z O d (oev Z x) K):Step P cx o Z O K:=by
 intro φ a w hs next Q hn
 have hx:=dd hs.core.gw hs.slots x
 unfold aEntry at h
 split at h
 ·rename_i s hxv
  split at h
  ·rename_i m left y hs'
   obtain⟨b,c,ents,clk,seen,hp,hq,hh,hh',hc,h1,h2,h3⟩:=hs.core.objs s _ hs'
   obtain⟨e,a1,a2,a3,a4⟩:=h3 y rfl
   rw[hxv] at hx
   have hxe:a.eval x=.pointer (some ⟨b,0,none⟩):=hx.1.trans (by rw[hp]; rfl)
   have hgi:(getObj b).run P w=.ok (.mapIter (some c) clk seen clk) w:=by simp[getObj,Sem.run,hh]
   refine Step.of_run (u:=.tuple #[e.key,e.val]) (w':=w) ?_ (hs.put (d:=o.dst) (v:=.tup [y.1.u,y.2]) (fun z hz=>by simp_all)
    ⟨_,rfl,e.key,[e.val],rfl,by rw[a3]; exact usim_key _,e.val,[],rfl,a4,rfl⟩) (by rw[hdst]; exact h) hn
   simp[execOp,hop,Instr.entry,hxe,hgi,a1,jD hh',a2]
  ·exact h.elim
 ·exact h.elim
theorem next_sound {d:Nat} {x:Operand} (hop:o.op=.next x false) (hdst:o.dst=some d) (hd:d < cx.n) (h:aNext Z O d (oev Z x) K):Step P cx o Z O K:=by
 intro φ a w hs next Q hn
 have hx:=dd hs.core.gw hs.slots x
 unfold aNext at h
 split at h
 ·rename_i s hxv
  split at h
  ·rename_i m left la hs'
   obtain⟨hK1,hK2⟩:=h
   obtain⟨b,c,ents,clk,seen,hp,hq,hh,hh',hc,h1,h2,h3⟩:=hs.core.objs s _ hs'
   rw[hxv] at hx
   have hxe:a.eval x=.pointer (some ⟨b,0,none⟩):=hx.1.trans (by rw[hp]; rfl)
   have hgi:(getObj b).run P w=.ok (.mapIter (some c) clk seen clk) w:=by simp[getObj,Sem.run,hh]
   have hcond:(!seen.isEmpty && !ents.isEmpty && ents.all (·.born≥clk))=false:=by
    cases hE:ents.isEmpty with
    | true=>simp
    | false =>
     simp only[Bool.not_false,Bool.and_true,Bool.and_eq_false_iff]
     right
     rw[Bool.eq_false_iff]
     intro hall
     have hne:ents.toList≠[]:=fun e=>by
      simp_all
     obtain⟨e,he⟩:=List.exists_mem_of_ne_nil _ hne
     grind
   have hbl:∀ e∈(ents.filter fun e=>!seen.contains e.born).toList,e.born < clk:=fun e he=>h2 e (by
    simp_all)
   have hold:((ents.filter fun e=>!seen.contains e.born).filter (·.born < clk))=(ents.filter fun e=>!seen.contains e.born):=by
    grind [Array.ext',Array.toList_filter,List.filter_eq_self]
   have hnew:((ents.filter fun e=>!seen.contains e.born).filter (·.born≥clk))=#[]:=by
    apply Array.ext'
    rw[Array.toList_filter,List.filter_eq_nil_iff]
    simp_all
   have hfl:(ents.filter fun e=>!seen.contains e.born).toList=ents.toList.filter fun e=>!seen.contains e.born:=Array.toList_filter
   rw[<- hfl] at hc
   generalize hL:(ents.filter fun e=>!seen.contains e.born)=L at *
   have hll:=qa hc
   simp only[Array.length_toList] at hll
   by_cases hz:L.size=0
   ·have hLe:L=#[]:=Array.eq_empty_of_size_eq_zero hz
    subst hLe
    have hle:left=[]:=List.eq_nil_of_length_eq_zero (by simpa using hll)
    refine Step.of_run (u:=.tuple #[.bool false]) (w':=w) ?_ (hs.put (d:=o.dst) (v:=.tup [.one (.d (.bool false))]) (fun z hz=>by simp_all)
     ⟨_,rfl,_,[],rfl,by rfl,rfl⟩) (by rw[hdst]; exact hK1 hle) hn
    simp only[execOp,hop,Instr.next,hxe,Sem.run_bind,Sem.run_pure,Result.andThen_ok,hgi,jD hh',hcond,Bool.false_eq_true,if_false,hL,hold,hnew]
    have e1:((if (#[]:Array MapEntry).isEmpty=true then (#[none]:Array (Option MapEntry)) else #[])++Array.map some ((#[]:Array MapEntry)++(#[]:Array MapEntry)))=#[none]:=by simp
    have e2:(choose (.mapNext (#[none]:Array (Option MapEntry)).size)).run P w=.ok 0 w:=by rfl
    rw[e1,e2]
    rfl
   ·-- some entry is picked
    have pick:∃ (k:Nat) (n:Nat),k < L.size/\(choose (.mapNext ((#[]:Array (Option MapEntry))++(L++(#[]:Array MapEntry)).map some).size)).run P w=.ok k (w.drewN n):=by
     have hsz:((#[]:Array (Option MapEntry))++(L++(#[]:Array MapEntry)).map some).size=L.size:=by simp
     rw[hsz]
     by_cases h1:L.size<=1
     ·exact⟨0,0,by omega,by simp[choose,Sem.run,Question.forced,h1]; rfl⟩
     ·exact⟨_,1,Nat.mod_lt (w.tape w.drawn (.mapNext L.size)) (by omega),by simp[choose,Sem.run,Question.forced,h1,Question.cut]; rfl⟩
    obtain⟨k,n,hk,hpick⟩:=pick
    have hLk:L.toList[k]?=some L[k]:=by simp[hk]
    obtain⟨y,hy,hyk,hyv⟩:=esims_get hc hLk
    have hmem:L[k]∈ents.toList:=by
     grind
    have hbd:Blw w.heap.size w (w.drewN n):=⟨⟨rfl,rfl,rfl,Nat.le_refl _,fun _ _=>rfl⟩,mt (by simp[World.drewN])⟩
    have hcd:=hs.core.below hbd
    have hbl':b < w.heap.size:=(Array.getElem?_eq_some_iff.1 hh).1
    have hbc:b≠c:=fun e=>by simp_all
    obtain⟨kk,es,hsm⟩:=hs.core.itm s m left la hs'
    have hms:m≠s:=fun e=>by simp_all
    have hw:=hcd.mutate (s:=s) (ob':=.iter m (left.eraseIdx k) (some y)) (w':=gr (w.drewN n) b (.mapIter (some c) clk (seen.push L[k].born) clk)) hs' (σ1:=O) (fun _ _ _ h=>h)
     (fun t m' l la' _ h e=>by
      subst e
      obtain⟨_,_,hm⟩:=hs.core.itm t _ l la' h
      simp_all) (fun _ _ _ h _=>h) (fun m' l la' h=>by simp_all) rfl rfl rfl (Nat.le_refl _) (by simp[gr])
     (fun b' _ hne=>oM _ b b' _ (fun e=>hne (by rw[hp,e]; simp)))
     (fun hkp=>by
      refine⟨b,c,ents,clk,seen.push L[k].born,hp,hq,setObjW_same _ b _ hbl',(oM _ b c _ hbc).trans hh',?_,h1,h2,fun x hx=>?_⟩
      ·have hf:(ents.toList.filter fun e=>!(seen.push L[k].born).contains e.born)=L.toList.eraseIdx k:=by
        have hnd:(L.toList.map (·.born)).Nodup:=by grind
        rw[<- filter_born hnd hLk,hfl,List.filter_filter]
        apply List.filter_congr
        intro e _
        simp only[Array.contains_push,Bool.not_or]
        rw[Bool.and_comm]
       rw[hf]
       exact nF (gV hkp (gV (Keep.of_below hbd) hc))
      ·cases hx
       refine⟨L[k],by simp,?_,hyk,kQ hkp _ _ (kQ (Keep.of_below hbd) _ _ hyv)⟩
       rw[<- Array.find?_toList]
       exact find_born h1 hmem)
    refine Step.of_run (u:=.tuple #[.bool true,L[k].key,L[k].val]) (w':=gr (w.drewN n) b (.mapIter (some c) clk (seen.push L[k].born) clk)) ?_
     ((Sim.written (hs.below hbd) hw).put (d:=o.dst) (v:=.tup [.one (.d (.bool true)),y.1.u,y.2]) (fun z hz=>by simp_all)
      ⟨_,rfl,_,_,rfl,by rfl,_,_,rfl,by rw[hyk]; exact usim_key _,_,[],rfl,el hw.2 (.u y.2) _ (el (Keep.of_below hbd) (.u y.2) _ hyv),rfl⟩) (by rw[hdst]; exact hK2 k y hy) hn
    have hLne:L.isEmpty=false:=by simp_all
    have hset:∀ ob,(setObj b ob).run P (w.drewN n)=.ok () (gr (w.drewN n) b ob):=fun ob=>by simp[setObj,Sem.run,hh,gr]
    have hget:((#[]:Array (Option MapEntry))++(L++(#[]:Array MapEntry)).map some)[k]?=some (some L[k]):=by simp[hk]
    simp only[execOp,hop,Instr.next,hxe,Sem.run_bind,Sem.run_pure,Result.andThen_ok,hgi,jD hh',hcond,Bool.false_eq_true,if_false,hL,hold,hnew,hLne,hpick,hget,hset]
  ·exact h.elim
 ·exact h.elim
end
end Go.AM
