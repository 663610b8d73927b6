/- Lemmas for the law. -/
import Derived.Test.YtpeabgakdpojlaaGreatDoorAmV
import Derived.Test.YtpeabgakdpojlaaGreatDoorAmS
namespace Go.AM
open Go.RowKit
def fF (E:A7) (ins:Ax) (b:Nat):Prop:=∃i o,ins[i]?=some o/\hbl (E (inBase+i)) b
structure InOk (E:A7) (w:World) (F:Ad) (ins:Ax):Prop where
 objs:∀i o,ins[i]?=some o->kq E w (λb=>F b/\¬ fF E ins b) (inBase+i) o
 blk:∀i o b,ins[i]?=some o->hbl (E (inBase+i)) b->b<w.heap.size
 disj:∀i j o o' b,ins[i]?=some o->ins[j]?=some o'->hbl (E (inBase+i)) b->hbl (E (inBase+j)) b->i=j
 plain:∀o∈ins,tQ o=true
 glob:∀i o b,ins[i]?=some o->hbl (E (inBase+i)) b->glow<=b
structure Chg (E:A7) (ins:Ax) (w w':World):Prop where
 os:w'.os=w.os
 tape:w'.tape=w.tape
 output:w'.output=w.output
 drawn:drn w<=drn w'
 size:w.heap.size<=w'.heap.size
 block:∀b,b<w.heap.size->¬ fF E ins b->w'.heap[b]?=w.heap[b]?
def MutFn (P:Program) (f:FuncId) (us:Ao) (o:Ob) (R:V->Ob->Prop):Prop :=(∃fn,P.funcs[f]?=some fn/\(fn.name == "runtime.NumGoroutine")=false/\fn.body.isNone=false) /\ ∀(E:A7) (w:World) (F:Ad),Fr w F->InOk E w F [o] -> ∀vals:A9,vals.length=us.length->(∀(i:Nat) (x:V) (u:Value),us[i]?=some x->vals[i]?=some u->bI E w (λb=>F b/\¬ fF E [o] b) x u) ->
  Calls P f vals.toArray w λe w'=>∃u v o',e=.returned u/\Chg E [o] w w'/\R v o'/\v.free=true/\tQ o'=true/\bI E w' (λb=>F b/\¬ fF E [o] b) v u/\kq E w' (λb=>F b/\¬ fF E [o] b) inBase o'
def stoIn (ins:Ax):Sto:=λs=>if inBase<=s then ins[s-inBase]? else none
section
variable {P:Program} {tb:Tb} {cx:Cx} {Z:Env} {O:Sto} {K:A3} {E:A7} {w w':World} {F:Ad} {ins:Ax}
structure Gq (w:World) (F:Ad) (E:A7) (ins:Ax):Prop where
 gw:GW w λb=>F b/\¬ fF E ins b
 gi:∀b,fF E ins b->glow<=b
theorem Gq.of (hF:Fr w F) (h:∀i o b,ins[i]?=some o->hbl (E (inBase+i)) b->glow<=b):Gq w F E ins:=by have hi:∀b,fF E ins b->glow<=b:=λb ⟨i,o,ho,hb⟩=>h i o b ho hb;exact⟨hF.gw.keep (λ_ _=>rfl) (Nat.le_refl _) λb hb=>⟨(hF.gw.low b hb).1,λhh=>absurd (hi b hh) (by omega)⟩,hi⟩
def cxIn (w:World) (F:Ad) (E:A7) (ins:Ax) (q:Gq w F E ins) (n:Nat):Cx:={ w0:=w,base:=λb=>F b/\¬ fF E ins b,inb:=fF E ins,n:=n,φ0:=E,k:=ins.length,gw:=q.gw,gin:=q.gi }
theorem oF {s:Nat} {o:Ob} (h:stoIn ins s=some o):∃i,s=inBase+i/\ins[i]?=some o:=by grind[stoIn]
theorem owned_stoIn {b:Nat}:owned E (stoIn ins) b↔fF E ins b:=by constructor;{rintro⟨s,o,ho,hb⟩;obtain⟨i,rfl,hi⟩:=oF ho;exact⟨i,o,hi,hb⟩};{rintro⟨i,o,hi,hb⟩;exact⟨inBase+i,o,by simp_all[stoIn],hb⟩}
end
def dropN (names:A5) (O:Sto):Sto:=λt=>if names.contains t then none else match O t with|some (.iter m l la)=>if names.contains m then none else some (.iter m l la)|o=>o
structure Gives (O:Sto) (names:A5) (ins:Ax):Prop where
 len:names.length=ins.length
 nodup:names.Nodup
 objs:∀(i s:Nat) (o:Ob),names[i]?=some s->ins[i]?=some o->O s=some o
 plain:∀o∈ins,tQ o=true
section
variable {P:Program} {tb:Tb} {cx:Cx} {Z:Env} {O:Sto} {K:A3} {E:A7} {w w':World} {F:Ad} {ins:Ax} {names:A5}
theorem Gives.get (h:Gives O names ins) {i:Nat} {o:Ob} (hi:ins[i]?=some o):∃s,names[i]?=some s/\O s=some o:=by
 have hl:i<names.length:=by rw[h.len];grind
 exact⟨_,List.getElem?_eq_getElem hl,h.objs i _ o (List.getElem?_eq_getElem hl) hi⟩
theorem Gives.at(h:Gives O names ins) {s:Nat} (hs:s∈names):∃(i:Nat) (o:Ob),names[i]?=some s/\ins[i]?=some o/\O s=some o:=by
 obtain⟨i,hi,rfl⟩:=List.getElem_of_mem hs;have hl:i<ins.length:=by rw[<- h.len];exact hi
 exact⟨i,_,List.getElem?_eq_getElem hi,List.getElem?_eq_getElem hl,h.objs i _ _ (List.getElem?_eq_getElem hi) (List.getElem?_eq_getElem hl)⟩
theorem dropN_some {t:Nat} {o:Ob} (h:dropN names O t=some o):t ∉ names/\O t=some o/\∀m l la,o=.iter m l la->m ∉ names:=by grind[dropN]
end
section
variable {P:Program} {tb:Tb}
end
