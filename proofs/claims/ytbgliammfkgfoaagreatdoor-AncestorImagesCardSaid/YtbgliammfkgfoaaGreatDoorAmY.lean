/- Functions that take objects of the caller's: consumed by the call, or changed in their place. -/
import Derived.Test.YtbgliammfkgfoaaGreatDoorAmV
import Derived.Test.YtbgliammfkgfoaaGreatDoorAmS
namespace Go.AM
open Go.RowKit
def dE (φ:Nat->Value) (ins:List Ob) (b:Nat):Prop:=∃ i o,ins[i]?=some o/\hbl (φ (inBase+i)) b
structure InOk (φ:Nat->Value) (w:World) (F:Nat->Prop) (ins:List Ob):Prop where
 objs:∀ i o,ins[i]?=some o->gm φ w (fun b=>F b/\¬ dE φ ins b) (inBase+i) o
 blk:∀ i o b,ins[i]?=some o->hbl (φ (inBase+i)) b->b < w.heap.size
 disj:∀ i j o o' b,ins[i]?=some o->ins[j]?=some o'->hbl (φ (inBase+i)) b->hbl (φ (inBase+j)) b->i=j
 plain:∀ o∈ins,oR o=true
 glob:∀ i o b,ins[i]?=some o->hbl (φ (inBase+i)) b->glow<=b
structure Chg (φ:Nat->Value) (ins:List Ob) (w w':World):Prop where
 os:w'.os=w.os
 tape:w'.tape=w.tape
 output:w'.output=w.output
 drawn:drn w<=drn w'
 size:w.heap.size<=w'.heap.size
 block:∀ b,b < w.heap.size->¬ dE φ ins b->w'.heap[b]?=w.heap[b]?
def MutFn (P:Program) (f:FuncId) (us:List V) (o:Ob) (R:V->Ob->Prop):Prop :=
 (∃ fn,P.funcs[f]?=some fn/\(fn.name == "runtime.NumGoroutine")=false/\fn.body.isNone=false) /\
 ∀ (φ:Nat->Value) (w:World) (F:Nat->Prop),Fr w F->InOk φ w F [o] ->
  ∀ vals:List Value,vals.length=us.length->(∀ (i:Nat) (x:V) (u:Value),us[i]?=some x->vals[i]?=some u->bn φ w (fun b=>F b/\¬ dE φ [o] b) x u) ->
  Calls P f vals.toArray w fun e w'=>∃ u v o',e=.returned u/\Chg φ [o] w w'/\R v o'/\v.free=true/\oR o'=true/\bn φ w' (fun b=>F b/\¬ dE φ [o] b) v u/\gm φ w' (fun b=>F b/\¬ dE φ [o] b) inBase o'
def stoIn (ins:List Ob):Sto:=fun s=>if inBase<=s then ins[s - inBase]? else none
section
variable {P:Program} {tb:Tb} {cx:Cx} {Z:Env} {O:Sto} {K:Env->Sto->Prop} {φ:Nat->Value} {w w':World} {F:Nat->Prop} {ins:List Ob}
structure Gq (w:World) (F:Nat->Prop) (φ:Nat->Value) (ins:List Ob):Prop where
 gw:GW w fun b=>F b/\¬ dE φ ins b
 gi:∀ b,dE φ ins b->glow<=b
theorem Gq.of (hF:Fr w F) (h:∀ i o b,ins[i]?=some o->hbl (φ (inBase+i)) b->glow<=b):Gq w F φ ins:=by
 have hi:∀ b,dE φ ins b->glow<=b:=fun b ⟨i,o,ho,hb⟩=>h i o b ho hb
 exact⟨hF.gw.keep (fun _ _=>rfl) (Nat.le_refl _) fun b hb=>⟨(hF.gw.low b hb).1,fun hh=>absurd (hi b hh) (by omega)⟩,hi⟩
def cxIn (w:World) (F:Nat->Prop) (φ:Nat->Value) (ins:List Ob) (q:Gq w F φ ins) (n:Nat):Cx:={ w0:=w,base:=fun b=>F b/\¬ dE φ ins b,inb:=dE φ ins,n:=n,φ0:=φ,k:=ins.length,gw:=q.gw,gin:=q.gi }
theorem kF {s:Nat} {o:Ob} (h:stoIn ins s=some o):∃ i,s=inBase+i/\ins[i]?=some o:=by
 grind [stoIn]
theorem owned_stoIn {b:Nat}:owned φ (stoIn ins) b↔dE φ ins b:=by
 constructor
 ·rintro⟨s,o,ho,hb⟩
  obtain⟨i,rfl,hi⟩:=kF ho
  exact⟨i,o,hi,hb⟩
 ·rintro⟨i,o,hi,hb⟩
  exact⟨inBase+i,o,by simp_all [stoIn],hb⟩
end
def nW (names:List Nat) (O:Sto):Sto:=fun t=>if names.contains t then none else match O t with
 | some (.iter m l la)=>if names.contains m then none else some (.iter m l la)
 | o=>o
structure Gives (O:Sto) (names:List Nat) (ins:List Ob):Prop where
 len:names.length=ins.length
 nodup:names.Nodup
 objs:∀ (i s:Nat) (o:Ob),names[i]?=some s->ins[i]?=some o->O s=some o
 plain:∀ o∈ins,oR o=true
section
variable {P:Program} {tb:Tb} {cx:Cx} {Z:Env} {O:Sto} {K:Env->Sto->Prop} {φ:Nat->Value} {w w':World} {F:Nat->Prop} {ins:List Ob} {names:List Nat}
theorem Gives.get (h:Gives O names ins) {i:Nat} {o:Ob} (hi:ins[i]?=some o):∃ s,names[i]?=some s/\O s=some o:=by
 have hl:i < names.length:=by rw[h.len]; grind
 exact⟨_,List.getElem?_eq_getElem hl,h.objs i _ o (List.getElem?_eq_getElem hl) hi⟩
theorem Gives.at (h:Gives O names ins) {s:Nat} (hs:s∈names):∃ (i:Nat) (o:Ob),names[i]?=some s/\ins[i]?=some o/\O s=some o:=by
 obtain⟨i,hi,rfl⟩:=List.getElem_of_mem hs
 have hl:i < ins.length:=by rw[<- h.len]; exact hi
 exact⟨i,_,List.getElem?_eq_getElem hi,List.getElem?_eq_getElem hl,h.objs i _ _ (List.getElem?_eq_getElem hi) (List.getElem?_eq_getElem hl)⟩
theorem dropN_some {t:Nat} {o:Ob} (h:nW names O t=some o):t ∉ names/\O t=some o/\∀ m l la,o=.iter m l la->m ∉ names:=by
 grind [nW]
end
section
variable {P:Program} {tb:Tb}
end
end Go.AM
