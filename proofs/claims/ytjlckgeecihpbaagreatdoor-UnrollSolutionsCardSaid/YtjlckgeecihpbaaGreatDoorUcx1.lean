/- Plain laws: what the clauses of a formula say under values of the variables. -/
import Derived.Test.YtjlckgeecihpbaaGreatDoorUbx2
namespace Go.Proofs.YtjlckgeecihpbaaGreatDoor
open Go.AM Go.Proofs
abbrev Val:=Nat->Bool
def mR (A:Val) (x:Int):Bool:=A x.natAbs == decide (0 < x)
def iz (A:Val) (c:List Int):Bool:=c.any (mR A)
def Sat (A:Val) (cs:List (List Int)):Prop:=∀ c∈cs,iz A c=true
def kA (V:Nat) (c:List Int):Prop:=∀ x∈c,1<=x.natAbs/\x.natAbs<=V
def Vrs (V:Nat) (l:List Int):Prop:=∀ x∈l,1<=x/\x<=(V:Int)
theorem Sat.app {A:Val} {a b:List (List Int)}:Sat A (a++b)↔Sat A a/\Sat A b :=
 ⟨fun h=>⟨fun c hc=>h c (List.mem_append_left _ hc),fun c hc=>h c (List.mem_append_right _ hc)⟩,fun h c hc=>(List.mem_append.1 hc).elim (h.1 c) (h.2 c)⟩
theorem kA.mono {V W:Nat} (h:V<=W) {c:List Int} (hc:kA V c):kA W c:=fun x hx=>by have:=hc x hx; omega
theorem Vrs.mono {V W:Nat} (h:V<=W) {c:List Int} (hc:Vrs V c):Vrs W c:=fun x hx=>by have:=hc x hx; omega
theorem Vrs.lits {V:Nat} {c:List Int} (hc:Vrs V c):kA V c:=fun x hx=>by have:=hc x hx; omega
theorem sat_agree {A B:Val} {V:Nat} {c:List Int} (h:kA V c) (hAB:∀ u,u<=V->B u=A u):iz B c=iz A c:=by
 unfold iz
 induction c with
 | nil=>rfl
 | cons x c ih =>
  rw[List.any_cons,List.any_cons,ih fun y hy=>h y (by simp[hy])]
  have:=h x (by simp)
  unfold mR
  rw[hAB _ (by omega)]
theorem ma (A:Val) (a b:List Int):iz A (a++b)=(iz A a || iz A b):=List.any_append
theorem Sat.agree {A B:Val} {V:Nat} {cs:List (List Int)} (h:∀ c∈cs,kA V c) (hAB:∀ u,u<=V->B u=A u):Sat B cs↔Sat A cs :=
 forall_congr' fun c=>forall_congr' fun hc=>by rw[sat_agree (h c hc) hAB]
def mP (A:Val) (l:List Int) (c:Nat):Prop:=∀ (j:Nat) x,l[j]?=some x->A x.natAbs=fZ c j
theorem bits_small:∀ b:Fin 4,∀ c d:Fin 8,c.1 < 2 ^ b.1->d.1 < 2 ^ b.1->(∀ j:Fin 3,j.1 < b.1->fZ (c.1:Int) j.1=fZ (d.1:Int) j.1)->c=d:=by decide
theorem bits_inj {b c d:Nat} (hb:b<=3) (hc:c < 2 ^ b) (hd:d < 2 ^ b) (h:∀ j,j < b->fZ (c:Int) j=fZ (d:Int) j):c=d:=by
 have h8:2 ^ b<=2 ^ 3:=Nat.pow_le_pow_right (by omega) hb
 have:=bits_small ⟨b,by omega⟩ ⟨c,by omega⟩ ⟨d,by omega⟩ hc hd (fun j hj=>h j.1 hj)
 exact congrArg Fin.val this
theorem mP.inj {A:Val} {l:List Int} {b c d:Nat} (hl:l.length=b) (hb:b<=3) (hc:c < 2 ^ b) (hd:d < 2 ^ b) (h1:mP A l c) (h2:mP A l d):c=d :=
 bits_inj hb hc hd fun j hj=>by
  have hx:l[j]?=some l[j]:=List.getElem?_eq_getElem (by omega)
  rw[<- h1 j _ hx,h2 j _ hx]
theorem mP.agree {A B:Val} {V:Nat} {l:List Int} {c:Nat} (h:Vrs V l) (hAB:∀ u,u<=V->B u=A u) (hb:mP A l c):mP B l c:=fun j x hx=>by
 have:=h x (List.mem_of_getElem? hx)
 rw[hAB _ (by omega),hb j x hx]
theorem iN {V:Nat} (hV:V<=1000000) {x:Int} (h:1<=x/\x<=(V:Int)):cz .i64 x=-x:=ineg_in (by omega)
theorem m9 (A:Val) {x:Int} (h:1<=x):mR A x=A x.natAbs:=by
 unfold mR
 rw[decide_eq_true (by omega)]
 cases A x.natAbs<;>rfl
theorem mb (A:Val) {x:Int} (h:1<=x):mR A (-x)=!A x.natAbs:=by
 unfold mR
 rw[decide_eq_false (by omega),Int.natAbs_neg]
 cases A x.natAbs<;>rfl
theorem p6 {α β:Type} {f:Nat->α->β} {l:List α} {y:β}:y∈gat (fun j x=>[f j x]) l 0↔∃ j x,l[j]?=some x/\y=f j x:=by
 constructor
 ·intro h
  obtain⟨j,hj⟩:=List.mem_iff_getElem?.1 h
  rw[gat_get,Nat.zero_add] at hj
  cases hx:l[j]? with
  | none=>rw[hx] at hj; cases hj
  | some x=>rw[hx] at hj; cases hj; exact⟨j,x,hx,rfl⟩
 ·rintro⟨j,x,hx,rfl⟩
  refine List.mem_of_getElem? (i:=j) ?_
  rw[gat_get,hx,Nat.zero_add]
  rfl
theorem gT {α β:Type} {f:Nat->α->List β} {c:β}:∀ {l:List α} {i:Nat},c∈gat f l i↔∃ j x,l[j]?=some x/\c∈f (i+j) x
 | [],i=>by simp[gat]
 | x::l,i=>by
  rw[gat,List.mem_append,gT (l:=l)]
  constructor
  ·rintro (h | ⟨j,y,h1,h2⟩)
   ·exact⟨0,x,rfl,h⟩
   ·exact⟨j+1,y,by simpa using h1,by rwa [show i+(j+1)=i+1+j by omega]⟩
  ·rintro⟨j,y,h1,h2⟩
   cases j with
   | zero =>
    simp only[List.getElem?_cons_zero,Option.some.injEq] at h1
    subst h1
    exact .inl h2
   | succ j=>exact .inr ⟨j,y,by simpa using h1,by rwa [show i+1+j=i+(j+1) by omega]⟩
theorem ag_sat {A:Val} {V:Nat} (hV:V<=1000000) {l:List Int} (hl:Vrs V l) (c:Nat):iz A (agS l c)=false↔mP A l c:=by
 have key:∀ (j:Nat) x,l[j]?=some x->mR A (bif fZ c j then cz .i64 x else x)=!(A x.natAbs == fZ c j):=fun j x hx=>by
  have h:=hl x (List.mem_of_getElem? hx)
  cases fZ c j with
  | true=>rw[cond_true,iN hV h,mb A h.1]; cases A x.natAbs<;>rfl
  | false=>rw[cond_false,m9 A h.1]; cases A x.natAbs<;>rfl
 unfold iz agS
 rw[List.any_eq_false]
 constructor
 ·intro h j x hx
  have:=h _ (p6.2 ⟨j,x,hx,rfl⟩)
  rw[key j x hx] at this
  simpa [-beq_eqb] using this
 ·intro h y hy
  obtain⟨j,x,hx,rfl⟩:=p6.1 hy
  rw[key j x hx,h j x hx]
  simp
theorem ag_lits {V:Nat} (hV:V<=1000000) {l:List Int} (hl:Vrs V l) (c:Int):kA V (agS l c):=fun y hy=>by
 obtain⟨j,x,hx,rfl⟩:=p6.1 hy
 have h:=hl x (List.mem_of_getElem? hx)
 cases fZ c j with
 | true=>rw[cond_true,iN hV h]; omega
 | false=>rw[cond_false]; omega
theorem fix_sat {A:Val} {V:Nat} (hV:V<=1000000) {l:List Int} (hl:Vrs V l) (c:Nat):Sat A (fixS l c)↔mP A l c:=by
 have key:∀ (j:Nat) x,l[j]?=some x->iz A [bif fZ c j then x else cz .i64 x]=(A x.natAbs == fZ c j):=fun j x hx=>by
  have h:=hl x (List.mem_of_getElem? hx)
  show (mR A _ || false)=_
  rw[Bool.or_false]
  cases fZ c j with
  | true=>rw[cond_true,m9 A h.1]; cases A x.natAbs<;>rfl
  | false=>rw[cond_false,iN hV h,mb A h.1]; cases A x.natAbs<;>rfl
 unfold Sat fixS
 constructor
 ·intro h j x hx
  have:=h _ (p6.2 ⟨j,x,hx,rfl⟩)
  rw[key j x hx] at this
  simpa [-beq_eqb] using this
 ·intro h y hy
  obtain⟨j,x,hx,rfl⟩:=p6.1 hy
  rw[key j x hx,h j x hx]
  simp
theorem fix_lits {V:Nat} (hV:V<=1000000) {l:List Int} (hl:Vrs V l) (c:Int):∀ d∈fixS l c,kA V d:=fun d hd y hy=>by
 obtain⟨j,x,hx,rfl⟩:=p6.1 hd
 have h:=hl x (List.mem_of_getElem? hx)
 rw[List.mem_singleton.1 hy]
 cases fZ c j with
 | true=>rw[cond_true]; omega
 | false=>rw[cond_false,iN hV h]; omega
def Den (A:Val) (b:Nat) (v:SV) (c:Nat):Prop:=(v.2=[]/\v.1=(c:Int)) \/ (v.2.length=b/\mP A v.2 c)
theorem Den.agree {A B:Val} {V b:Nat} {v:SV} {c:Nat} (h:Vrs V v.2) (hAB:∀ u,u<=V->B u=A u) (hd:Den A b v c):Den B b v c:=by
 rcases hd with h1 | ⟨h1,h2⟩
 ·exact .inl h1
 ·exact .inr ⟨h1,h2.agree h hAB⟩
theorem sel_sat {A:Val} {V b:Nat} (hV:V<=1000000) (hb:1<=b) {un own:List Int} {v:SV} {c:Nat} (ho:Vrs V own) (hol:own.length=b) (hv:Vrs V v.2) (h:iz A un=true \/ (Den A b v c/\mP A own c)):Sat A (selS un own v):=by
 intro d hd
 unfold selS at hd
 obtain⟨k,x,hx,hc⟩:=gT.1 hd
 rw[Nat.zero_add] at hc
 have hk:=bq hx
 have hxo:=ho x (List.mem_of_getElem? hx)
 rcases h with h | ⟨h1,h2⟩
 ·unfold sel1 at hc
  cases he:isE v.2 with
  | true=>rw[he,cond_true] at hc; rw[List.mem_singleton.1 hc,ma,h]; rfl
  | false =>
   rw[he,cond_false] at hc
   rcases List.mem_cons.1 hc with e | hc
   ·rw[e,ma,h]; rfl
   ·rw[List.mem_singleton.1 hc,ma,h]; rfl
 ·have hA:=h2 k x hx
  unfold sel1 at hc
  rcases h1 with ⟨e1,e2⟩ | ⟨e1,e2⟩
  ·rw[e1] at hc
   dsimp only [isE,cond_true] at hc
   rw[List.mem_singleton.1 hc,ma,e2]
   have:iz A [bif fZ c k then x else cz .i64 x]=true:=by
    show (mR A _ || false)=_
    rw[Bool.or_false]
    cases hbt:fZ c k with
    | true=>rw[cond_true,m9 A hxo.1,hA,hbt]
    | false=>rw[cond_false,iN hV hxo,mb A hxo.1,hA,hbt]; rfl
   rw[this,Bool.or_true]
  ·have hy:v.2[k]?=some (v.2.getD k 0):=by rw[List.getD_eq_getElem?_getD,List.getElem?_eq_getElem (by omega)]; rfl
   have hvy:=hv _ (List.mem_of_getElem? hy)
   have hB:=e2 k _ hy
   have he:isE v.2=false:=by cases hv2:v.2 with | nil=>rw[hv2] at e1; simp at e1; omega | cons _ _=>rfl
   rw[he,cond_false] at hc
   rcases List.mem_cons.1 hc with e | hc
   ·rw[e,ma]
    show (_ || (mR A _ || (mR A _ || false)))=true
    rw[iN hV hxo,mb A hxo.1,m9 A hvy.1,hA,hB]
    cases fZ c k<;>simp
   ·rw[List.mem_singleton.1 hc,ma]
    show (_ || (mR A _ || (mR A _ || false)))=true
    rw[iN hV hvy,mb A hvy.1,m9 A hxo.1,hA,hB]
    cases fZ c k<;>simp
def Det (A:Val) (cs:List (List Int)) (u:Nat):Prop:=∃ c∈cs,kA u c/\(∃ x∈c,x.natAbs=u)/\∀ B:Val,(∀ k,k < u->B k=A k)->B u=!A u->iz B c=false
theorem Det.app {A:Val} {cs ds:List (List Int)} {u:Nat} (h:Det A cs u):Det A (cs++ds) u:=let ⟨c,hc,h'⟩:=h; ⟨c,List.mem_append_left _ hc,h'⟩
theorem Det.app' {A:Val} {cs ds:List (List Int)} {u:Nat} (h:Det A ds u):Det A (cs++ds) u:=let ⟨c,hc,h'⟩:=h; ⟨c,List.mem_append_right _ hc,h'⟩
theorem Det.agree {A A':Val} {cs:List (List Int)} {u:Nat} (h:Det A cs u) (hA:∀ k,k<=u->A' k=A k):Det A' cs u :=
 let ⟨c,hc,h1,h2,h3⟩:=h
 ⟨c,hc,h1,h2,fun B hB hu=>h3 B (fun k hk=>by rw[hB k hk,hA k (by omega)]) (by rw[hu,hA u (Nat.le_refl _)])⟩
theorem sel_det {A:Val} {V b:Nat} (hV:V+3<=1000000) (hb:1<=b) {un own:List Int} {v:SV} {c:Nat} (hun:kA V un) (hol:own.length=b) (hv:Vrs V v.2) (h0:iz A un=false) (h1:Den A b v c) (h2:mP A own c) {k:Nat} {x:Int} (hx:own[k]?=some x) (hxV:(V:Int) < x) (hx3:x<=(V+3:Nat)):Det A (selS un own v) x.natAbs:=by
 have hk:=bq hx
 have hA:=h2 k x hx
 have hneg:cz .i64 x=-x:=iN hV ⟨by omega,hx3⟩
 have hmem:∀ d,d∈sel1 un v k x->d∈selS un own v:=fun d hd=>gT.2 ⟨k,x,hx,by rwa [Nat.zero_add]⟩
 have hun':∀ B:Val,(∀ j,j < x.natAbs->B j=A j)->iz B un=false:=fun B hB=>by rw[sat_agree hun fun u hu=>hB u (by omega),h0]
 rcases h1 with ⟨e1,e2⟩ | ⟨e1,e2⟩
 ·refine⟨un++[bif fZ v.1 k then x else cz .i64 x],hmem _ (by unfold sel1; rw[e1]; simp[isE]),fun y hy=>?_,⟨bif fZ v.1 k then x else cz .i64 x,by simp,by cases fZ v.1 k<;>simp[hneg]⟩,fun B hB hu=>?_⟩
  ·rcases List.mem_append.1 hy with hy | hy
   ·have:=hun y hy; omega
   ·rw[List.mem_singleton.1 hy]
    cases fZ v.1 k<;>simp only[cond_true,cond_false,hneg,Int.natAbs_neg]<;>omega
  ·rw[ma,hun' B hB,e2]
   show (false || (mR B _ || false))=false
   rw[Bool.or_false,Bool.false_or]
   cases hbt:fZ c k with
   | true=>rw[cond_true,m9 B (by omega),hu,hA,hbt]; rfl
   | false=>rw[cond_false,hneg,mb B (by omega),hu,hA,hbt]; rfl
 ·have hy:v.2[k]?=some (v.2.getD k 0):=by rw[List.getD_eq_getElem?_getD,List.getElem?_eq_getElem (by omega)]; rfl
  have hvy:=hv _ (List.mem_of_getElem? hy)
  have hAy:=e2 k _ hy
  have he:isE v.2=false:=by cases hv2:v.2 with | nil=>rw[hv2] at e1; simp at e1; omega | cons _ _=>rfl
  have hnegy:cz .i64 (v.2.getD k 0)=-(v.2.getD k 0):=iN (V:=V) (by omega) hvy
  cases hbt:fZ c k with
  | true =>
   refine⟨un++[x,cz .i64 (v.2.getD k 0)],hmem _ (by unfold sel1; rw[he]; simp),fun y hy'=>?_,⟨x,by simp,rfl⟩,fun B hB hu=>?_⟩
   ·rcases List.mem_append.1 hy' with hy' | hy'
    ·have:=hun y hy'; omega
    ·rw[hnegy] at hy'
     simp only[List.mem_cons,List.not_mem_nil,or_false] at hy'
     omega
   ·rw[ma,hun' B hB]
    show (false || (mR B _ || (mR B _ || false)))=false
    rw[hnegy,m9 B (by omega),mb B hvy.1,hu,hA,hbt,hB _ (by omega),hAy,hbt]
    rfl
  | false =>
   refine⟨un++[cz .i64 x,v.2.getD k 0],hmem _ (by unfold sel1; rw[he]; simp),fun y hy'=>?_,⟨cz .i64 x,by simp,by rw[hneg]; omega⟩,fun B hB hu=>?_⟩
   ·rcases List.mem_append.1 hy' with hy' | hy'
    ·have:=hun y hy'; omega
    ·rw[hneg] at hy'
     simp only[List.mem_cons,List.not_mem_nil,or_false] at hy'
     omega
   ·rw[ma,hun' B hB]
    show (false || (mR B _ || (mR B _ || false)))=false
    rw[hneg,mb B (by omega),m9 B hvy.1,hu,hA,hbt,hB _ (by omega),hAy,hbt]
    rfl
theorem sel_lits {V:Nat} (hV:V<=1000000) {un own:List Int} {v:SV} (hun:kA V un) (ho:Vrs V own) (hv:Vrs V v.2) (hlen:isE v.2=false->v.2.length=own.length):∀ d∈selS un own v,kA V d:=fun d hd=>by
 obtain⟨k,x,hx,hc⟩:=gT.1 hd
 rw[Nat.zero_add] at hc
 have hk:=bq hx
 have hxo:=ho x (List.mem_of_getElem? hx)
 have hneg:=iN hV hxo
 have add:∀ {l:List Int},kA V l->kA V (un++l):=fun h y hy=>(List.mem_append.1 hy).elim (hun y) (h y)
 unfold sel1 at hc
 cases he:isE v.2 with
 | true =>
  rw[he,cond_true] at hc
  rw[List.mem_singleton.1 hc]
  refine add fun y hy=>?_
  rw[List.mem_singleton.1 hy]
  cases fZ v.1 k<;>simp only[cond_true,cond_false,hneg,Int.natAbs_neg]<;>omega
 | false =>
  have hy:v.2[k]?=some (v.2.getD k 0):=by rw[List.getD_eq_getElem?_getD,List.getElem?_eq_getElem (by rw[hlen he]; exact hk)]; rfl
  have hvy:=hv _ (List.mem_of_getElem? hy)
  have hnegy:=iN hV hvy
  rw[he,cond_false] at hc
  rcases List.mem_cons.1 hc with e | hc
  ·rw[e]
   refine add fun y hy=>?_
   rw[hneg] at hy
   simp only[List.mem_cons,List.not_mem_nil,or_false] at hy
   omega
  ·rw[List.mem_singleton.1 hc]
   refine add fun y hy=>?_
   rw[hnegy] at hy
   simp only[List.mem_cons,List.not_mem_nil,or_false] at hy
   omega
theorem ex_sat {A:Val} {V n b c:Nat} (hV:V<=1000000) (hb:b<=3) {vs:List Int} (hvs:Vrs V vs) (hl:vs.length=b) (hc:c < n) (hn:n<=2 ^ b) (h:mP A vs c):Sat A (exC n b vs):=by
 intro d hd
 unfold exC at hd
 obtain⟨k,hk,rfl⟩:=List.mem_map.1 hd
 rw[List.mem_range] at hk
 rw[show ((n:Int)+(k:Nat))=((n+k:Nat):Int) by omega]
 cases hs:iz A (agS vs ((n+k:Nat):Int)) with
 | true=>rfl
 | false =>
  have:=mP.inj hl hb (by omega) (by omega) h ((ag_sat hV hvs _).1 hs)
  omega
theorem ex_lits {V n b:Nat} (hV:V<=1000000) {vs:List Int} (hvs:Vrs V vs):∀ d∈exC n b vs,kA V d:=fun d hd=>by
 unfold exC at hd
 obtain⟨k,hk,rfl⟩:=List.mem_map.1 hd
 exact ag_lits hV hvs _
theorem fresh_get (v:Int) (b:Nat) {k:Nat} (hk:k < b):(d7 v b)[k]?=some (v+1+k):=by
 unfold d7
 rw[List.getElem?_map,List.getElem?_range hk]
 rfl
theorem fresh_vrs {V b:Nat}:Vrs (V+b) (d7 (V:Int) b):=fun x hx=>by
 unfold d7 at hx
 obtain⟨k,hk,rfl⟩:=List.mem_map.1 hx
 rw[List.mem_range] at hk
 omega
end Go.Proofs.YtjlckgeecihpbaaGreatDoor
namespace Go.Proofs.YtjlckgeecihpbaaGreatDoor
open Go.AM Go.Proofs
structure TSem (n b H:Nat) (R:Tree) (L:List Int) (A:Val) (V:Nat) (cs0:List (List Int)) (i:Nat) (st:FS) (V':Nat) (A':Val) (ds:List (List Int)):Prop where
 v:st.1=(V':Int)
 le:V<=V'
 agr:∀ u,u<=V->A' u=A u
 cs:st.2.1=cs0++ds
 sat:Sat A' ds
 lits:∀ d∈ds,kA V' d
 det:∀ u,V < u->u<=V'->Det A' ds u
 len:st.2.2.length=i
 val:∀ (j:Nat) x,j < i->R.Nodes[j]?=some x->∃ c:Nat,c < n/\fE R (L.drop (H - x.Level.toNat)) (j:Nat)=some (c:Int)/\Den A' b (st.2.2.getD j (0,[])) c
 vrs:∀ v∈st.2.2,Vrs V' v.2
def Ins (n b V:Nat) (A:Val) (in_:List SV) (L:List Int):Prop:=∀ (k:Nat) v,in_[k]?=some v->∃ c:Nat,c < n/\L[k]?=some (c:Int)/\Den A b v c/\Vrs V v.2
theorem drop_get {α:Type} {l:List α} {k:Nat} {s:α} (h:l[k]?=some s):l.drop k=s::l.drop (k+1):=by
 obtain⟨h1,rfl⟩:=List.getElem?_eq_some_iff.1 h
 exact List.drop_eq_getElem_cons h1
section
variable {n b H:Nat} {R:Tree} {in_:List SV} {L:List Int} {A:Val} {V:Nat} {cs0:List (List Int)} {i:Nat} {st:FS} {V':Nat} {A':Val} {ds:List (List Int)} {x:Node}
theorem kid_vrs {of_:List SV} (h:∀ v∈of_,Vrs V' v.2) (s:Nat):Vrs V' (mj of_ x s).2:=by
 unfold mj
 split
 ·exact fun y hy=>by cases hy
 ·rw[List.getD_eq_getElem?_getD]
  cases hg:of_[(x.Next.getD s 0).toNat]? with
  | none=>exact fun y hy=>by cases hy
  | some v=>exact h v (List.mem_of_getElem? hg)
theorem TSem.kid (W:WT n b H in_ R.Nodes) (T:TSem n b H R L A V cs0 i st V' A' ds) (hx:R.Nodes[i]?=some x) {s0:Nat} (hs:s0 < n) (hL:L[H - x.Level.toNat]?=some (s0:Int)) (hLl:L.length=H) :
  ∃ c:Nat,c < n/\fE R (L.drop (H - x.Level.toNat)) (i:Nat)=some (c:Int)/\Den A' b (mj st.2.2 x s0) c:=by
 obtain⟨w1,w2,w3⟩:=W.inb hx
 have hl:=W.good.len i x hx
 have hk:x.Next[s0]?=some (x.Next.getD s0 0):=by rw[List.getD_eq_getElem?_getD,List.getElem?_eq_getElem (by omega)]; rfl
 have hm:=List.mem_of_getElem? hk
 rw[drop_get hL]
 have hw:fE R ((s0:Int)::L.drop (H - x.Level.toNat+1)) (i:Nat)=fE R (L.drop (H - x.Level.toNat+1)) (x.Next.getD s0 0):=by
  rw[fE,bl,hx]
  simp only[aX]
  rw[bl,hk]
  rfl
 rw[hw]
 unfold mj
 by_cases h1:x.Level=1
 ·rw[if_pos h1]
  obtain⟨a,c⟩:=W.good.st i x hx h1 _ hm
  refine⟨(x.Next.getD s0 0).toNat,by omega,?_,.inl ⟨rfl,by dsimp only; omega⟩⟩
  rw[List.drop_eq_nil_of_le (by omega),fE]
  congr 1
  omega
 ·rw[if_neg h1]
  obtain⟨a,c,y,hy,hyl⟩:=W.good.kid i x hx (by omega) _ hm
  obtain⟨q,hq,hwq,hd⟩:=T.val (x.Next.getD s0 0).toNat y (by omega) hy
  refine⟨q,hq,?_,hd⟩
  rw[<- hwq,show H - y.Level.toNat=H - x.Level.toNat+1 by omega,Int.toNat_of_nonneg a]
theorem uni_kid {of_:List SV} (W:WT n b H in_ R.Nodes) (hx:R.Nodes[i]?=some x) (hu:uniB x=true) {s:Nat} (hs:s < n):mj of_ x 0=mj of_ x s:=by
 have hl:=W.good.len i x hx
 have hk:x.Next[s]?=some (x.Next.getD s 0):=by rw[List.getD_eq_getElem?_getD,List.getElem?_eq_getElem (by omega)]; rfl
 have:=List.all_eq_true.1 hu _ (List.mem_of_getElem? hk)
 have e:x.Next.getD s 0=x.Next.getD 0 0:=by simpa [eqB] using this
 unfold mj
 rw[e]
theorem getD_app {α:Type} {l:List α} {a d:α} {j:Nat} (h:j < l.length):(l++[a]).getD j d=l.getD j d:=by
 rw[List.getD_eq_getElem?_getD,List.getD_eq_getElem?_getD,List.getElem?_append_left h]
theorem getD_last {α:Type} {l:List α} {a d:α}:(l++[a]).getD l.length d=a:=by
 rw[List.getD_eq_getElem?_getD,List.getElem?_append_right (Nat.le_refl _),Nat.sub_self]
 rfl
theorem TSem.step (W:WT n b H in_ R.Nodes) (hpw:n<=2 ^ b) (T:TSem n b H R L A V cs0 i st V' A' ds) {n0:Int} {c0:Nat} (I:TI n b i n0 c0 st) (hx:R.Nodes[i]?=some x) (hin:Ins n b V A in_ L) (hLl:L.length=H) (hV:V'+3<=1000000) :
  ∃ V'' A'' ds',TSem n b H R L A V cs0 (i+1) (oE b H in_ st x) V'' A'' ds':=by
 obtain⟨w1,w2,w3⟩:=W.inb hx
 have n2:=W.n2
 have b1:=W.b1
 have b3:=W.b3
 have hlt:H - x.Level.toNat < in_.length:=by rw[W.inl]; omega
 obtain⟨s0,hs,hL,hD,hvr⟩:=hin _ _ (List.getElem?_eq_getElem hlt)
 obtain⟨c,hc,hwk,hdk⟩:=T.kid W hx hs hL hLl
 unfold oE
 cases hu:uniB x with
 | true =>
  simp only[cond_true]
  refine⟨V',A',ds,T.v,T.le,T.agr,T.cs,T.sat,T.lits,T.det,by simp[T.len],fun j y hj hy=>?_,fun v hv=>?_⟩
  ·rcases Nat.lt_succ_iff_lt_or_eq.1 hj with hj | rfl
   ·rw[getD_app (by rw[T.len]; exact hj)]
    exact T.val j y hj hy
   ·rw[hx] at hy
    cases hy
    have:=getD_last (l:=st.2.2) (a:=mj st.2.2 x 0) (d:=(0,[]))
    rw[T.len] at this
    rw[this,uni_kid W hx hu hs]
    exact⟨c,hc,hwk,hdk⟩
  ·rcases List.mem_append.1 hv with hv | hv
   ·exact T.vrs v hv
   ·rw[List.mem_singleton.1 hv]
    exact kid_vrs T.vrs 0
 | false =>
  simp only[cond_false]
  have hne:=W.rds x (List.mem_of_getElem? hx) hu
  have hrd:rdS H in_ x=(in_[H - x.Level.toNat]).2:=by
   unfold rdS
   rw[List.getD_eq_getElem?_getD,List.getElem?_eq_getElem hlt]
   rfl
  rw[hrd] at hne ⊢
  generalize in_[H - x.Level.toNat]=rv_ at hne hD hvr
  rcases hD with ⟨e,_⟩ | ⟨hrl,hrb⟩
  ·exact absurd e hne
  have hvr':Vrs V' rv_.2:=hvr.mono T.le
  have hA':∃ A'':Val,(∀ u,u<=V'->A'' u=A' u)/\∀ k,k < b->A'' (V'+1+k)=fZ (c:Int) k :=
   ⟨fun u=>if V' < u then fZ (c:Int) (u - V' - 1) else A' u,fun u hu=>if_neg (by omega),fun k _=>by
    show (if V' < V'+1+k then _ else _)=_
    rw[if_pos (by omega),show V'+1+k - V' - 1=k by omega]⟩
  obtain⟨A'',hag,hbt⟩:=hA'
  have hown:mP A'' (d7 (V':Int) b) c:=fun k y hy=>by
   have hk:k < b:=by have:=bq hy; rwa [ev] at this
   rw[fresh_get _ _ hk] at hy
   cases hy
   rw[show ((V':Int)+1+k).natAbs=V'+1+k by omega,hbt k hk]
  have hrb'':mP A'' rv_.2 s0:=(hrb.agree hvr T.agr).agree hvr' hag
  have hdk'':Den A'' b (mj st.2.2 x s0) c:=hdk.agree (kid_vrs T.vrs s0) hag
  have hunl:∀ s:Nat,kA V' (agS rv_.2 (s:Int)):=fun s=>ag_lits (by omega) hvr' _
  have hl:=W.good.len i x hx
  have hag':∀ s:Nat,s < n->s≠s0->iz A'' (agS rv_.2 (s:Int))=true:=fun s hsn hne=>by
   cases hq:iz A'' (agS rv_.2 (s:Int)) with
   | true=>rfl
   | false=>exact absurd (mP.inj hrl b3 (by omega) (by omega) ((ag_sat (by omega) hvr' s).1 hq) hrb'') hne
  have hk0:x.Next[s0]?=some (x.Next.getD s0 0):=by rw[List.getD_eq_getElem?_getD,List.getElem?_eq_getElem (by omega)]; rfl
  rw[T.v]
  refine⟨V'+b,A'',ds++gat (fun s _=>selS (agS rv_.2 ((s:Nat):Int)) (d7 (V':Int) b) (mj st.2.2 x s)) x.Next 0,by dsimp only; omega,by have:=T.le; omega,fun u hu=>by rw[hag u (by have:=T.le; omega),T.agr u hu],?_,?_,?_,?_,by simp[T.len],fun j y hj hy=>?_,fun v hv=>?_⟩
  ·dsimp only
   rw[T.cs,List.append_assoc]
  ·refine Sat.app.2 ⟨(Sat.agree T.lits hag).2 T.sat,fun d hd=>?_⟩
   obtain⟨s,y,hy,hd⟩:=gT.1 hd
   rw[Nat.zero_add] at hd
   have hsn:s < n:=by have:=bq hy; omega
   refine sel_sat (V:=V'+b) (by omega) b1 (c:=c) fresh_vrs (ev _ _) ((kid_vrs T.vrs s).mono (by omega)) ?_ d hd
   by_cases h:s=s0
   ·subst h
    exact .inr ⟨hdk'',hown⟩
   ·exact .inl (hag' s hsn h)
  ·intro d hd
   rcases List.mem_append.1 hd with hd | hd
   ·exact (T.lits d hd).mono (by omega)
   ·obtain⟨s,y,hy,hd⟩:=gT.1 hd
    rw[Nat.zero_add] at hd
    have hsn:s < n:=by have:=bq hy; omega
    exact sel_lits (by omega) ((hunl s).mono (by omega)) fresh_vrs ((kid_vrs T.vrs s).mono (by omega)) (fun he=>by rw[ev]; exact vok_len (kid_ok W I hx hsn) he) d hd
  ·intro u hu1 hu2
   by_cases h:u<=V'
   ·exact ((T.det u hu1 h).agree fun k hk=>hag k (by omega)).app
   ·refine Det.app' ?_
    have hk:u - V' - 1 < b:=by omega
    have hg:=fresh_get (V':Int) b hk
    obtain⟨d,hd,h1,h2,h3⟩:=sel_det (V:=V') (by omega) b1 (hunl s0) (ev _ _) (kid_vrs T.vrs s0) (c:=c) ((ag_sat (by omega) hvr' s0).2 hrb'') hdk'' hown hg (by omega) (by omega)
    rw[show ((V':Int)+1+(u - V' - 1:Nat)).natAbs=u by omega] at h1 h2 h3
    exact⟨d,gT.2 ⟨s0,_,hk0,by rwa [Nat.zero_add]⟩,h1,h2,h3⟩
  ·rcases Nat.lt_succ_iff_lt_or_eq.1 hj with hj | rfl
   ·rw[getD_app (by rw[T.len]; exact hj)]
    obtain⟨q,h1,h2,h3⟩:=T.val j y hj hy
    have hv:Vrs V' (st.2.2.getD j (0,[])).2:=by
     rw[List.getD_eq_getElem?_getD,List.getElem?_eq_getElem (by rw[T.len]; exact hj)]
     exact T.vrs _ (List.getElem_mem _)
    exact⟨q,h1,h2,h3.agree hv hag⟩
   ·rw[hx] at hy
    cases hy
    have:=getD_last (l:=st.2.2) (a:=((0:Int),d7 (V':Int) b)) (d:=(0,[]))
    rw[T.len] at this
    rw[this]
    exact⟨c,hc,hwk,.inr ⟨ev _ _,hown⟩⟩
  ·rcases List.mem_append.1 hv with hv | hv
   ·exact (T.vrs v hv).mono (by omega)
   ·rw[List.mem_singleton.1 hv]
    exact fresh_vrs
theorem tsem_at (W:WT n b H in_ R.Nodes) (hpw:n<=2 ^ b) (hin:Ins n b V A in_ L) (hLl:L.length=H) (hV:V<=900000):∀ i,i<=R.Nodes.length->∃ V' A' ds,TSem n b H R L A V cs0 i (eO b H in_ (R.Nodes.take i) ((V:Int),cs0,[])) V' A' ds
 | 0,_=>⟨V,A,[],rfl,Nat.le_refl _,fun _ _=>rfl,by simp[eO],(fun _ h=>by cases h),(fun _ h=>by cases h),fun u h1 h2=>by omega,rfl,fun j x h=>by omega,(fun v h=>by cases h)⟩
 | i+1,hi=>by
  obtain⟨V',A',ds,T⟩:=tsem_at W hpw hin hLl hV i (by omega)
  have I:=TI.at_ W (TI.init (n:=n) (b:=b) (n0:=(V:Int)) (cs:=cs0)) i (by omega)
  have hx:R.Nodes[i]?=some R.Nodes[i]:=List.getElem?_eq_getElem (by omega)
  rw[tree_take b H in_ _ hx]
  have h1:=I.hi
  have h2:=T.v
  have h3:=W.len
  exact T.step W hpw I hx hin hLl (by omega)
theorem tree_sem (W:WT n b H in_ R.Nodes) (hpw:n<=2 ^ b) (hin:Ins n b V A in_ L) (hLl:L.length=H) (hV:V<=900000) (hroot:∃ x,R.Nodes[R.Nodes.length - 1]?=some x/\x.Level=(H:Int)) (cs0:List (List Int)) :
  ∃ (V':Nat) (A':Val) (ds:List (List Int)) (c:Nat),(eO b H in_ R.Nodes ((V:Int),cs0,[])).1=(V':Int)/\V<=V'/\(∀ u,u<=V->A' u=A u)/\(eO b H in_ R.Nodes ((V:Int),cs0,[])).2.1=cs0++ds/\Sat A' ds/\(∀ d∈ds,kA V' d)/\(∀ u,V < u->u<=V'->Det A' ds u) /\
   c < n/\fE R L ((R.Nodes.length - 1:Nat):Int)=some (c:Int)/\Den A' b ((eO b H in_ R.Nodes ((V:Int),cs0,[])).2.2.getLastD (0,[])) c/\Vrs V' ((eO b H in_ R.Nodes ((V:Int),cs0,[])).2.2.getLastD (0,[])).2:=by
 obtain⟨V',A',ds,T⟩:=tsem_at (cs0:=cs0) W hpw hin hLl hV R.Nodes.length (Nat.le_refl _)
 rw[List.take_length] at T
 obtain⟨x,hx,hxl⟩:=hroot
 have hne:=W.ne
 obtain⟨c,h1,h2,h3⟩:=T.val _ x (by omega) hx
 rw[hxl,Int.toNat_natCast,Nat.sub_self,List.drop_zero] at h2
 have hlen:=T.len
 have hvr:=T.vrs
 generalize eO b H in_ R.Nodes ((V:Int),cs0,[])=st at T h3 hlen hvr
 have hlast:st.2.2.getLastD (0,[])=st.2.2.getD (R.Nodes.length - 1) (0,[]):=by
  rw[List.getLastD_eq_getLast?,List.getLast?_eq_getElem?,List.getD_eq_getElem?_getD,hlen]
 rw[hlast]
 refine⟨V',A',ds,c,T.v,T.le,T.agr,T.cs,T.sat,T.lits,T.det,h1,h2,h3,?_⟩
 rw[<- hlast]
 exact hvr _ (getLastD_mem (by rw[hlen]; exact hne))
end
end Go.Proofs.YtjlckgeecihpbaaGreatDoor
namespace Go.Proofs.YtjlckgeecihpbaaGreatDoor
open Go.AM Go.Proofs
section
variable {n b:Nat} {t:Tree} {ns:List Node} {g:Grid} {w h r:Nat}
end
end Go.Proofs.YtjlckgeecihpbaaGreatDoor
namespace Go.Proofs.YtjlckgeecihpbaaGreatDoor
open Go.AM Go.Proofs
theorem gat_mem {α β:Type} {f:Nat->α->List β} {c:β}:∀ {l:List α} {i:Nat},c∈gat f l i->∃ j x,x∈l/\c∈f j x
 | [],_,h=>by cases h
 | x::l,i,h=>by
  rcases List.mem_append.1 h with h | h
  ·exact⟨i,x,by simp,h⟩
  ·obtain⟨j,y,h1,h2⟩:=gat_mem h
   exact⟨j,y,by simp[h1],h2⟩
def CL (cs:List (List Int)):Prop:=∀ c∈cs,c.length<=8
theorem CL.app {a b:List (List Int)} (h1:CL a) (h2:CL b):CL (a++b):=fun c hc=>by
 rcases List.mem_append.1 hc with h | h
 ·exact h1 c h
 ·exact h2 c h
theorem CL.nil:CL []:=fun c h=>by cases h
theorem fix_cl (l:List Int) (c:Int):CL (fixS l c):=fun d hd=>by
 obtain⟨j,x,_,h⟩:=gat_mem hd
 rw[List.mem_singleton.1 h]
 simp
theorem same_cl:∀ x y:List Int,CL (md x y)
 | [],y=>CL.nil
 | x::xs,[]=>CL.nil
 | x::xs,y::ys=>fun d hd=>by
  rcases List.mem_cons.1 hd with h | hd
  ·rw[h]; simp
  rcases List.mem_cons.1 hd with h | hd
  ·rw[h]; simp
  exact same_cl xs ys d hd
theorem sel_cl {un own:List Int} (h:un.length<=3) (v:SV):CL (selS un own v):=fun d hd=>by
 obtain⟨j,x,_,hc⟩:=gat_mem hd
 unfold sel1 at hc
 cases he:isE v.2 with
 | true =>
  rw[he,cond_true] at hc
  rw[List.mem_singleton.1 hc,List.length_append]
  simp
  omega
 | false =>
  rw[he,cond_false] at hc
  rcases List.mem_cons.1 hc with e | hc
  ·rw[e,List.length_append]; simp; omega
  ·rw[List.mem_singleton.1 hc,List.length_append]; simp; omega
theorem ex_cl {n b:Nat} (hb:b<=3) {vs:List Int} (h:vs.length=b):CL (exC n b vs):=fun d hd=>by
 unfold exC at hd
 obtain⟨k,_,rfl⟩:=List.mem_map.1 hd
 rw[agS_len]
 omega
theorem cells_cl {n b m:Nat} (hb:b<=3):CL (kv n b m):=fun d hd=>by
 obtain⟨j,v,hv,hc⟩:=gat_mem hd
 exact ex_cl hb (im (n:=n) v hv).2 d hc
theorem tree_cl {n b H:Nat} {in_:List SV} {ns:List Node} {v:Int} {cs:List (List Int)} (W:WT n b H in_ ns) (h:CL cs):∀ i,i<=ns.length->CL (eO b H in_ (ns.take i) (v,cs,[])).2.1
 | 0,_=>h
 | i+1,hi=>by
  have ih:=tree_cl (v:=v) W h i (by omega)
  have hx:ns[i]?=some ns[i]:=List.getElem?_eq_getElem (by omega)
  rw[tree_take b H in_ _ hx]
  generalize ns[i]=x at hx
  have hr:=rds_len W hx
  generalize eO b H in_ (ns.take i) (v,cs,[])=st at ih
  unfold oE
  cases uniB x with
  | true=>exact ih
  | false =>
   refine ih.app fun d hd=>?_
   obtain⟨s,_,_,hc⟩:=gat_mem hd
   exact sel_cl (by rw[agS_len]; exact hr) _ d hc
theorem tree_cl' {n b H:Nat} {in_:List SV} {ns:List Node} {v:Int} {cs:List (List Int)} (W:WT n b H in_ ns) (h:CL cs):CL (eO b H in_ ns (v,cs,[])).2.1:=by
 have:=tree_cl (v:=v) W h ns.length (Nat.le_refl _)
 rwa [List.take_length] at this
theorem CL.lt {cs:List (List Int)} (h:CL cs):∀ c∈cs,c.length < 1099511627776:=fun c hc=>by have:=h c hc; omega
theorem eqB_self (a:Int):eqB a a=true:=by simp[eqB]
end Go.Proofs.YtjlckgeecihpbaaGreatDoor
