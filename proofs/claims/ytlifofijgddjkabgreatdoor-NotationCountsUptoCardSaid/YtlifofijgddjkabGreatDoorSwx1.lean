/- Plain laws: things as functions of lists of states; two positions exchanged. -/
import Derived.Test.YtlifofijgddjkabGreatDoorRrx1
namespace Go.Proofs.YtlifofijgddjkabGreatDoor
open Go.AM Go.Proofs
def evD:(L:Nat)->DD L->List Nat->Int
 | 0,u,_=>u
 | _+1,_,[]=>0
 | L+1,u,s::l=>evD L (u.kids.getD s (DD.dflt L)) l
def Sts (n L:Nat) (l:List Nat):Prop:=l.length=L/\∀ s∈l,s < n
theorem Sts.cons {n L s:Nat} {l:List Nat} (h:Sts n (L+1) (s::l)):s < n/\Sts n L l:=⟨h.2 s (by simp),by simpa using h.1,fun x hx=>h.2 x (by simp[hx])⟩
theorem Sts.of_cons {n L s:Nat} {l:List Nat} (h1:s < n) (h2:Sts n L l):Sts n (L+1) (s::l):=⟨by simp[h2.1],fun x hx=>by
 rcases List.mem_cons.1 hx with rfl | hx
 ·exact h1
 ·exact h2.2 x hx⟩
theorem reg_kid {n L s:Nat} {u:DD (L+1)} (h:Reg n (L+1) u) (hs:s < n):u.kids[s]?=some (u.kids.getD s (DD.dflt L))/\Reg n L (u.kids.getD s (DD.dflt L)):=by
 have hl:s < u.kids.length:=by rw[h.1]; exact hs
 have e:u.kids[s]?=some (u.kids.getD s (DD.dflt L)):=by simp_all
 exact⟨e,h.2 _ (List.mem_of_getElem? e)⟩
theorem evD_ext {n:Nat}:∀ {L:Nat} {u v:DD L},Reg n L u->Reg n L v->(∀ l,Sts n L l->evD L u l=evD L v l)->u=v
 | 0,_,_,_,_,h=>h [] ⟨rfl,fun s hs=>by cases hs⟩
 | L+1,u,v,hu,hv,h=>by
  apply DD.ext
  apply List.ext_getElem?
  intro s
  rcases Nat.lt_or_ge s n with hs | hs
  ·obtain⟨e1,r1⟩:=reg_kid hu hs
   obtain⟨e2,r2⟩:=reg_kid hv hs
   rw[e1,e2,evD_ext r1 r2 fun l hl=>h (s::l) (hl.of_cons hs)]
  ·rw[List.getElem?_eq_none (by rw[hu.1]; exact hs),List.getElem?_eq_none (by rw[hv.1]; exact hs)]
theorem evD_in {n:Nat} (hn:1<=n):∀ {L:Nat} {u:DD L} {l:List Nat},Reg n L u->Sts n L l->0<=evD L u l/\evD L u l < n
 | 0,_,_,h,_=>h
 | L+1,u,[],_,hl=>by have:=hl.1; simp at this
 | L+1,u,s::l,h,hl=>evD_in (L:=L) (u:=u.kids.getD s (DD.dflt L)) (l:=l) hn (reg_kid h hl.cons.1).2 hl.cons.2
def swp:Nat->List Nat->List Nat
 | 0,a::b::l=>b::a::l
 | i+1,a::l=>a::swp i l
 | _,l=>l
theorem swp_len:∀ (i:Nat) (l:List Nat),(swp i l).length=l.length
 | 0,[]=>rfl
 | 0,[_]=>rfl
 | 0,_::_::_=>rfl
 | _+1,[]=>rfl
 | i+1,a::l=>by show (a::swp i l).length=_; rw[List.length_cons,swp_len i l,List.length_cons]
theorem swp_mem:∀ (i:Nat) (l:List Nat) (x:Nat),x∈swp i l->x∈l
 | 0,[],_,h=>h
 | 0,[_],_,h=>h
 | 0,a::b::l,x,h=>by
  rcases List.mem_cons.1 h with h | h
  ·simp[h]
  grind
 | _+1,[],_,h=>h
 | i+1,a::l,x,h=>by
  rcases List.mem_cons.1 h with h | h
  ·simp[h]
  ·exact List.mem_cons_of_mem _ (swp_mem i l x h)
theorem Sts.swp {n L i:Nat} {l:List Nat} (h:Sts n L l):Sts n L (swp i l):=⟨by rw[swp_len,h.1],fun x hx=>h.2 x (swp_mem i l x hx)⟩
def trD (n L:Nat) (u:DD (L+2)):DD (L+2):=DD.of ((List.range n).map fun s=>(DD.of (u.kids.map fun d=>d.kids.getD s (DD.dflt L)):DD (L+1)))
def swapD (n M:Nat):(L:Nat)->DD L->DD L
 | 0,u=>u
 | 1,u=>u
 | L+2,u=>if L+2=M then trD n L u else DD.of (u.kids.map (swapD n M (L+1)))
theorem trD_kid {n L s:Nat} {u:DD (L+2)} (hs:s < n):(trD n L u).kids.getD s (DD.dflt (L+1))=DD.of (u.kids.map fun d=>d.kids.getD s (DD.dflt L)):=by
 unfold trD
 rw[DD.kids_of,List.getD_eq_getElem?_getD,List.getElem?_map,List.getElem?_range hs]
 rfl
theorem trD_reg {n L:Nat} {u:DD (L+2)} (h:Reg n (L+2) u):Reg n (L+2) (trD n L u):=by
 refine⟨by unfold trD; rw[DD.kids_of]; simp,fun d hd=>?_⟩
 unfold trD at hd
 rw[DD.kids_of] at hd
 obtain⟨s,hs,rfl⟩:=List.mem_map.1 hd
 have hs':=List.mem_range.1 hs
 refine⟨by rw[DD.kids_of,List.length_map]; exact h.1,fun e he=>?_⟩
 rw[DD.kids_of] at he
 obtain⟨c,hc,rfl⟩:=List.mem_map.1 he
 exact (reg_kid (h.2 c hc) hs').2
theorem swapD_reg {n M:Nat}:∀ {L:Nat} {u:DD L},Reg n L u->Reg n L (swapD n M L u)
 | 0,_,h=>h
 | 1,_,h=>h
 | L+2,u,h=>by
  unfold swapD
  split
  ·exact trD_reg h
  ·refine⟨by rw[DD.kids_of,List.length_map]; exact h.1,fun d hd=>?_⟩
   rw[DD.kids_of] at hd
   obtain⟨c,hc,rfl⟩:=List.mem_map.1 hd
   exact swapD_reg (h.2 c hc)
theorem map_getD {α β:Type} (f:α->β) (l:List α) {s:Nat} (hs:s < l.length) (d:α) (e:β):(l.map f).getD s e=f (l.getD s d):=by
 simp_all
theorem ev_swap {n M:Nat} (hM:2<=M):∀ {L:Nat} {u:DD L} {l:List Nat},Reg n L u->M<=L->Sts n L l->evD L (swapD n M L u) l=evD L u (swp (L - M) l)
 | 0,_,_,_,h,_=>by omega
 | 1,_,_,_,h,_=>by omega
 | L+2,u,[],_,_,hl=>by have:=hl.1; simp at this
 | L+2,u,[a],_,_,hl=>by have:=hl.1; simp at this
 | L+2,u,a::b::l,hr,hML,hl=>by
  have ha:=hl.cons.1
  have hb:=hl.cons.2.cons.1
  unfold swapD
  by_cases he:L+2=M
  ·rw[if_pos he,show L+2 - M=0 by omega]
   show evD L (((trD n L u).kids.getD a (DD.dflt (L+1))).kids.getD b (DD.dflt L)) l=evD L ((u.kids.getD b (DD.dflt (L+1))).kids.getD a (DD.dflt L)) l
   rw[trD_kid ha,DD.kids_of,map_getD _ u.kids (by rw[hr.1]; exact hb) (DD.dflt (L+1))]
  ·rw[if_neg he,show L+2 - M=(L+1 - M)+1 by omega]
   show evD (L+1) ((DD.of (u.kids.map (swapD n M (L+1)))).kids.getD a (DD.dflt (L+1))) (b::l)=evD (L+1) (u.kids.getD a (DD.dflt (L+1))) (swp (L+1 - M) (b::l))
   rw[DD.kids_of,map_getD _ u.kids (by rw[hr.1]; exact ha) (DD.dflt (L+1))]
   exact ev_swap hM (reg_kid hr ha).2 (by omega) hl.cons.2
end Go.Proofs.YtlifofijgddjkabGreatDoor
namespace Go.Proofs.YtlifofijgddjkabGreatDoor
open Go.AM Go.Proofs
structure BI (n:Nat) (mp:List (List UInt8×Int)) (l:List Node):Prop where
 kn:Kn digI mp l
 gd:Good n l
theorem BI.nil (n:Nat):BI n [] []:=⟨Kn.nil digI,⟨fun i x h=>by simp at h,fun i x h=>by simp at h,fun i x h=>by simp at h,fun i x h=>by simp at h⟩⟩
theorem node_add {n L:Nat} {mp:List (List UInt8×Int)} {l:List Node} {next:List Int} {u:DD (L+1)} (h:BI n mp l) (hll:l.length<=1099511627) (hn6:n<=1000000) (hL:L < 1000000) (hu:Reg n (L+1) u) (hnl:next.length=n)
  (hk:∀ (s:Nat) k' d,next[s]?=some k'->u.kids[s]?=some d->Rep l L k' d) :
  ∃ mp' l' i,m_reduce_builder_node_o l mp ((L:Int)+1) next=some (((i:Nat):Int),mp',l')/\BI n mp' l'/\(∃ ws,l'=l++ws)/\l'.length<=l.length+1/\Rep l' (L+1) (i:Nat) u:=by
 have hkl:u.kids.length=n:=hu.1
 have hnm:∀ k∈next,Nm k/\((L:Int)+1=1->0<=k/\k < n)/\(1 < (L:Int)+1->0<=k/\∃ y,idx l k=some y/\y.Level=(L:Int)+1 - 1):=fun k' hk'=>by
  obtain⟨s,hs⟩:=List.mem_iff_getElem?.1 hk'
  have hlt:=(List.getElem?_eq_some_iff.1 hs).1
  have hr:=hk s k' (u.kids[s]'(by omega)) hs (List.getElem?_eq_getElem _)
  have hreg:=hu.2 (u.kids[s]'(by omega)) (List.getElem_mem _)
  cases L with
  | zero =>
   have e:k'=(u.kids[s]'(by omega):DD 0):=hr
   have hb:0<=k'/\k' < n:=by rw[e]; exact hreg
   exact⟨⟨hb.1,by omega⟩,fun _=>hb,fun h1=>by omega⟩
  | succ L =>
   obtain⟨a,b,y,hy,hyl⟩:=hr.rng
   exact⟨⟨a,by omega⟩,fun h1=>by omega,fun _=>⟨a,y,hy,by omega⟩⟩
 obtain⟨mp',hm,hK⟩:=node_is numI h.kn (level:=(L:Int)+1) (next:=next) ⟨by omega,by omega⟩ (fun k hk=>(hnm k hk).1) (by omega) (by omega)
 have hgd:=h.gd.add (x:=⟨(L:Int)+1,next⟩) (by grind) hnl (fun h1 k hk=>(hnm k hk).2.2 h1) (fun h1 k hk=>(hnm k hk).2.1 h1)
 exact⟨mp',_,_,hm,⟨hK,hgd⟩,addN_pre l _,addN_len l _,addN_rep rfl (by simp_all) hk⟩
end Go.Proofs.YtlifofijgddjkabGreatDoor
namespace Go.Proofs.YtlifofijgddjkabGreatDoor
open Go.AM Go.Proofs
theorem swapD_off {n M L:Nat} {u:DD (L+1)} (h:L+1≠M):swapD n M (L+1) u=DD.of (u.kids.map (swapD n M L)):=by
 cases L with
 | zero =>
  show u=DD.of (u.kids.map (swapD n M 0))
  have:u.kids.map (swapD n M 0)=u.kids:=by
   rw[show (swapD n M 0)=id from rfl]
   simp
  rw[this,DD.of_kids]
 | succ L =>
  unfold swapD
  rw[if_neg h]
theorem swapD_at {n L:Nat} {u:DD (L+2)}:swapD n (L+2) (L+2) u=trD n L u:=by
 unfold swapD
 rw[if_pos rfl]
theorem swapD_low {n M:Nat}:∀ {L:Nat} {u:DD L},L < M->swapD n M L u=u
 | 0,_,_=>rfl
 | L+1,u,h=>by
  rw[swapD_off (by omega)]
  apply DD.ext
  rw[DD.kids_of]
  have:u.kids.map (swapD n M L)=u.kids.map id:=List.map_congr_left fun d _=>swapD_low (by omega)
  simp_all
theorem mk_some {α:Type} {z:α} {S:Int} (b:Int) (h0:0<=S) (h1:S*b<=140737488355328):mkL b S S z=some (List.replicate S.toNat z):=by
 simp_all [mkL]
structure SI (n M:Nat) (ns:List Node) (k:Nat) (mp:List (List UInt8×Int)) (to_:List Int) (l:List Node):Prop where
 bi:BI n mp l
 tl:to_.length=ns.length
 ll:l.length<=k*9
 mp:∀ K (j:Nat) (u:DD (K+1)),j < k->Rep ns (K+1) j u->K+2≠M->∃ v,to_[j]?=some v/\Rep l (K+1) v (swapD n M (K+1) u)
theorem Rep.app' {l l':List Node} (h:∃ ws,l'=l++ws) {L:Nat} {k:Int} {u:DD L} (hr:Rep l L k u):Rep l' L k u:=by
 obtain⟨ws,rfl⟩:=h
 exact hr.app
section
variable {n M:Nat} {S:Int} {Hd:List Point} {ns:List Node} {i:Int} (hS:S=(n:Int)) (hG:Good n ns) (hns:ns.length<=100000000) (hn2:2<=n) (hn8:n<=8) (hM:2<=M) (hi:aX .i64 (aO Hd) i=(M:Int)) (hM5:M<=1000)
include hS hG hns hn2 hn8 hM hi hM5
theorem inner_swap {K k:Nat} {mp:List (List UInt8×Int)} {to_:List Int} {l l3:List Node} {x:Node} {u:DD (K+2)} {s:Nat} {mp1:List (List UInt8×Int)} {next:List Int} {a:Int} (h:SI n M ns k mp to_ l) (hx:ns[k]?=some x) (hK:K+2=M) (hr:Rep ns (K+2) k u) (hs:s < n) :
  ∃ inner,aT (b_reduce_swapped_o_w_3 S Hd ns i a to_ x (s:Int) mp1 next l3) b7 (0,List.replicate S.toNat 0)=some inner/\inner.length=n /\
   ∀ (r:Nat) k' d,inner[r]?=some k'->(DD.of (u.kids.map fun d=>d.kids.getD s (DD.dflt K)):DD (K+1)).kids[r]?=some d->Rep l K k' d:=by
 have _hns:=hns
 have hkl:=(List.getElem?_eq_some_iff.1 hx).1
 have hxl:=hG.len k x hx
 obtain⟨x0,e0,hlev,hl0,hk0⟩:=id hr
 rw[idx_nat,hx] at e0
 obtain rfl:=Option.some.inj e0
 have hreg:Reg n (K+2) u:=hr.reg hG
 obtain⟨r,hr',hq⟩:=loop_iv (b:=b_reduce_swapped_o_w_3 S Hd ns i a to_ x (s:Int) mp1 next l3) (n:=n) (s:=(0,List.replicate S.toNat 0)) (fun j st=>∃ inner:List Int,st=((j:Int),inner)/\inner.length=n/\∀ (r:Nat) k' d,r < j->inner[r]?=some k'->u.kids[r]?=some d->Rep l K k' (d.kids.getD s (DD.dflt K)))
  (fun inner=>inner.length=n/\∀ (r:Nat) k' d,r < n->inner[r]?=some k'->u.kids[r]?=some d->Rep l K k' (d.kids.getD s (DD.dflt K))) (by omega) ⟨_,rfl,by rw[hS]; simp,fun r k' d hr=>by omega⟩
  (fun j st hj ⟨inner,e,e1,e2⟩=>by
   subst e
   have hc:x.Next[j]?=some (x.Next[j]'(by omega)):=List.getElem?_eq_getElem _
   generalize x.Next[j]'(by omega)=c at hc
   obtain⟨ed,rd⟩:=reg_kid hreg hj
   have hrc:=hk0 j c _ hc ed
   obtain⟨y,hy,hyl,hyn,hyk⟩:=id hrc
   obtain⟨c0,c1,c2⟩:=idx_lt hy
   obtain⟨ee,re⟩:=reg_kid rd hs
   have hyln:=hG.len c.toNat y c2
   have hd4:y.Next[s]?=some (y.Next[s]'(by omega)):=List.getElem?_eq_getElem _
   generalize y.Next[s]'(by omega)=c4 at hd4
   have hr4:=hyk s c4 _ hd4 ee
   have hin:inner[j]?=some (inner[j]'(by omega)):=List.getElem?_eq_getElem _
   have hv:∃ v,(bif gtB (M:Int) 2 then
      (idx (inner.set j c4) (j:Int)).bind fun x6=>(idx to_ x6).bind fun x7=>some ((inner.set j c4).set j x7)
     else some (inner.set j c4))=some (inner.set j v)/\Rep l K v ((u.kids.getD j (DD.dflt (K+1))).kids.getD s (DD.dflt K)):=by
    by_cases hM2:M=2
    ·rw[show gtB (M:Int) 2=false from decide_eq_false (by omega),cond_false]
     have:K=0:=by omega
     subst this
     exact⟨c4,rfl,hr4⟩
    ·rw[show gtB (M:Int) 2=true from decide_eq_true (by omega),cond_true]
     obtain⟨K',rfl⟩:∃ K',K=K'+1:=⟨K - 1,by omega⟩
     obtain⟨y4,hy4,_⟩:=id hr4
     obtain⟨d0,d1,d2⟩:=idx_lt hy4
     have hlow:c4 < c:=by
      have:=hG.kid c.toNat y c2 (by rw[hyl]; omega) c4 (List.mem_of_getElem? hd4)
      omega
     have hlow2:c < k:=by
      have:=hG.kid k x hx (by omega) c (List.mem_of_getElem? hc)
      omega
     have hr4':=hr4
     rw[show c4=((c4.toNat:Nat):Int) by omega] at hr4'
     obtain⟨v,hv1,hv2⟩:=h.mp K' c4.toNat _ (by omega) hr4' (by omega)
     grind [swapD_low,idx_nat,List.set_set]
   obtain⟨v,hv1,hv2⟩:=hv
   refine .inl ⟨(((j+1:Nat):Int),inner.set j v),?_,inner.set j v,rfl,by grind,fun r k' d hr hk' hd=>?_⟩
   ·unfold b_reduce_swapped_o_w_3
    dsimp only
    rw[show ltB (j:Int) (aO x.Next)=true from decide_eq_true (by unfold aO; omega),cond_true,idx_nat,hc,up_nat (by omega)]
    simp only[some_bind]
    rw[hy]
    simp only[some_bind]
    rw[idx_nat,hd4,idx_nat,hin]
    grind [Int.toNat_natCast]
   grind)
  (fun st ⟨inner,e,e1,e2⟩=>by
   simp_all [b_reduce_swapped_o_w_3,ltB,aO])
 refine⟨r,hr',hq.1,fun j k' d hk' hd=>?_⟩
 rw[DD.kids_of,List.getElem?_map] at hd
 grind
theorem next_swap {K k:Nat} {mp:List (List UInt8×Int)} {to_:List Int} {l:List Node} {x:Node} {u:DD (K+1)} {a:Int} (h:SI n M ns k mp to_ l) (hx:ns[k]?=some x) (hr:Rep ns (K+1) k u) (hK:K+2≠M) :
  ∃ mp1 next l3,aT (b_reduce_swapped_o_w_2 S Hd ns i a to_ x) b7 (0,mp,List.replicate S.toNat 0,l)=some (mp1,next,l3)/\BI n mp1 l3/\(∃ ws,l3=l++ws)/\l3.length<=l.length+n/\next.length=n /\
   ∀ (s:Nat) k' d,next[s]?=some k'->(swapD n M (K+1) u).kids[s]?=some d->Rep l3 K k' d:=by
 have hkl:=(List.getElem?_eq_some_iff.1 hx).1
 have hxl:=hG.len k x hx
 have hll:=h.ll
 have hreg:Reg n (K+1) u:=hr.reg hG
 obtain⟨x0,e0,hlev,hl0,hk0⟩:=id hr
 rw[idx_nat,hx] at e0
 obtain rfl:=Option.some.inj e0
 have hkM:k*9<=100000000*9:=Nat.mul_le_mul_right _ (by omega)
 obtain⟨r,hr',mp1,next,l3,rfl,q1,q2,q3,q4,q5⟩:=loop_iv (b:=b_reduce_swapped_o_w_2 S Hd ns i a to_ x) (n:=n) (s:=(0,mp,List.replicate S.toNat 0,l))
  (fun j st=>∃ mp1 next l3,st=((j:Int),mp1,next,l3)/\BI n mp1 l3/\(∃ ws,l3=l++ws)/\l3.length<=l.length+j/\next.length=n/\∀ (s:Nat) k' d,s < j->next[s]?=some k'->(swapD n M (K+1) u).kids[s]?=some d->Rep l3 K k' d)
  (fun r=>∃ mp1 next l3,r=(mp1,next,l3)/\BI n mp1 l3/\(∃ ws,l3=l++ws)/\l3.length<=l.length+n/\next.length=n/\∀ (s:Nat) k' d,s < n->next[s]?=some k'->(swapD n M (K+1) u).kids[s]?=some d->Rep l3 K k' d) (by omega)
  ⟨mp,_,l,rfl,h.bi,⟨[],by simp⟩,Nat.le_refl _,by rw[hS]; simp,fun s k' d hs=>by omega⟩
  (fun j st hj ⟨mp1,next,l3,e,b1,b2,b3,b4,b5⟩=>by
   subst e
   have hc:x.Next[j]?=some (x.Next[j]'(by omega)):=List.getElem?_eq_getElem _
   generalize x.Next[j]'(by omega)=c at hc
   have hnx:next[j]?=some (next[j]'(by omega)):=List.getElem?_eq_getElem _
   have hdrg:Reg n (K+1) (swapD n M (K+1) u):=swapD_reg hreg
   obtain⟨ed,rd⟩:=reg_kid hdrg hj
   by_cases hKM:K+1=M
   ·-- the upper level
    obtain⟨K',rfl⟩:∃ K',K=K'+1:=⟨K - 1,by omega⟩
    obtain⟨inner,hin,il,ik⟩:=inner_swap hS hG hns hn2 hn8 hM hi hM5 (l3:=l3) (mp1:=mp1) (next:=next) (a:=a) h hx hKM hr hj
    have hcol:(swapD n M (K'+2) u).kids.getD j (DD.dflt (K'+1))=DD.of (u.kids.map fun d=>d.kids.getD j (DD.dflt K')):=by
     grind [swapD_at,trD_kid]
    rw[hcol] at ed rd
    obtain⟨mp2,l4,idx4,hadd,c1,c2,c3,c4⟩:=node_add (next:=inner) b1 (by omega) (by omega) (by omega) rd il (fun s k' d e1 e2=>(ik s k' d e1 e2).app' b2)
    refine .inl ⟨(((j+1:Nat):Int),mp2,next.set j ((idx4:Nat):Int),l4),?_,mp2,next.set j ((idx4:Nat):Int),l4,rfl,c1,?_,by omega,by simp_all,fun s k' d hs hk' hd=>?_⟩
    ·unfold b_reduce_swapped_o_w_2
     dsimp only
     rw[show ltB (j:Int) (aO x.Next)=true from decide_eq_true (by unfold aO; omega),cond_true,idx_nat,hc,up_nat (by omega)]
     simp only[some_bind]
     rw[hi,show eqB x.Level (M:Int)=true from by simp only[eqB,beq_iff_eq]; omega,cond_true,mk_some 8 (by omega) (by omega)]
     simp only[some_bind]
     rw[hin]
     simp only[some_bind]
     rw[show aX .i64 (M:Int) 1=((K':Nat):Int)+1 from by grind [isub_in],node2_eq,hadd]
     simp_all [idx_nat]
    ·grind
    ·by_cases he:s=j
     ·simp_all
     ·rw[List.getElem?_set_ne (by omega)] at hk'
      exact (b5 s k' d (by omega) hk' hd).app' c2
   ·-- the other levels
    have hoff:=swapD_off (n:=n) (u:=u) hKM
    obtain⟨eu,ru⟩:=reg_kid hreg hj
    have hkid:(swapD n M (K+1) u).kids.getD j (DD.dflt K)=swapD n M K (u.kids.getD j (DD.dflt K)):=by
     grind [DD.kids_of]
    rw[hkid] at ed
    have hrc:=hk0 j c _ hc eu
    have hv:∃ v,(bif gtB x.Level 1 then
       (idx to_ c).bind fun x2=>(idx next (j:Int)).bind fun _=>some (Lp.next (((j+1:Nat):Int),mp1,next.set j x2,l3))
      else (idx next (j:Int)).bind fun _=>some (Lp.next (((j+1:Nat):Int),mp1,next.set j c,l3)))=(some (Lp.next (((j+1:Nat):Int),mp1,next.set j v,l3)):Option (Lp (Int×(List (List UInt8×Int))×(List Int)×(List Node)) (((List (List UInt8×Int))×(List Int)×(List Node)))))/\Rep l3 K v (swapD n M K (u.kids.getD j (DD.dflt K))):=by
     rw[idx_nat,hnx]
     cases K with
     | zero =>
      rw[show gtB x.Level 1=false from decide_eq_false (by omega),cond_false]
      exact⟨c,rfl,hrc⟩
     | succ K =>
      rw[show gtB x.Level 1=true from decide_eq_true (by omega),cond_true]
      have hlow:=hG.kid k x hx (by omega) c (List.mem_of_getElem? hc)
      rw[show c=((c.toNat:Nat):Int) by omega] at hrc
      obtain⟨v,hv1,hv2⟩:=h.mp K c.toNat _ (by omega) hrc (by omega)
      rw[idx_int _ hlow.1,hv1]
      exact⟨v,rfl,hv2.app' b2⟩
    obtain⟨v,hv1,hv2⟩:=hv
    refine .inl ⟨(((j+1:Nat):Int),mp1,next.set j v,l3),?_,mp1,next.set j v,l3,rfl,b1,b2,by omega,by grind,fun s k' d hs hk' hd=>?_⟩
    ·unfold b_reduce_swapped_o_w_2
     dsimp only
     rw[show ltB (j:Int) (aO x.Next)=true from decide_eq_true (by unfold aO; omega),cond_true,idx_nat,hc,up_nat (by omega)]
     simp only[some_bind]
     rw[hi,show eqB x.Level (M:Int)=false from by simp only[eqB,beq_eq_false_iff_ne]; omega,cond_false,Int.toNat_natCast]
     exact hv1
    grind)
  (fun st ⟨mp1,next,l3,e,b1,b2,b3,b4,b5⟩=>by
   subst e
   refine⟨(mp1,next,l3),?_,mp1,next,l3,rfl,b1,b2,b3,b4,b5⟩
   simp_all [b_reduce_swapped_o_w_2,ltB,aO])
 grind
theorem nodes_swap (hM1:∀ x∈ns,x.Level<=1000):∃ mp to_ l,aT (b_reduce_swapped_o_w_1 S Hd ns i) b7 (0,[],List.replicate ns.length 0,[])=some (mp,to_,l)/\SI n M ns ns.length mp to_ l:=by
 have hM1i:aX .i64 (aX .i64 (aO Hd) i) 1=((M - 1:Nat):Int):=by grind [isub_in]
 obtain⟨r,hr,mp,to_,l,rfl,h⟩:=loop_iv (b:=b_reduce_swapped_o_w_1 S Hd ns i) (n:=ns.length) (s:=(0,[],List.replicate ns.length 0,[])) (fun k st=>∃ mp to_ l,st=((k:Int),mp,to_,l)/\SI n M ns k mp to_ l) (fun r=>∃ mp to_ l,r=(mp,to_,l)/\SI n M ns ns.length mp to_ l) (by omega)
  ⟨[],_,[],rfl,BI.nil n,by simp,by simp,fun K j u hj=>by omega⟩
  (fun k st hk ⟨mp,to_,l,e,h⟩=>by
   subst e
   have hx:ns[k]?=some ns[k]:=List.getElem?_eq_getElem hk
   generalize ns[k]=x at hx
   have hlev:=hG.lev k x hx
   have hlx:=hM1 x (List.mem_of_getElem? hx)
   obtain⟨K,hK⟩:∃ K:Nat,x.Level=(K:Int)+1:=⟨(x.Level - 1).toNat,by omega⟩
   obtain⟨u,hu,hreg⟩:=hG.rep K k x hx hK
   by_cases hs:K+2=M
   ·refine .inl ⟨(((k+1:Nat):Int),mp,to_,l),?_,mp,to_,l,rfl,h.bi,h.tl,by have:=h.ll; omega,fun K' j u' hj hr' hM'=>?_⟩
    ·unfold b_reduce_swapped_o_w_1
     dsimp only
     rw[ltB_nat,decide_eq_true hk,cond_true,idx_nat,hx,up_nat (by omega)]
     simp only[some_bind]
     rw[hM1i,show eqB x.Level ((M - 1:Nat):Int)=true from by simp only[eqB,beq_iff_eq]; omega,cond_true]
    ·by_cases hjk:j=k
     ·subst hjk
      have e:=hu.lev hr'
      simp_all
     ·exact h.mp K' j u' (by omega) hr' hM'
   ·obtain⟨mp1,next,l3,h1,h2,h3,h4,h5,h6⟩:=next_swap hS hG hns hn2 hn8 hM hi hM5 (a:=(k:Int)) h hx hu hs
    have hll:=h.ll
    have hkM:k*9<=100000000*9:=Nat.mul_le_mul_right _ (by omega)
    obtain⟨mp2,l4,ix,hadd,c1,c2,c3,c4⟩:=node_add (next:=next) h2 (by omega) (by omega) (by omega) (swapD_reg hreg) h5 h6
    have hpre:∃ ws,l4=l++ws:=by
     grind
    have htl:=h.tl
    have hto:to_[k]?=some (to_[k]'(by omega)):=List.getElem?_eq_getElem _
    refine .inl ⟨(((k+1:Nat):Int),mp2,to_.set k ((ix:Nat):Int),l4),?_,mp2,to_.set k ((ix:Nat):Int),l4,rfl,c1,by simp_all,by omega,fun K' j u' hj hr' hM'=>?_⟩
    ·unfold b_reduce_swapped_o_w_1
     dsimp only
     rw[ltB_nat,decide_eq_true hk,cond_true,idx_nat,hx,up_nat (by omega)]
     simp only[some_bind]
     rw[hM1i,show eqB x.Level ((M - 1:Nat):Int)=false from by simp only[eqB,beq_eq_false_iff_ne]; omega,cond_false,mk_some 8 (by omega) (by omega)]
     simp only[some_bind]
     rw[h1]
     simp only[some_bind]
     rw[node2_eq,hK,hadd]
     simp only[some_bind]
     rw[idx_nat,hto]
     rfl
    ·by_cases hjk:j=k
     ·subst hjk
      have e:=hu.lev hr'
      grind
     ·obtain⟨v,e1,e2⟩:=h.mp K' j u' (by omega) hr' hM'
      exact⟨v,by grind,e2.app' hpre⟩)
  (fun st ⟨mp,to_,l,e,h⟩=>by
   subst e
   refine⟨(mp,to_,l),?_,mp,to_,l,rfl,h⟩
   simp[b_reduce_swapped_o_w_1,ltB_nat])
 grind
theorem swapped_is (hM1:∀ x∈ns,x.Level<=1000) {L j:Nat} {u:DD (L+1)} (hj:j+1=ns.length) (hr:Rep ns (L+1) (j:Nat) u) (hL:L < 1000) (hML:M<=L+1):m_reduce_swapped_o_w S Hd ns i=some (ser (post (L+1) (swapD n M (L+1) u) [])):=by
 obtain⟨mp,to_,l,h1,h⟩:=nodes_swap hS hG hns hn2 hn8 hM hi hM5 hM1
 have htl:=h.tl
 have hll:=h.ll
 have hreg:=hr.reg hG
 obtain⟨v,e1,e2⟩:=h.mp L j u (by omega) hr (by omega)
 have hlk:ns.length*9<=100000000*9:=Nat.mul_le_mul_right _ (by omega)
 unfold m_reduce_swapped_o_w
 rw[mk_some 8 (by unfold aO; omega) (by unfold aO; omega)]
 simp only[some_bind]
 rw[lenL_toNat,h1]
 simp only[some_bind]
 rw[show aX .i64 (aO to_) 1=((j:Nat):Int) from by grind [aO,isub_in],idx_nat,e1]
 simp only[some_bind]
 rw[ordered_is h.bi.gd h.bi.kn.nd (by omega) (by omega) (L:=L) (by omega) e2]
 rfl
end
end Go.Proofs.YtlifofijgddjkabGreatDoor
namespace Go.Proofs.YtlifofijgddjkabGreatDoor
open Go.AM Go.Proofs
def cntN (n:Nat):Nat->Nat
 | 0=>0
 | L+1=>n*cntN n L+1
structure PO (n:Nat) (us:List ND):Prop where
 clo:Clo us
 nd:us.Nodup
 reg:∀ x∈us,Reg n (x.1+1) x.2
structure PS (n L m:Nat) (s s':List ND):Prop where
 po:PO n s'
 pre:∃ ws,s'=s++ws
 len:s'.length<=s.length+m
 lev:∀ x∈s',x∈s \/ x.1+1<=L
theorem post_ps {n:Nat}:∀ (L:Nat) (u:DD L) (s:List ND),Reg n L u->PO n s->PS n L (cntN n L) s (post L u s)
 | 0,_,s,_,h=>⟨h,⟨[],by show s=_; simp⟩,by show s.length<=_; omega,fun x hx=>.inl hx⟩
 | L+1,u,s,hu,h=>by
  unfold post
  split
  ·exact⟨h,⟨[],by simp⟩,by omega,fun x hx=>.inl hx⟩
  ·rename_i hn
   have fold:∀ (l:List (DD L)) (s:List ND),(∀ d∈l,Reg n L d)->PO n s->PS n L (l.length*cntN n L) s (l.foldl (fun s d=>post L d s) s)/\∀ K w,(∀ d∈l,(⟨L,d⟩:Σ L:Nat,DD L)=⟨K+1,w⟩->(⟨K,w⟩:ND)∈l.foldl (fun s d=>post L d s) s):=by
    intro l
    induction l with
    | nil=>intro s _ hs; exact⟨⟨hs,⟨[],by simp⟩,by simp,fun x hx=>.inl hx⟩,fun K w d hd=>by cases hd⟩
    | cons d l ih =>
     intro s hl hs
     have h1:=post_ps L d s (hl d (by simp)) hs
     obtain⟨h2,h3⟩:=ih (post L d s) (fun e he=>hl e (by simp[he])) h1.po
     obtain⟨w1,e1⟩:=h1.pre
     obtain⟨w2,e2⟩:=h2.pre
     refine⟨⟨h2.po,⟨w1++w2,by simp_all⟩,?_,fun x hx=>?_⟩,fun K w e he hh=>?_⟩
     ·have a1:=h1.len
      have a2:=h2.len
      rw[List.foldl_cons,List.length_cons,Nat.add_mul,Nat.one_mul]
      omega
     ·rcases h2.lev x hx with hx | hx
      ·exact h1.lev x hx
      ·exact .inr hx
     ·rcases List.mem_cons.1 he with rfl | he
      ·grind [post]
      grind
   obtain⟨h2,h3⟩:=fold u.kids s hu.2 h
   generalize u.kids.foldl (fun s d=>post L d s) s=s2 at h2 h3
   have hn2:(⟨L,u⟩:ND) ∉ s2:=fun hm=>by
    rcases h2.lev _ hm with hm | hm
    ·exact hn hm
    grind
   obtain⟨w2,e2⟩:=h2.pre
   refine⟨⟨h2.po.clo.snoc hn2 fun K w e d hd=>?_,?_,fun x hx=>?_⟩,⟨w2++[⟨L,u⟩],by simp_all⟩,?_,fun x hx=>?_⟩
   ·cases e
    grind
   ·rw[List.nodup_append]
    exact⟨h2.po.nd,by simp,fun a ha b hb e=>hn2 (by simp_all)⟩
   ·rcases List.mem_append.1 hx with hx | hx
    ·exact h2.po.reg x hx
    grind
   ·have a2:=h2.len
    rw[hu.1] at a2
    grind [cntN]
   ·rcases List.mem_append.1 hx with hx | hx
    ·rcases h2.lev x hx with hx | hx
     ·exact .inl hx
     omega
    simp_all
theorem serN_lev (us:List ND) (x:ND):(serNode us x).Level=(x.1:Int)+1:=by
 obtain⟨K,w⟩:=x
 cases K with
 | zero=>rfl
 | succ K=>rfl
theorem PO.nil (n:Nat):PO n []:=⟨fun L u h=>(by cases h),List.nodup_nil,fun x h=>(by cases h)⟩
theorem ser_good {n:Nat} {us:List ND} (h:PO n us):Good n (ser us):=by
 have hget:∀ (j:Nat) y,(ser us)[j]?=some y->∃ x:ND,us[j]?=some x/\y=serNode us x:=fun j y hy=>by
  unfold ser at hy
  grind
 have hlen:∀ x:ND,(serNode us x).Next.length=x.2.kids.length:=fun x=>by
  obtain⟨K,w⟩:=x
  cases K with
  | zero=>rfl
  | succ K=>simp[serNode]
 refine⟨fun j y hy=>?_,fun j y hy=>?_,fun j y hy h1 k hk=>?_,fun j y hy h1 k hk=>?_⟩
 ·obtain⟨x,hx,rfl⟩:=hget j y hy
  rw[serN_lev]
  omega
 ·obtain⟨x,hx,rfl⟩:=hget j y hy
  rw[hlen]
  exact (h.reg x (List.mem_of_getElem? hx)).1
 ·obtain⟨⟨K,w⟩,hx,rfl⟩:=hget j y hy
  rw[serN_lev] at h1 ⊢
  cases K with
  | zero=>simp_all
  | succ K =>
   simp only[serNode,List.mem_map] at hk
   obtain⟨d,hd,rfl⟩:=hk
   obtain⟨m1,m2⟩:=h.clo K w (List.mem_of_getElem? hx) d hd
   rw[idxOf_get h.nd hx] at m2
   grind [serN_lev,Int.toNat_natCast]
 ·obtain⟨⟨K,w⟩,hx,rfl⟩:=hget j y hy
  rw[serN_lev] at h1
  cases K with
  | zero=>exact (h.reg _ (List.mem_of_getElem? hx)).2 k hk
  | succ K=>grind
structure PT (n L:Nat) (v:DD (L+1)):Prop where
 good:Good n (ser (post (L+1) v []))
 rep:∃ j,j+1=(ser (post (L+1) v [])).length/\Rep (ser (post (L+1) v [])) (L+1) (j:Nat) v
 len:(ser (post (L+1) v [])).length<=cntN n (L+1)
 lev:∀ x∈ser (post (L+1) v []),x.Level<=(L:Int)+1
 nd:(post (L+1) v []).Nodup
 clo:Clo (post (L+1) v [])
theorem post_tree {n L:Nat} {v:DD (L+1)} (h:Reg n (L+1) v):PT n L v:=by
 have hp:=post_ps (L+1) v [] h (PO.nil n)
 obtain⟨vs,hv⟩:=post_last v
 have hl:=hp.len
 have hlev:=hp.lev
 have hpo:=hp.po
 obtain⟨us,hus⟩:∃ us,us=post (L+1) v []:=⟨_,rfl⟩
 rw[<- hus] at hpo hl hlev hv
 have hsl:(ser us).length=us.length:=by unfold ser; simp
 have hroot:us[vs.length]?=some ⟨L,v⟩:=by simp_all
 have hul:vs.length+1=us.length:=by rw[hv]; simp
 have hr:=ser_rep hpo.clo L v (List.mem_of_getElem? hroot)
 rw[idxOf_get hpo.nd hroot] at hr
 refine⟨by grind [ser_good],⟨vs.length,by grind,by grind⟩,by grind,fun x hx=>?_,by rw[<- hus]; exact hpo.nd,by rw[<- hus]; exact hpo.clo⟩
 rw[<- hus] at hx
 unfold ser at hx
 obtain⟨w,hw,rfl⟩:=List.mem_map.1 hx
 grind [serN_lev]
theorem ser_inj {n L:Nat} {u v:DD (L+1)} (hu:Reg n (L+1) u) (hv:Reg n (L+1) v) (h:ser (post (L+1) u [])=ser (post (L+1) v [])):u=v:=by
 obtain⟨j,e1,r1⟩:=(post_tree hu).rep
 obtain⟨k,e2,r2⟩:=(post_tree hv).rep
 rw[h] at e1 r1
 have:j=k:=by omega
 subst this
 exact r1.det r2
end Go.Proofs.YtlifofijgddjkabGreatDoor
namespace Go.Proofs.YtlifofijgddjkabGreatDoor
open Go.AM Go.Proofs
def apK:Nat->Point->Point
 | 0,p=>⟨p.X,p.Y⟩
 | 1,p=>⟨-p.Y,p.X⟩
 | 2,p=>⟨-p.X,-p.Y⟩
 | 3,p=>⟨p.Y,-p.X⟩
 | 4,p=>⟨-p.X,p.Y⟩
 | 5,p=>⟨-p.Y,-p.X⟩
 | 6,p=>⟨p.X,-p.Y⟩
 | _,p=>⟨p.Y,p.X⟩
theorem lin_in {a b x y:Int} (ha:-1<=a/\a<=1) (hb:-1<=b/\b<=1) (hx:-4194304<=x/\x<=4194304) (hy:-4194304<=y/\y<=4194304):bq .i64 (imul .i64 a x) (imul .i64 b y)=a*x+b*y:=by
 have h1:a*x=-x \/ a*x=0 \/ a*x=x:=by
  have:a=-1 \/ a=0 \/ a=1:=by omega
  grind
 have h2:b*y=-y \/ b*y=0 \/ b*y=y:=by
  have:b=-1 \/ b=0 \/ b=1:=by omega
  grind
 grind [imul_in,iadd_in]
def SmP (p:Point):Prop:=(-4194304<=p.X/\p.X<=4194304)/\(-4194304<=p.Y/\p.Y<=4194304)
theorem apply_of {k:Nat} {p:Point} (hp:SmP p) {a b c d:Int} (h:fK 8 g0R (iand .i64 (k:Int) 7)=some (a,b,c,d)) (ha:-1<=a/\a<=1) (hb:-1<=b/\b<=1) (hc:-1<=c/\c<=1) (hd:-1<=d/\d<=1):m_symmetry_Apply (k:Int) p=some ⟨a*p.X+b*p.Y,c*p.X+d*p.Y⟩:=by
 unfold m_symmetry_Apply
 rw[h]
 simp only[some_bind]
 rw[lin_in ha hb hp.1 hp.2,lin_in hc hd hp.1 hp.2]
theorem apply_eq {p:Point} (hp:SmP p):∀ {k:Nat},k < 8->m_symmetry_Apply (k:Int) p=some (apK k p)
 | 0,_=>by rw[apply_of hp (show fK 8 g0R (iand .i64 ((0:Nat):Int) 7)=some (1,0,0,1) by kernel_rfl) (by omega) (by omega) (by omega) (by omega)]; simp[apK]
 | 1,_=>by rw[apply_of hp (show fK 8 g0R (iand .i64 ((1:Nat):Int) 7)=some (0,-1,1,0) by kernel_rfl) (by omega) (by omega) (by omega) (by omega)]; simp[apK]
 | 2,_=>by rw[apply_of hp (show fK 8 g0R (iand .i64 ((2:Nat):Int) 7)=some (-1,0,0,-1) by kernel_rfl) (by omega) (by omega) (by omega) (by omega)]; simp[apK]
 | 3,_=>by rw[apply_of hp (show fK 8 g0R (iand .i64 ((3:Nat):Int) 7)=some (0,1,-1,0) by kernel_rfl) (by omega) (by omega) (by omega) (by omega)]; simp[apK]
 | 4,_=>by rw[apply_of hp (show fK 8 g0R (iand .i64 ((4:Nat):Int) 7)=some (-1,0,0,1) by kernel_rfl) (by omega) (by omega) (by omega) (by omega)]; simp[apK]
 | 5,_=>by rw[apply_of hp (show fK 8 g0R (iand .i64 ((5:Nat):Int) 7)=some (0,-1,-1,0) by kernel_rfl) (by omega) (by omega) (by omega) (by omega)]; simp[apK]
 | 6,_=>by rw[apply_of hp (show fK 8 g0R (iand .i64 ((6:Nat):Int) 7)=some (1,0,0,-1) by kernel_rfl) (by omega) (by omega) (by omega) (by omega)]; simp[apK]
 | 7,_=>by rw[apply_of hp (show fK 8 g0R (iand .i64 ((7:Nat):Int) 7)=some (0,1,1,0) by kernel_rfl) (by omega) (by omega) (by omega) (by omega)]; simp[apK]
 | _+8,h=>by omega
theorem apK_small {p:Point} (h:-2<=p.X/\p.X<=2/\-2<=p.Y/\p.Y<=2):∀ k,-2<=(apK k p).X/\(apK k p).X<=2/\-2<=(apK k p).Y/\(apK k p).Y<=2:=fun k=>by
 unfold apK
 grind
theorem apK_inj {p q:Point}:∀ k,apK k p=apK k q->p=q:=fun k h=>by
 cases p
 cases q
 unfold apK at h
 grind
theorem comp_gt (a b:Point):∃ c,m_point_Compare a b=some c/\gtB c 0=befP b a:=by
 simp only[m_point_Compare,cmp_eq,some_bind,or_eq]
 refine⟨_,rfl,?_⟩
 unfold befP gtB
 grind
theorem befP_iff' (a b:Point):befP a b=true↔a.Y < b.Y \/ (a.Y=b.Y/\a.X < b.X):=by
 unfold befP
 simp
def wP (p:Point):Int:=100*p.Y+p.X
def wsum:Int->List Point->Int
 | _,[]=>0
 | i,p::l=>i*wP p+wsum (i+1) l
theorem wsum_app:∀ (l m:List Point) (i:Int),wsum i (l++m)=wsum i l+wsum (i+l.length) m
 | [],m,i=>by simp[wsum]
 | p::l,m,i=>by
  rw[List.cons_append,wsum,wsum,wsum_app l m (i+1),List.length_cons,show i+1+(l.length:Int)=i+((l.length+1:Nat):Int) by omega]
  omega
theorem wsum_swap (pre post:List Point) (a b:Point):wsum 0 (pre++b::a::post)=wsum 0 (pre++a::b::post)+(wP a - wP b):=by
 rw[wsum_app,wsum_app]
 simp only[wsum,Int.zero_add]
 grind
theorem wsum_le:∀ (l:List Point) (i:Nat),(∀ p∈l,-1000<=wP p/\wP p<=1000)->wsum i l<=1000*((i+l.length)*l.length:Nat)/\-(1000*((i+l.length)*l.length:Nat):Int)<=wsum i l
 | [],i,_=>by simp[wsum]
 | p::l,i,h=>by
  have h1:=h p (by simp)
  obtain⟨h2,h3⟩:=wsum_le l (i+1) fun q hq=>h q (by simp[hq])
  have e:(i+(p::l).length)*(p::l).length=(i+1+l.length)*l.length+(i+1+l.length):=by
   grind
  have hm:(i:Int)*wP p<=(i:Int)*1000:=Int.mul_le_mul_of_nonneg_left h1.2 (by omega)
  have hm2:(i:Int)*(-1000)<=(i:Int)*wP p:=Int.mul_le_mul_of_nonneg_left h1.1 (by omega)
  grind [wsum]
theorem swp_at:∀ (pre post:List Nat) (a b:Nat),swp pre.length (pre++b::a::post)=pre++a::b::post
 | [],_,_,_=>rfl
 | c::pre,post,a,b=>by
  show c::swp pre.length (pre++b::a::post)=_
  rw[swp_at pre post a b]
  rfl
theorem loop_ms_aux {St T:Type} {b:St->Option (Lp St T)} (I:St->Prop) (μ:St->Nat) (Q:T->Prop) (step:∀ s,I s->(∃ s',b s=some (.next s')/\I s'/\μ s' < μ s) \/ (∃ t,b s=some (.out t)/\Q t)) :
  ∀ (k:Nat) (s:St),μ s < k->I s->∃ t,aT b k s=some t/\Q t
 | 0,s,h,_=>by omega
 | k+1,s,h,hI=>by
  rcases step s hI with ⟨s',e,h',hm⟩ | ⟨t,e,hq⟩
  ·obtain⟨t,ht,hq⟩:=loop_ms_aux I μ Q step k s' (by omega) h'
   simp_all [aT]
  simp_all [aT]
theorem loop_ms {St T:Type} {b:St->Option (Lp St T)} (I:St->Prop) (μ:St->Nat) (Q:T->Prop) {s:St} (hm:μ s < 1099511627776) (h0:I s) (step:∀ s,I s->(∃ s',b s=some (.next s')/\I s'/\μ s' < μ s) \/ (∃ t,b s=some (.out t)/\Q t)):∃ t,aT b b7 s=some t/\Q t:=loop_ms_aux I μ Q step b7 s hm h0
structure TRI (n L:Nat) (I:List Point) (u:DD (L+1)) (l:List Point) (v:DD (L+1)):Prop where
 perm:l.Perm I
 reg:Reg n (L+1) v
 sem:∀ c:Point->Nat,(∀ p,c p < n)->evD (L+1) v (l.map c)=evD (L+1) u (I.map c)
theorem sts_map {n L:Nat} {l:List Point} (hl:l.length=L) {c:Point->Nat} (hc:∀ p,c p < n):Sts n L (l.map c):=⟨by simp_all,fun s hs=>by
 grind⟩
theorem TRI.swap {n L:Nat} {I:List Point} {u:DD (L+1)} {pre post:List Point} {a b:Point} {v:DD (L+1)} (h:TRI n L I u (pre++a::b::post) v) (hI:I.length=L+1):TRI n L I u (pre++b::a::post) (swapD n (L+1 - pre.length) (L+1) v):=by
 have hlen:=h.perm.length_eq
 simp only[List.length_append,List.length_cons] at hlen
 refine⟨?_,swapD_reg h.reg,fun c hc=>?_⟩
 ·exact (List.Perm.append_left pre (List.Perm.swap a b post)).trans h.perm
 ·rw[<- h.sem c hc,ev_swap (by omega) h.reg (by omega) (sts_map (by simp; omega) hc),show L+1 - (L+1 - pre.length)=(pre.map c).length by grind,List.map_append,List.map_cons,List.map_cons,swp_at]
  simp
def cntOk (n:Nat) (L:Nat):Prop:=cntN n (L+1)<=100000000
theorem sized_eq (t:Tree):m_reduce_sized t=some (bif gtB (aO t.Nodes) 4096 then (⟨0,[],[]⟩,6) else (t,0)):=by
 unfold m_reduce_sized
 grind
section
variable {n L:Nat} {S:Int} {I:List Point} {u:DD (L+1)} (hS:S=(n:Int)) (hn2:2<=n) (hn8:n<=8) (hI:I.length=L+1) (hL:L < 25) (hcnt:cntOk n L) (hIs:∀ p∈I,-2<=p.X/\p.X<=2/\-2<=p.Y/\p.Y<=2)
include hS hn2 hn8 hI hL hcnt hIs
theorem swap_step {pre suf:List Point} {a b:Point} {v:DD (L+1)} (h:TRI n L I u (pre++a::b::suf) v):m_reduce_swapped_o_w S (pre++a::b::suf) (ser (post (L+1) v [])) ((pre.length:Nat):Int)=some (ser (post (L+1) (swapD n (L+1 - pre.length) (L+1) v) [])):=by
 have _hIs:=hIs
 have hlen:=h.perm.length_eq
 have hl2:=hlen
 simp only[List.length_append,List.length_cons] at hl2
 have hp:=post_tree h.reg
 obtain⟨j,hj,hr⟩:=hp.rep
 have hpl:=hp.len
 unfold cntOk at hcnt
 exact swapped_is (M:=L+1 - pre.length) hS hp.good (by omega) hn2 hn8 (by omega) (by grind [aO,isub_in]) (by omega) (fun x hx=>by have:=hp.lev x hx; omega) hj hr (by omega) (by omega)
theorem pass_is {l0:List Point} {v0:DD (L+1)} {nn:List Node} {hh:List Point} (h0:TRI n L I u l0 v0) :
  ∃ sd l v,aT (b_reduce_Turn_3 (S,nn,hh)) b7 (true,1,ser (post (L+1) v0 []),l0)=some (sd,ser (post (L+1) v []),l)/\TRI n L I u l v/\(sd=true->l=l0/\v=v0/\∀ (i:Nat) a b,l[i]?=some a->l[i+1]?=some b->befP b a=false)/\(sd=false->wsum 0 l0 < wsum 0 l):=by
 obtain⟨r,hr,sd,l,v,rfl,q1,q2,q3⟩:=loop_iv (b:=b_reduce_Turn_3 (S,nn,hh)) (n:=L) (s:=(true,1,ser (post (L+1) v0 []),l0))
  (fun i st=>∃ sd l v,st=(sd,((i+1:Nat):Int),ser (post (L+1) v []),l)/\TRI n L I u l v/\(sd=true->l=l0/\v=v0/\∀ (j:Nat) a b,j < i->l[j]?=some a->l[j+1]?=some b->befP b a=false)/\(sd=false->wsum 0 l0 < wsum 0 l))
  (fun r=>∃ sd l v,r=(sd,ser (post (L+1) v []),l)/\TRI n L I u l v/\(sd=true->l=l0/\v=v0/\∀ (j:Nat) a b,j < L->l[j]?=some a->l[j+1]?=some b->befP b a=false)/\(sd=false->wsum 0 l0 < wsum 0 l)) (by omega)
  ⟨true,l0,v0,rfl,h0,fun _=>⟨rfl,rfl,fun j a b hj=>by omega⟩,fun h=>by cases h⟩
  (fun i st hi ⟨sd,l,v,e,h,h1,h2⟩=>by
   subst e
   have hlen:=h.perm.length_eq
   have ha:l[i]?=some (l[i]'(by omega)):=List.getElem?_eq_getElem _
   have hb:l[i+1]?=some (l[i+1]'(by omega)):=List.getElem?_eq_getElem _
   have hdrop:l=l.take i++(l[i]'(by omega))::(l[i+1]'(by omega))::l.drop (i+2):=by
    simp
   generalize l[i]'(by omega)=a at ha hdrop
   generalize l[i+1]'(by omega)=b at hb hdrop
   obtain⟨c,hc,hg⟩:=comp_gt a b
   have hi1:aX .i64 ((i+1:Nat):Int) 1=(i:Int):=by grind [isub_in]
   cases hbf:befP b a with
   | false =>
    refine .inl ⟨(sd,((i+2:Nat):Int),ser (post (L+1) v []),l),?_,sd,l,v,rfl,h,fun hs=>?_,h2⟩
    ·unfold b_reduce_Turn_3
     dsimp only
     rw[show ltB ((i+1:Nat):Int) (aO l)=true from decide_eq_true (by unfold aO; omega),cond_true,hi1,idx_nat,ha,idx_nat,hb,up_nat (by omega)]
     grind
    grind
   | true =>
    have hpl:(l.take i).length=i:=by grind
    generalize hpre:l.take i=pre at hdrop hpl
    generalize hsuf:l.drop (i+2)=suf at hdrop
    subst hdrop
    have hsw:=swap_step hS hn2 hn8 hI hL hcnt hIs h
    have hset:((pre++a::b::suf).set i b).set (i+1) a=pre++b::a::suf:=by
     simp_all
    refine .inl ⟨(false,((i+2:Nat):Int),ser (post (L+1) (swapD n (L+1 - pre.length) (L+1) v) []),pre++b::a::suf),?_,false,_,_,rfl,h.swap hI,(fun hh=>by cases hh),fun _=>?_⟩
    ·unfold b_reduce_Turn_3
     dsimp only
     rw[show ltB ((i+1:Nat):Int) (aO (pre++a::b::suf))=true from decide_eq_true (by unfold aO; omega),cond_true,hi1,idx_nat,ha,idx_nat,hb,up_nat (by omega)]
     simp only[some_bind]
     rw[hc]
     simp only[some_bind]
     rw[hg,hbf,cond_true]
     grind [Int.toNat_natCast,idx_nat]
    ·have hww:wP b < wP a:=by
      have hbm:b∈I:=h.perm.subset (by simp)
      have ham:a∈I:=h.perm.subset (by simp)
      grind [wP,befP_iff']
     have hsum:=wsum_swap pre suf a b
     cases sd with
     | true =>
      grind
     | false =>
      grind)
  (fun st ⟨sd,l,v,e,h,h1,h2⟩=>by
   subst e
   have hlen:=h.perm.length_eq
   refine⟨(sd,ser (post (L+1) v []),l),?_,sd,l,v,rfl,h,h1,h2⟩
   grind [b_reduce_Turn_3,ltB,aO])
 refine⟨sd,l,v,hr,q1,fun hs=>?_,q3⟩
 obtain⟨g1,g2,g3⟩:=q2 hs
 have hlen:=q1.perm.length_eq
 grind
theorem passes_is {nn:List Node} {hh:List Point} (h0:TRI n L I u I u) :
  ∃ l v,aT (b_reduce_Turn_2 (S,nn,hh)) b7 (false,ser (post (L+1) u []),I)=some (ser (post (L+1) v []),l)/\TRI n L I u l v/\∀ (i:Nat) a b,l[i]?=some a->l[i+1]?=some b->befP b a=false:=by
 have hw:∀ p∈I,-1000<=wP p/\wP p<=1000:=fun p hp=>by grind [wP]
 have hwl:∀ l v,TRI n L I u l v->wsum 0 l<=625000/\-625000<=wsum 0 l:=fun l v h=>by
  have hlen:=h.perm.length_eq
  obtain⟨a1,a2⟩:=wsum_le l 0 fun p hp=>hw p (h.perm.subset hp)
  have:(0+l.length)*l.length<=25*25:=Nat.mul_le_mul (by omega) (by omega)
  grind
 obtain⟨r,hr,l,v,rfl,q1,q2⟩:=loop_ms (b:=b_reduce_Turn_2 (S,nn,hh)) (s:=(false,ser (post (L+1) u []),I))
  (fun st=>∃ l v,st.2=(ser (post (L+1) v []),l)/\TRI n L I u l v/\(st.1=true->∀ (i:Nat) a b,l[i]?=some a->l[i+1]?=some b->befP b a=false))
  (fun st=>if st.1=true then 0 else 1+(625000 - wsum 0 st.2.2).toNat)
  (fun r=>∃ l v,r=(ser (post (L+1) v []),l)/\TRI n L I u l v/\∀ (i:Nat) a b,l[i]?=some a->l[i+1]?=some b->befP b a=false)
  (by
   grind)
  ⟨I,u,rfl,h0,fun h=>by cases h⟩
  (fun st ⟨l,v,e,h,h1⟩=>by
   obtain⟨sd,nd,ll⟩:=st
   dsimp only at e h1
   cases e
   cases sd with
   | true =>
    refine .inr ⟨_,?_,l,v,rfl,h,h1 rfl⟩
    rfl
   | false =>
    obtain⟨sd',l',v',e1,e2,e3,e4⟩:=pass_is hS hn2 hn8 hI hL hcnt hIs (nn:=nn) (hh:=hh) h
    refine .inl ⟨(sd',ser (post (L+1) v' []),l'),?_,⟨l',v',rfl,e2,fun hs=>(e3 hs).2.2⟩,?_⟩
    ·unfold b_reduce_Turn_2
     simp_all
    grind)
 grind
end
end Go.Proofs.YtlifofijgddjkabGreatDoor
