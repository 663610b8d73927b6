/- Plain laws: things as functions of lists of states; two positions exchanged. -/
import Derived.Test.YtffohfmfehjbmaaGreatDoorRrx1
namespace Go.Proofs.YtffohfmfehjbmaaGreatDoor
open Go.AM Go.Proofs
def evD:(L:Nat)->DD L->List Nat->Int
 | 0,u,_=>u
 | _+1,_,[]=>0
 | L+1,u,s::l=>evD L (u.kids.getD s (DD.dflt L)) l
def Sts (n L:Nat) (l:List Nat):Prop:=l.length=L/\∀ s∈l,s < n
theorem Sts.cons {n L s:Nat} {l:List Nat} (h:Sts n (L+1) (s::l)):s < n/\Sts n L l:=⟨h.2 s (by simp),by simpa using h.1,fun x hx=>h.2 x (by simp[hx])⟩
theorem Sts.of_cons {n L s:Nat} {l:List Nat} (h1:s < n) (h2:Sts n L l):Sts n (L+1) (s::l):=⟨by simp[h2.1],fun x hx=>by
 rcases List.mem_cons.1 hx with rfl | hx
 ·exact h1
 ·exact h2.2 x hx⟩
theorem reg_kid {n L s:Nat} {u:DD (L+1)} (h:Reg n (L+1) u) (hs:s < n):u.kids[s]?=some (u.kids.getD s (DD.dflt L))/\Reg n L (u.kids.getD s (DD.dflt L)):=by
 have hl:s < u.kids.length:=by rw[h.1]; exact hs
 have e:u.kids[s]?=some (u.kids.getD s (DD.dflt L)):=by rw[List.getD_eq_getElem?_getD,List.getElem?_eq_getElem hl]; rfl
 exact⟨e,h.2 _ (List.mem_of_getElem? e)⟩
theorem evD_ext {n:Nat}:∀ {L:Nat} {u v:DD L},Reg n L u->Reg n L v->(∀ l,Sts n L l->evD L u l=evD L v l)->u=v
 | 0,_,_,_,_,h=>h [] ⟨rfl,fun s hs=>by cases hs⟩
 | L+1,u,v,hu,hv,h=>by
  apply DD.ext
  apply List.ext_getElem?
  intro s
  rcases Nat.lt_or_ge s n with hs | hs
  ·obtain⟨e1,r1⟩:=reg_kid hu hs
   obtain⟨e2,r2⟩:=reg_kid hv hs
   rw[e1,e2,evD_ext r1 r2 fun l hl=>h (s::l) (hl.of_cons hs)]
  ·rw[List.getElem?_eq_none (by rw[hu.1]; exact hs),List.getElem?_eq_none (by rw[hv.1]; exact hs)]
theorem evD_in {n:Nat} (hn:1<=n):∀ {L:Nat} {u:DD L} {l:List Nat},Reg n L u->Sts n L l->0<=evD L u l/\evD L u l < n
 | 0,_,_,h,_=>h
 | L+1,u,[],_,hl=>by have:=hl.1; simp at this
 | L+1,u,s::l,h,hl=>evD_in (L:=L) (u:=u.kids.getD s (DD.dflt L)) (l:=l) hn (reg_kid h hl.cons.1).2 hl.cons.2
def swp:Nat->List Nat->List Nat
 | 0,a::b::l=>b::a::l
 | i+1,a::l=>a::swp i l
 | _,l=>l
theorem swp_len:∀ (i:Nat) (l:List Nat),(swp i l).length=l.length
 | 0,[]=>rfl
 | 0,[_]=>rfl
 | 0,_::_::_=>rfl
 | _+1,[]=>rfl
 | i+1,a::l=>by show (a::swp i l).length=_; rw[List.length_cons,swp_len i l,List.length_cons]
theorem swp_mem:∀ (i:Nat) (l:List Nat) (x:Nat),x∈swp i l->x∈l
 | 0,[],_,h=>h
 | 0,[_],_,h=>h
 | 0,a::b::l,x,h=>by
  rcases List.mem_cons.1 h with h | h
  ·simp[h]
  ·rcases List.mem_cons.1 h with h | h
   ·simp[h]
   ·simp[h]
 | _+1,[],_,h=>h
 | i+1,a::l,x,h=>by
  rcases List.mem_cons.1 h with h | h
  ·simp[h]
  ·exact List.mem_cons_of_mem _ (swp_mem i l x h)
theorem Sts.swp {n L i:Nat} {l:List Nat} (h:Sts n L l):Sts n L (swp i l):=⟨by rw[swp_len,h.1],fun x hx=>h.2 x (swp_mem i l x hx)⟩
def trD (n L:Nat) (u:DD (L+2)):DD (L+2):=DD.of ((List.range n).map fun s=>(DD.of (u.kids.map fun d=>d.kids.getD s (DD.dflt L)):DD (L+1)))
def swapD (n M:Nat):(L:Nat)->DD L->DD L
 | 0,u=>u
 | 1,u=>u
 | L+2,u=>if L+2=M then trD n L u else DD.of (u.kids.map (swapD n M (L+1)))
theorem trD_kid {n L s:Nat} {u:DD (L+2)} (hs:s < n):(trD n L u).kids.getD s (DD.dflt (L+1))=DD.of (u.kids.map fun d=>d.kids.getD s (DD.dflt L)):=by
 unfold trD
 rw[DD.kids_of,List.getD_eq_getElem?_getD,List.getElem?_map,List.getElem?_range hs]
 rfl
theorem trD_reg {n L:Nat} {u:DD (L+2)} (h:Reg n (L+2) u):Reg n (L+2) (trD n L u):=by
 refine⟨by unfold trD; rw[DD.kids_of]; simp,fun d hd=>?_⟩
 unfold trD at hd
 rw[DD.kids_of] at hd
 obtain⟨s,hs,rfl⟩:=List.mem_map.1 hd
 have hs':=List.mem_range.1 hs
 refine⟨by rw[DD.kids_of,List.length_map]; exact h.1,fun e he=>?_⟩
 rw[DD.kids_of] at he
 obtain⟨c,hc,rfl⟩:=List.mem_map.1 he
 exact (reg_kid (h.2 c hc) hs').2
theorem swapD_reg {n M:Nat}:∀ {L:Nat} {u:DD L},Reg n L u->Reg n L (swapD n M L u)
 | 0,_,h=>h
 | 1,_,h=>h
 | L+2,u,h=>by
  unfold swapD
  split
  ·exact trD_reg h
  ·refine⟨by rw[DD.kids_of,List.length_map]; exact h.1,fun d hd=>?_⟩
   rw[DD.kids_of] at hd
   obtain⟨c,hc,rfl⟩:=List.mem_map.1 hd
   exact swapD_reg (h.2 c hc)
theorem map_getD {α β:Type} (f:α->β) (l:List α) {s:Nat} (hs:s < l.length) (d:α) (e:β):(l.map f).getD s e=f (l.getD s d):=by
 rw[List.getD_eq_getElem?_getD,List.getElem?_map,List.getD_eq_getElem?_getD,List.getElem?_eq_getElem hs]
 rfl
theorem ev_swap {n M:Nat} (hM:2<=M):∀ {L:Nat} {u:DD L} {l:List Nat},Reg n L u->M<=L->Sts n L l->evD L (swapD n M L u) l=evD L u (swp (L - M) l)
 | 0,_,_,_,h,_=>by omega
 | 1,_,_,_,h,_=>by omega
 | L+2,u,[],_,_,hl=>by have:=hl.1; simp at this
 | L+2,u,[a],_,_,hl=>by have:=hl.1; simp at this
 | L+2,u,a::b::l,hr,hML,hl=>by
  have ha:=hl.cons.1
  have hb:=hl.cons.2.cons.1
  unfold swapD
  by_cases he:L+2=M
  ·rw[if_pos he,show L+2 - M=0 by omega]
   show evD L (((trD n L u).kids.getD a (DD.dflt (L+1))).kids.getD b (DD.dflt L)) l=evD L ((u.kids.getD b (DD.dflt (L+1))).kids.getD a (DD.dflt L)) l
   rw[trD_kid ha,DD.kids_of,map_getD _ u.kids (by rw[hr.1]; exact hb) (DD.dflt (L+1))]
  ·rw[if_neg he,show L+2 - M=(L+1 - M)+1 by omega]
   show evD (L+1) ((DD.of (u.kids.map (swapD n M (L+1)))).kids.getD a (DD.dflt (L+1))) (b::l)=evD (L+1) (u.kids.getD a (DD.dflt (L+1))) (swp (L+1 - M) (b::l))
   rw[DD.kids_of,map_getD _ u.kids (by rw[hr.1]; exact ha) (DD.dflt (L+1))]
   exact ev_swap hM (reg_kid hr ha).2 (by omega) hl.cons.2
end Go.Proofs.YtffohfmfehjbmaaGreatDoor
namespace Go.Proofs.YtffohfmfehjbmaaGreatDoor
open Go.AM Go.Proofs
structure BI (n:Nat) (mp:List (List UInt8×Int)) (l:List Node):Prop where
 kn:Kn digI mp l
 gd:Good n l
theorem BI.nil (n:Nat):BI n [] []:=⟨Kn.nil digI,⟨fun i x h=>by simp at h,fun i x h=>by simp at h,fun i x h=>by simp at h,fun i x h=>by simp at h⟩⟩
theorem node_add {n L:Nat} {mp:List (List UInt8×Int)} {l:List Node} {next:List Int} {u:DD (L+1)} (h:BI n mp l) (hll:l.length<=1099511627) (hn6:n<=1000000) (hL:L < 1000000) (hu:Reg n (L+1) u) (hnl:next.length=n)
  (hk:∀ (s:Nat) k' d,next[s]?=some k'->u.kids[s]?=some d->Rep l L k' d) :
  ∃ mp' l' i,m_reduce_builder_node_o l mp ((L:Int)+1) next=some (((i:Nat):Int),mp',l')/\BI n mp' l'/\(∃ ws,l'=l++ws)/\l'.length<=l.length+1/\Rep l' (L+1) (i:Nat) u:=by
 have hkl:u.kids.length=n:=hu.1
 have hnm:∀ k∈next,Nm k/\((L:Int)+1=1->0<=k/\k < n)/\(1 < (L:Int)+1->0<=k/\∃ y,idx l k=some y/\y.Level=(L:Int)+1 - 1):=fun k' hk'=>by
  obtain⟨s,hs⟩:=List.mem_iff_getElem?.1 hk'
  have hlt:=(List.getElem?_eq_some_iff.1 hs).1
  have hr:=hk s k' (u.kids[s]'(by omega)) hs (List.getElem?_eq_getElem _)
  have hreg:=hu.2 (u.kids[s]'(by omega)) (List.getElem_mem _)
  cases L with
  | zero =>
   have e:k'=(u.kids[s]'(by omega):DD 0):=hr
   have hb:0<=k'/\k' < n:=by rw[e]; exact hreg
   exact⟨⟨hb.1,by omega⟩,fun _=>hb,fun h1=>by omega⟩
  | succ L =>
   obtain⟨a,b,y,hy,hyl⟩:=hr.rng
   exact⟨⟨a,by omega⟩,fun h1=>by omega,fun _=>⟨a,y,hy,by omega⟩⟩
 obtain⟨mp',hm,hK⟩:=node_is numI h.kn (level:=(L:Int)+1) (next:=next) ⟨by omega,by omega⟩ (fun k hk=>(hnm k hk).1) (by omega) (by omega)
 have hgd:=h.gd.add (x:=⟨(L:Int)+1,next⟩) (by show 1<=(L:Int)+1; omega) hnl (fun h1 k hk=>(hnm k hk).2.2 h1) (fun h1 k hk=>(hnm k hk).2.1 h1)
 exact⟨mp',_,_,hm,⟨hK,hgd⟩,addN_pre l _,addN_len l _,addN_rep rfl (by show next.length=_; omega) hk⟩
end Go.Proofs.YtffohfmfehjbmaaGreatDoor
namespace Go.Proofs.YtffohfmfehjbmaaGreatDoor
open Go.AM Go.Proofs
theorem swapD_off {n M L:Nat} {u:DD (L+1)} (h:L+1≠M):swapD n M (L+1) u=DD.of (u.kids.map (swapD n M L)):=by
 cases L with
 | zero =>
  show u=DD.of (u.kids.map (swapD n M 0))
  have:u.kids.map (swapD n M 0)=u.kids:=by
   rw[show (swapD n M 0)=id from rfl]
   exact List.map_id _
  rw[this,DD.of_kids]
 | succ L =>
  unfold swapD
  rw[if_neg h]
theorem swapD_at {n L:Nat} {u:DD (L+2)}:swapD n (L+2) (L+2) u=trD n L u:=by
 unfold swapD
 rw[if_pos rfl]
theorem swapD_low {n M:Nat}:∀ {L:Nat} {u:DD L},L < M->swapD n M L u=u
 | 0,_,_=>rfl
 | L+1,u,h=>by
  rw[swapD_off (by omega)]
  apply DD.ext
  rw[DD.kids_of]
  have:u.kids.map (swapD n M L)=u.kids.map id:=List.map_congr_left fun d _=>swapD_low (by omega)
  rw[this,List.map_id]
theorem mk_some {α:Type} {z:α} {S:Int} (b:Int) (h0:0<=S) (h1:S*b<=140737488355328):mkL b S S z=some (List.replicate S.toNat z):=by
 unfold mkL
 rw[if_pos ⟨h0,Int.le_refl _,h1⟩]
structure SI (n M:Nat) (ns:List Node) (k:Nat) (mp:List (List UInt8×Int)) (to_:List Int) (l:List Node):Prop where
 bi:BI n mp l
 tl:to_.length=ns.length
 ll:l.length<=k*9
 mp:∀ K (j:Nat) (u:DD (K+1)),j < k->Rep ns (K+1) j u->K+2≠M->∃ v,to_[j]?=some v/\Rep l (K+1) v (swapD n M (K+1) u)
theorem Rep.app' {l l':List Node} (h:∃ ws,l'=l++ws) {L:Nat} {k:Int} {u:DD L} (hr:Rep l L k u):Rep l' L k u:=by
 obtain⟨ws,rfl⟩:=h
 exact hr.app
theorem set_get_same {α:Type} {l:List α} {i:Nat} {v:α} (h:i < l.length):(l.set i v)[i]?=some v:=by rw[List.getElem?_set_self h]
section
variable {n M:Nat} {S:Int} {Hd:List Point} {ns:List Node} {i:Int} (hS:S=(n:Int)) (hG:Good n ns) (hns:ns.length<=100000000) (hn2:2<=n) (hn8:n<=8) (hM:2<=M) (hi:aL .i64 (aB Hd) i=(M:Int)) (hM5:M<=1000)
include hS hG hns hn2 hn8 hM hi hM5
theorem inner_swap {K k:Nat} {mp:List (List UInt8×Int)} {to_:List Int} {l l3:List Node} {x:Node} {u:DD (K+2)} {s:Nat} {mp1:List (List UInt8×Int)} {next:List Int} {a:Int} (h:SI n M ns k mp to_ l) (hx:ns[k]?=some x) (hK:K+2=M) (hr:Rep ns (K+2) k u) (hs:s < n) :
  ∃ inner,aK (b_reduce_swapped_o_w_3 S Hd ns i a to_ x (s:Int) mp1 next l3) aN (0,List.replicate S.toNat 0)=some inner/\inner.length=n /\
   ∀ (r:Nat) k' d,inner[r]?=some k'->(DD.of (u.kids.map fun d=>d.kids.getD s (DD.dflt K)):DD (K+1)).kids[r]?=some d->Rep l K k' d:=by
 have _hns:=hns
 have hkl:=(List.getElem?_eq_some_iff.1 hx).1
 have hxl:=hG.len k x hx
 obtain⟨x0,e0,hlev,hl0,hk0⟩:=id hr
 rw[idx_nat,hx] at e0
 obtain rfl:=Option.some.inj e0
 have hreg:Reg n (K+2) u:=hr.reg hG
 obtain⟨r,hr',hq⟩:=loop_iv (b:=b_reduce_swapped_o_w_3 S Hd ns i a to_ x (s:Int) mp1 next l3) (n:=n) (s:=(0,List.replicate S.toNat 0)) (fun j st=>∃ inner:List Int,st=((j:Int),inner)/\inner.length=n/\∀ (r:Nat) k' d,r < j->inner[r]?=some k'->u.kids[r]?=some d->Rep l K k' (d.kids.getD s (DD.dflt K)))
  (fun inner=>inner.length=n/\∀ (r:Nat) k' d,r < n->inner[r]?=some k'->u.kids[r]?=some d->Rep l K k' (d.kids.getD s (DD.dflt K))) (by omega) ⟨_,rfl,by rw[hS]; simp,fun r k' d hr=>by omega⟩
  (fun j st hj ⟨inner,e,e1,e2⟩=>by
   subst e
   have hc:x.Next[j]?=some (x.Next[j]'(by omega)):=List.getElem?_eq_getElem _
   generalize x.Next[j]'(by omega)=c at hc
   obtain⟨ed,rd⟩:=reg_kid hreg hj
   have hrc:=hk0 j c _ hc ed
   obtain⟨y,hy,hyl,hyn,hyk⟩:=id hrc
   obtain⟨c0,c1,c2⟩:=idx_lt hy
   obtain⟨ee,re⟩:=reg_kid rd hs
   have hyln:=hG.len c.toNat y c2
   have hd4:y.Next[s]?=some (y.Next[s]'(by omega)):=List.getElem?_eq_getElem _
   generalize y.Next[s]'(by omega)=c4 at hd4
   have hr4:=hyk s c4 _ hd4 ee
   have hin:inner[j]?=some (inner[j]'(by omega)):=List.getElem?_eq_getElem _
   have hv:∃ v,(bif gtB (M:Int) 2 then
      (idx (inner.set j c4) (j:Int)).bind fun x6=>(idx to_ x6).bind fun x7=>some ((inner.set j c4).set j x7)
     else some (inner.set j c4))=some (inner.set j v)/\Rep l K v ((u.kids.getD j (DD.dflt (K+1))).kids.getD s (DD.dflt K)):=by
    by_cases hM2:M=2
    ·rw[show gtB (M:Int) 2=false from decide_eq_false (by omega),cond_false]
     have:K=0:=by omega
     subst this
     exact⟨c4,rfl,hr4⟩
    ·rw[show gtB (M:Int) 2=true from decide_eq_true (by omega),cond_true]
     obtain⟨K',rfl⟩:∃ K',K=K'+1:=⟨K - 1,by omega⟩
     obtain⟨y4,hy4,_⟩:=id hr4
     obtain⟨d0,d1,d2⟩:=idx_lt hy4
     have hlow:c4 < c:=by
      have:=hG.kid c.toNat y c2 (by rw[hyl]; omega) c4 (List.mem_of_getElem? hd4)
      omega
     have hlow2:c < k:=by
      have:=hG.kid k x hx (by omega) c (List.mem_of_getElem? hc)
      omega
     have hr4':=hr4
     rw[show c4=((c4.toNat:Nat):Int) by omega] at hr4'
     obtain⟨v,hv1,hv2⟩:=h.mp K' c4.toNat _ (by omega) hr4' (by omega)
     rw[swapD_low (by omega)] at hv2
     refine⟨v,?_,hv2⟩
     rw[idx_nat,set_get_same (by omega)]
     simp only[some_bind]
     rw[idx_int _ d0,hv1]
     simp only[some_bind]
     rw[List.set_set]
   obtain⟨v,hv1,hv2⟩:=hv
   refine .inl ⟨(((j+1:Nat):Int),inner.set j v),?_,inner.set j v,rfl,by rw[List.length_set,e1],fun r k' d hr hk' hd=>?_⟩
   ·unfold b_reduce_swapped_o_w_3
    dsimp only
    rw[show ltB (j:Int) (aB x.Next)=true from decide_eq_true (by unfold aB; omega),cond_true,idx_nat,hc,up_nat (by omega)]
    simp only[some_bind]
    rw[hy]
    simp only[some_bind]
    rw[idx_nat,hd4,idx_nat,hin]
    simp only[some_bind]
    rw[hi,Int.toNat_natCast,hv1]
    rfl
   ·by_cases he:r=j
    ·subst he
     rw[set_get_same (by omega)] at hk'
     cases hk'
     rw[ed] at hd
     cases hd
     exact hv2
    ·rw[List.getElem?_set_ne (by omega)] at hk'
     exact e2 r k' d (by omega) hk' hd)
  (fun st ⟨inner,e,e1,e2⟩=>by
   subst e
   refine⟨inner,?_,e1,e2⟩
   unfold b_reduce_swapped_o_w_3
   dsimp only
   rw[show ltB (n:Int) (aB x.Next)=false from decide_eq_false (by unfold aB; omega)]
   rfl)
 refine⟨r,hr',hq.1,fun j k' d hk' hd=>?_⟩
 rw[DD.kids_of,List.getElem?_map] at hd
 obtain⟨c,hc,rfl⟩:=Option.map_eq_some_iff.1 hd
 have hj:j < n:=by have:=(List.getElem?_eq_some_iff.1 hk').1; omega
 exact hq.2 j k' c hj hk' hc
theorem next_swap {K k:Nat} {mp:List (List UInt8×Int)} {to_:List Int} {l:List Node} {x:Node} {u:DD (K+1)} {a:Int} (h:SI n M ns k mp to_ l) (hx:ns[k]?=some x) (hr:Rep ns (K+1) k u) (hK:K+2≠M) :
  ∃ mp1 next l3,aK (b_reduce_swapped_o_w_2 S Hd ns i a to_ x) aN (0,mp,List.replicate S.toNat 0,l)=some (mp1,next,l3)/\BI n mp1 l3/\(∃ ws,l3=l++ws)/\l3.length<=l.length+n/\next.length=n /\
   ∀ (s:Nat) k' d,next[s]?=some k'->(swapD n M (K+1) u).kids[s]?=some d->Rep l3 K k' d:=by
 have hkl:=(List.getElem?_eq_some_iff.1 hx).1
 have hxl:=hG.len k x hx
 have hll:=h.ll
 have hreg:Reg n (K+1) u:=hr.reg hG
 obtain⟨x0,e0,hlev,hl0,hk0⟩:=id hr
 rw[idx_nat,hx] at e0
 obtain rfl:=Option.some.inj e0
 have hkM:k*9<=100000000*9:=Nat.mul_le_mul_right _ (by omega)
 obtain⟨r,hr',mp1,next,l3,rfl,q1,q2,q3,q4,q5⟩:=loop_iv (b:=b_reduce_swapped_o_w_2 S Hd ns i a to_ x) (n:=n) (s:=(0,mp,List.replicate S.toNat 0,l))
  (fun j st=>∃ mp1 next l3,st=((j:Int),mp1,next,l3)/\BI n mp1 l3/\(∃ ws,l3=l++ws)/\l3.length<=l.length+j/\next.length=n/\∀ (s:Nat) k' d,s < j->next[s]?=some k'->(swapD n M (K+1) u).kids[s]?=some d->Rep l3 K k' d)
  (fun r=>∃ mp1 next l3,r=(mp1,next,l3)/\BI n mp1 l3/\(∃ ws,l3=l++ws)/\l3.length<=l.length+n/\next.length=n/\∀ (s:Nat) k' d,s < n->next[s]?=some k'->(swapD n M (K+1) u).kids[s]?=some d->Rep l3 K k' d) (by omega)
  ⟨mp,_,l,rfl,h.bi,⟨[],by simp⟩,Nat.le_refl _,by rw[hS]; simp,fun s k' d hs=>by omega⟩
  (fun j st hj ⟨mp1,next,l3,e,b1,b2,b3,b4,b5⟩=>by
   subst e
   have hc:x.Next[j]?=some (x.Next[j]'(by omega)):=List.getElem?_eq_getElem _
   generalize x.Next[j]'(by omega)=c at hc
   have hnx:next[j]?=some (next[j]'(by omega)):=List.getElem?_eq_getElem _
   have hdrg:Reg n (K+1) (swapD n M (K+1) u):=swapD_reg hreg
   obtain⟨ed,rd⟩:=reg_kid hdrg hj
   by_cases hKM:K+1=M
   ·-- the upper level
    obtain⟨K',rfl⟩:∃ K',K=K'+1:=⟨K - 1,by omega⟩
    obtain⟨inner,hin,il,ik⟩:=inner_swap hS hG hns hn2 hn8 hM hi hM5 (l3:=l3) (mp1:=mp1) (next:=next) (a:=a) h hx hKM hr hj
    have hcol:(swapD n M (K'+2) u).kids.getD j (DD.dflt (K'+1))=DD.of (u.kids.map fun d=>d.kids.getD j (DD.dflt K')):=by
     subst hKM
     rw[swapD_at]
     exact trD_kid hj
    rw[hcol] at ed rd
    obtain⟨mp2,l4,idx4,hadd,c1,c2,c3,c4⟩:=node_add (next:=inner) b1 (by omega) (by omega) (by omega) rd il (fun s k' d e1 e2=>(ik s k' d e1 e2).app' b2)
    refine .inl ⟨(((j+1:Nat):Int),mp2,next.set j ((idx4:Nat):Int),l4),?_,mp2,next.set j ((idx4:Nat):Int),l4,rfl,c1,?_,by omega,by rw[List.length_set,b4],fun s k' d hs hk' hd=>?_⟩
    ·unfold b_reduce_swapped_o_w_2
     dsimp only
     rw[show ltB (j:Int) (aB x.Next)=true from decide_eq_true (by unfold aB; omega),cond_true,idx_nat,hc,up_nat (by omega)]
     simp only[some_bind]
     rw[hi,show eqB x.Level (M:Int)=true from by simp only[eqB,beq_iff_eq]; omega,cond_true,mk_some 8 (by omega) (by omega)]
     simp only[some_bind]
     rw[hin]
     simp only[some_bind]
     rw[show aL .i64 (M:Int) 1=((K':Nat):Int)+1 from by rw[isub_in (by omega)]; omega,node2_eq,hadd]
     simp only[some_bind]
     rw[idx_nat,hnx]
     rfl
    ·obtain⟨w1,e1⟩:=b2
     obtain⟨w2,e2⟩:=c2
     exact⟨w1++w2,by rw[e2,e1,List.append_assoc]⟩
    ·by_cases he:s=j
     ·subst he
      rw[set_get_same (by omega)] at hk'
      cases hk'
      rw[ed] at hd
      cases hd
      exact c4
     ·rw[List.getElem?_set_ne (by omega)] at hk'
      exact (b5 s k' d (by omega) hk' hd).app' c2
   ·-- the other levels
    have hoff:=swapD_off (n:=n) (u:=u) hKM
    obtain⟨eu,ru⟩:=reg_kid hreg hj
    have hkid:(swapD n M (K+1) u).kids.getD j (DD.dflt K)=swapD n M K (u.kids.getD j (DD.dflt K)):=by
     rw[hoff,DD.kids_of,map_getD _ u.kids (by rw[hreg.1]; exact hj) (DD.dflt K)]
    rw[hkid] at ed
    have hrc:=hk0 j c _ hc eu
    have hv:∃ v,(bif gtB x.Level 1 then
       (idx to_ c).bind fun x2=>(idx next (j:Int)).bind fun _=>some (Lp.next (((j+1:Nat):Int),mp1,next.set j x2,l3))
      else (idx next (j:Int)).bind fun _=>some (Lp.next (((j+1:Nat):Int),mp1,next.set j c,l3)))=(some (Lp.next (((j+1:Nat):Int),mp1,next.set j v,l3)):Option (Lp (Int×(List (List UInt8×Int))×(List Int)×(List Node)) (((List (List UInt8×Int))×(List Int)×(List Node)))))/\Rep l3 K v (swapD n M K (u.kids.getD j (DD.dflt K))):=by
     rw[idx_nat,hnx]
     cases K with
     | zero =>
      rw[show gtB x.Level 1=false from decide_eq_false (by omega),cond_false]
      exact⟨c,rfl,hrc⟩
     | succ K =>
      rw[show gtB x.Level 1=true from decide_eq_true (by omega),cond_true]
      have hlow:=hG.kid k x hx (by omega) c (List.mem_of_getElem? hc)
      rw[show c=((c.toNat:Nat):Int) by omega] at hrc
      obtain⟨v,hv1,hv2⟩:=h.mp K c.toNat _ (by omega) hrc (by omega)
      rw[idx_int _ hlow.1,hv1]
      exact⟨v,rfl,hv2.app' b2⟩
    obtain⟨v,hv1,hv2⟩:=hv
    refine .inl ⟨(((j+1:Nat):Int),mp1,next.set j v,l3),?_,mp1,next.set j v,l3,rfl,b1,b2,by omega,by rw[List.length_set,b4],fun s k' d hs hk' hd=>?_⟩
    ·unfold b_reduce_swapped_o_w_2
     dsimp only
     rw[show ltB (j:Int) (aB x.Next)=true from decide_eq_true (by unfold aB; omega),cond_true,idx_nat,hc,up_nat (by omega)]
     simp only[some_bind]
     rw[hi,show eqB x.Level (M:Int)=false from by simp only[eqB,beq_eq_false_iff_ne]; omega,cond_false,Int.toNat_natCast]
     exact hv1
    ·by_cases he:s=j
     ·subst he
      rw[set_get_same (by omega)] at hk'
      cases hk'
      rw[ed] at hd
      cases hd
      exact hv2
     ·rw[List.getElem?_set_ne (by omega)] at hk'
      exact b5 s k' d (by omega) hk' hd)
  (fun st ⟨mp1,next,l3,e,b1,b2,b3,b4,b5⟩=>by
   subst e
   refine⟨(mp1,next,l3),?_,mp1,next,l3,rfl,b1,b2,b3,b4,b5⟩
   unfold b_reduce_swapped_o_w_2
   dsimp only
   rw[show ltB (n:Int) (aB x.Next)=false from decide_eq_false (by unfold aB; omega)]
   rfl)
 exact⟨mp1,next,l3,hr',q1,q2,q3,q4,fun s k' d hk' hd=>q5 s k' d (by have:=(List.getElem?_eq_some_iff.1 hk').1; omega) hk' hd⟩
theorem nodes_swap (hM1:∀ x∈ns,x.Level<=1000):∃ mp to_ l,aK (b_reduce_swapped_o_w_1 S Hd ns i) aN (0,[],List.replicate ns.length 0,[])=some (mp,to_,l)/\SI n M ns ns.length mp to_ l:=by
 have hM1i:aL .i64 (aL .i64 (aB Hd) i) 1=((M - 1:Nat):Int):=by rw[hi,isub_in (by omega)]; omega
 obtain⟨r,hr,mp,to_,l,rfl,h⟩:=loop_iv (b:=b_reduce_swapped_o_w_1 S Hd ns i) (n:=ns.length) (s:=(0,[],List.replicate ns.length 0,[])) (fun k st=>∃ mp to_ l,st=((k:Int),mp,to_,l)/\SI n M ns k mp to_ l) (fun r=>∃ mp to_ l,r=(mp,to_,l)/\SI n M ns ns.length mp to_ l) (by omega)
  ⟨[],_,[],rfl,BI.nil n,by simp,by simp,fun K j u hj=>by omega⟩
  (fun k st hk ⟨mp,to_,l,e,h⟩=>by
   subst e
   have hx:ns[k]?=some ns[k]:=List.getElem?_eq_getElem hk
   generalize ns[k]=x at hx
   have hlev:=hG.lev k x hx
   have hlx:=hM1 x (List.mem_of_getElem? hx)
   obtain⟨K,hK⟩:∃ K:Nat,x.Level=(K:Int)+1:=⟨(x.Level - 1).toNat,by omega⟩
   obtain⟨u,hu,hreg⟩:=hG.rep K k x hx hK
   by_cases hs:K+2=M
   ·refine .inl ⟨(((k+1:Nat):Int),mp,to_,l),?_,mp,to_,l,rfl,h.bi,h.tl,by have:=h.ll; omega,fun K' j u' hj hr' hM'=>?_⟩
    ·unfold b_reduce_swapped_o_w_1
     dsimp only
     rw[ltB_nat,decide_eq_true hk,cond_true,idx_nat,hx,up_nat (by omega)]
     simp only[some_bind]
     rw[hM1i,show eqB x.Level ((M - 1:Nat):Int)=true from by simp only[eqB,beq_iff_eq]; omega,cond_true]
    ·by_cases hjk:j=k
     ·subst hjk
      have e:=hu.lev hr'
      cases e
      exact absurd hs hM'
     ·exact h.mp K' j u' (by omega) hr' hM'
   ·obtain⟨mp1,next,l3,h1,h2,h3,h4,h5,h6⟩:=next_swap hS hG hns hn2 hn8 hM hi hM5 (a:=(k:Int)) h hx hu hs
    have hll:=h.ll
    have hkM:k*9<=100000000*9:=Nat.mul_le_mul_right _ (by omega)
    obtain⟨mp2,l4,ix,hadd,c1,c2,c3,c4⟩:=node_add (next:=next) h2 (by omega) (by omega) (by omega) (swapD_reg hreg) h5 h6
    have hpre:∃ ws,l4=l++ws:=by
     obtain⟨w1,e1⟩:=h3
     obtain⟨w2,e2⟩:=c2
     exact⟨w1++w2,by rw[e2,e1,List.append_assoc]⟩
    have htl:=h.tl
    have hto:to_[k]?=some (to_[k]'(by omega)):=List.getElem?_eq_getElem _
    refine .inl ⟨(((k+1:Nat):Int),mp2,to_.set k ((ix:Nat):Int),l4),?_,mp2,to_.set k ((ix:Nat):Int),l4,rfl,c1,by rw[List.length_set,htl],by omega,fun K' j u' hj hr' hM'=>?_⟩
    ·unfold b_reduce_swapped_o_w_1
     dsimp only
     rw[ltB_nat,decide_eq_true hk,cond_true,idx_nat,hx,up_nat (by omega)]
     simp only[some_bind]
     rw[hM1i,show eqB x.Level ((M - 1:Nat):Int)=false from by simp only[eqB,beq_eq_false_iff_ne]; omega,cond_false,mk_some 8 (by omega) (by omega)]
     simp only[some_bind]
     rw[h1]
     simp only[some_bind]
     rw[node2_eq,hK,hadd]
     simp only[some_bind]
     rw[idx_nat,hto]
     rfl
    ·by_cases hjk:j=k
     ·subst hjk
      have e:=hu.lev hr'
      cases e
      exact⟨_,set_get_same (by omega),c4⟩
     ·obtain⟨v,e1,e2⟩:=h.mp K' j u' (by omega) hr' hM'
      exact⟨v,by rw[List.getElem?_set_ne (by omega)]; exact e1,e2.app' hpre⟩)
  (fun st ⟨mp,to_,l,e,h⟩=>by
   subst e
   refine⟨(mp,to_,l),?_,mp,to_,l,rfl,h⟩
   unfold b_reduce_swapped_o_w_1
   dsimp only
   rw[ltB_nat,decide_eq_false (Nat.lt_irrefl _)]
   rfl)
 exact⟨mp,to_,l,hr,h⟩
theorem swapped_is (hM1:∀ x∈ns,x.Level<=1000) {L j:Nat} {u:DD (L+1)} (hj:j+1=ns.length) (hr:Rep ns (L+1) (j:Nat) u) (hL:L < 1000) (hML:M<=L+1):m_reduce_swapped_o_w S Hd ns i=some (ser (post (L+1) (swapD n M (L+1) u) [])):=by
 obtain⟨mp,to_,l,h1,h⟩:=nodes_swap hS hG hns hn2 hn8 hM hi hM5 hM1
 have htl:=h.tl
 have hll:=h.ll
 have hreg:=hr.reg hG
 obtain⟨v,e1,e2⟩:=h.mp L j u (by omega) hr (by omega)
 have hlk:ns.length*9<=100000000*9:=Nat.mul_le_mul_right _ (by omega)
 unfold m_reduce_swapped_o_w
 rw[mk_some 8 (by unfold aB; omega) (by unfold aB; omega)]
 simp only[some_bind]
 rw[lenL_toNat,h1]
 simp only[some_bind]
 rw[show aL .i64 (aB to_) 1=((j:Nat):Int) from by unfold aB; rw[isub_in (by omega)]; omega,idx_nat,e1]
 simp only[some_bind]
 rw[ordered_is h.bi.gd h.bi.kn.nd (by omega) (by omega) (L:=L) (by omega) e2]
 rfl
end
end Go.Proofs.YtffohfmfehjbmaaGreatDoor
