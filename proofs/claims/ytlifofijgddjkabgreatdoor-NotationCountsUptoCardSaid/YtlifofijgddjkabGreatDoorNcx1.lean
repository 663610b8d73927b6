/- Plain laws: the tree of a rule by counts: what its builder makes. -/
import Derived.Test.YtlifofijgddjkabGreatDoorSwx3
namespace Go.Proofs.YtlifofijgddjkabGreatDoor
open Go.AM Go.Proofs
def nxO (c at_ s o:Nat):Nat:=if at_=c then o else if s=1 then o+1 else o
def nxC (c at_ s e:Nat):Nat:=if at_=c then s else e
def cD (n c:Nat) (E:Nat->Nat->Int):(m:Nat)->Nat->Nat->Nat->DD m
 | 0,_,o,e=>(show DD 0 from E o e)
 | m+1,at_,o,e=>DD.of ((List.range n).map fun s=>cD n c E m (at_+1) (nxO c at_ s o) (nxC c at_ s e))
theorem nxO_le {c at_ s o:Nat} (h:o<=at_):nxO c at_ s o<=at_+1:=by
 unfold nxO
 split
 ·omega
 ·split<;>omega
theorem nxC_lt {n c at_ s e:Nat} (hs:s < n) (he:e < n):nxC c at_ s e < n:=by
 unfold nxC
 split<;>omega
section
variable {n c:Nat} {E:Nat->Nat->Int}
theorem cD_kids {m at_ o e:Nat}:(cD n c E (m+1) at_ o e).kids=(List.range n).map fun s=>cD n c E m (at_+1) (nxO c at_ s o) (nxC c at_ s e):=rfl
theorem cD_kid {m at_ o e s:Nat} (hs:s < n):(cD n c E (m+1) at_ o e).kids[s]?=some (cD n c E m (at_+1) (nxO c at_ s o) (nxC c at_ s e)):=by
 rw[cD_kids,List.getElem?_map,List.getElem?_range hs]
 rfl
theorem cD_reg (hE:∀ o e,e < n->0<=E o e/\E o e < n):∀ (m at_ o e:Nat),e < n->Reg n m (cD n c E m at_ o e)
 | 0,_,o,e,he=>hE o e he
 | m+1,at_,o,e,he=>⟨by rw[cD_kids,List.length_map,List.length_range],fun d hd=>by
  rw[cD_kids] at hd
  obtain⟨s,hs,rfl⟩:=List.mem_map.1 hd
  exact cD_reg hE m _ _ _ (nxC_lt (List.mem_range.1 hs) he)⟩
end
theorem step_is {c at_ s o e:Nat} (ho:o<=1000):m_totaltree_Totals_1_o ⟨(o:Int),(e:Int)⟩ (at_:Int) (s:Int) (c:Int)=some (((nxO c at_ s o:Nat):Int),((nxC c at_ s e:Nat):Int)):=by
 unfold m_totaltree_Totals_1_o nxO nxC
 by_cases h1:at_=c
 ·rw[show eqB (at_:Int) (c:Int)=true from by simp[eqB,h1],if_pos h1,if_pos h1]
  rfl
 ·rw[show eqB (at_:Int) (c:Int)=false from by simp[eqB]; omega,if_neg h1,if_neg h1]
  by_cases h2:s=1
  ·rw[show eqB (s:Int) 1=true from by simp[eqB,h2],if_pos h2]
   simp only[cond_false,cond_true,some_bind]
   rw[iadd_in (by omega)]
   rfl
  ·rw[show eqB (s:Int) 1=false from by simp[eqB]; omega,if_neg h2]
   rfl
def keyC (level:Int) (next:List Int):List Int:=level::next.flatMap fun x=>32::digI x
structure Kc (mp:List (List UInt8×Int)) (nodes:List Node):Prop where
 get:∀ level next,1<=level->level < 256->(∀ x∈next,Nm x)->dJ mp (ofBytes (keyC level next))=if (⟨level,next⟩:Node)∈nodes then some ((nodes.idxOf (⟨level,next⟩:Node):Nat):Int) else none
 nd:nodes.Nodup
theorem keyC_dig {a:Int} {l:List Int} (h1:1<=a) (h2:a < 256) (hl:∀ x∈l,Nm x):∀ b∈keyC a l,0<=b/\b < 256:=by
 intro b hb
 rcases List.mem_cons.1 hb with rfl | hb
 ·omega
 ·obtain⟨x,hx,hb⟩:=List.mem_flatMap.1 hb
  rcases List.mem_cons.1 hb with rfl | hb
  ·omega
  ·have:=numI.dig x (hl x hx).1 (hl x hx).2 b hb
   omega
theorem keyC_len {a:Int}:∀ {l:List Int},(∀ x∈l,Nm x)->(keyC a l).length<=1+21*l.length
 | [],_=>by simp[keyC]
 | x::l,h=>by
  have h1:=keyC_len (a:=a) (l:=l) fun z hz=>h z (by simp[hz])
  have h2:=numI.len x (h x (by simp)).1 (h x (by simp)).2
  unfold keyC at *
  simp only[List.flatMap_cons,List.length_append,List.length_cons] at *
  omega
theorem Kc.add {mp:List (List UInt8×Int)} {nodes:List Node} (h:Kc mp nodes) {level:Int} {next:List Int} (h1:1<=level) (h2:level < 256) (hn:∀ x∈next,Nm x) (hm:(⟨level,next⟩:Node) ∉ nodes) :
  Kc (dm mp (ofBytes (keyC level next)) (nodes.length:Int)) (nodes++[⟨level,next⟩]):=by
 have hx:(nodes++[(⟨level,next⟩:Node)]).idxOf (⟨level,next⟩:Node)=nodes.length:=by
  rw[List.idxOf_append,if_neg hm]
  simp
 refine⟨fun level' next' h1' h2' hn'=>?_,?_⟩
 ·rw[mget_mset]
  by_cases he:(⟨level,next⟩:Node)=⟨level',next'⟩
  ·cases he
   rw[if_pos rfl,if_pos (by simp),hx]
  ·have hk:ofBytes (keyC level next)≠ofBytes (keyC level' next'):=fun e=>he (by
    have e1:=ofBytes_inj (keyC_dig h1 h2 hn) (keyC_dig h1' h2' hn') e
    simp only[keyC,List.cons.injEq] at e1
    rw[e1.1,flat_inj numI hn hn' e1.2])
   rw[if_neg hk,h.get level' next' h1' h2' hn']
   by_cases hm':(⟨level',next'⟩:Node)∈nodes
   ·rw[if_pos hm',if_pos (List.mem_append_left _ hm'),idxOf_app hm']
   ·rw[if_neg hm',if_neg]
    intro h
    rcases List.mem_append.1 h with h | h
    ·exact hm' h
    ·exact he (List.mem_singleton.1 h).symm
 ·rw[List.nodup_append]
  exact⟨h.nd,by simp,fun a ha b hb e=>hm (by rw[List.mem_singleton] at hb; rw[<- hb,<- e]; exact ha)⟩
structure VI (n c Lh:Nat) (E:Nat->Nat->Int) (seen:List (Au×Int)) (ids:List (List UInt8×Int)) (nodes:List Node):Prop where
 kn:Kc ids nodes
 gd:Good n nodes
 seen:∀ q k,dJ seen q=some k->∃ m at_ o e:Nat,q=⟨(at_:Int),⟨(o:Int),(e:Int)⟩⟩/\at_+(m+1)=Lh/\Rep nodes (m+1) k (cD n c E (m+1) at_ o e)
 cov:∀ x∈nodes,∃ m at_ o e:Nat,at_+(m+1)=Lh/\o<=at_/\e < n/\∃ k,idx nodes k=some x/\Rep nodes (m+1) k (cD n c E (m+1) at_ o e)
section
variable {n c Lh:Nat} {E:Nat->Nat->Int} {seen:List (Au×Int)} {ids:List (List UInt8×Int)} {nodes:List Node}
theorem VI.nil:VI n c Lh E [] [] []:=⟨⟨fun _ _ _ _ _=>by simp[dJ],List.nodup_nil⟩,⟨fun i x h=>by simp at h,fun i x h=>by simp at h,fun i x h=>by simp at h,fun i x h=>by simp at h⟩,fun q k h=>by simp[dJ] at h,fun x hx=>by cases hx⟩
theorem VI.len (h:VI n c Lh E seen ids nodes) (hL:Lh<=9) (hn:n<=8):nodes.length<=648:=by
 have hD:=dst_of h.kn.nd
 refine len_le (R:=fun k x=>∃ m at_ o e:Nat,at_+(m+1)=Lh/\o<=at_/\e < n/\k=(at_*9+o)*8+e/\∃ j,idx nodes j=some x/\Rep nodes (m+1) j (cD n c E (m+1) at_ o e)) (N:=648) h.kn.nd (fun x hx=>?_) fun k x y hx hy=>?_
 ·obtain⟨m,at_,o,e,h1,h2,h3,h4⟩:=h.cov x hx
  exact⟨(at_*9+o)*8+e,by omega,m,at_,o,e,h1,h2,h3,rfl,h4⟩
 ·obtain⟨m,at_,o,e,h1,h2,h3,h4,j,h5,h6⟩:=hx
  obtain⟨m',at',o',e',g1,g2,g3,g4,j',g5,g6⟩:=hy
  obtain rfl:e=e':=by omega
  obtain rfl:at_=at':=by omega
  obtain rfl:o=o':=by omega
  obtain rfl:m=m':=by omega
  have:=hD m j j' _ h6 g6
  rw[this,g5] at h5
  exact (Option.some.inj h5).symm
end
theorem Rep.nm {nodes:List Node} {m n:Nat} {k:Int} {u:DD m} (h:Rep nodes m k u) (hr:Reg n m u) (hl:nodes.length<=648) (hn:n<=8):Nm k:=by
 cases m with
 | zero =>
  have e:k=u:=h
  have hb:0<=k/\k < n:=by rw[e]; exact hr
  exact⟨hb.1,by omega⟩
 | succ m =>
  obtain⟨a,b,_⟩:=Rep.rng h
  exact⟨a,by omega⟩
structure Vis (n c Lh:Nat) (E:Nat->Nat->Int) (m at_ o e:Nat) (nodes:List Node) (r:Int×List (Au×Int)×List (List UInt8×Int)×List Node):Prop where
 vi:VI n c Lh E r.2.1 r.2.2.1 r.2.2.2
 pre:∃ ws,r.2.2.2=nodes++ws
 rep:Rep r.2.2.2 m r.1 (cD n c E m at_ o e)
 low:∀ x∈r.2.2.2,x∈nodes \/ x.Level<=m
section
variable {n c Lh:Nat} {E:Nat->Nat->Int} {hd cH:List Point} {cB cV:List Int} {cS cS1:Int} {cH1:List Point}
 (hn2:2<=n) (hn8:n<=8) (hL9:Lh<=9) (hhd:hd.length=Lh)
 (hE:∀ o e:Nat,e < n->m_totaltree_Totals_2 ⟨(o:Int),(e:Int)⟩ ⟨cH,cS,cB,cV⟩=some (E o e)/\0<=E o e/\E o e < n)
include hn2 hn8 hL9 hhd hE
theorem visit_is (z:Au->(List Point)->(List Point)->Int->(List Int)->(List Int)->(List (Au×Int))->Int->Int->(List (List UInt8×Int))->Int->(List Point)->(List Node)->Option (Int×(List (Au×Int))×(List (List UInt8×Int))×(List Node))) :
  ∀ (m f at_ o e:Nat) (seen:List (Au×Int)) (ids:List (List UInt8×Int)) (nodes:List Node),m < f->at_+m=Lh->o<=at_->e < n->VI n c Lh E seen ids nodes ->
  ∃ r,recN mb_totaltree_build_totaltree_sum_1_o_o_o_o_o_o_o_o z f ⟨(at_:Int),⟨(o:Int),(e:Int)⟩⟩ hd cH cS cB cV seen (n:Int) (c:Int) ids cS1 cH1 nodes=some r/\Vis n c Lh E m at_ o e nodes r /\
   (1<=m->(∀ x∈nodes,x.Level < m)->dJ seen ⟨(at_:Int),⟨(o:Int),(e:Int)⟩⟩=none->∃ l x,r.2.2.2=l++[x]/\r.1=(l.length:Int)/\x.Level=(m:Int))
 | 0,f+1,at_,o,e,seen,ids,nodes,_,hat,ho,he,hV=>by
  refine⟨(E o e,seen,ids,nodes),?_,⟨hV,⟨[],by simp⟩,rfl,fun x hx=>.inl hx⟩,fun h=>by omega⟩
  rw[recN]
  unfold mb_totaltree_build_totaltree_sum_1_o_o_o_o_o_o_o_o
  rw[show eqB (at_:Int) (aO hd)=true from by simp[eqB,aO]; omega,cond_true,(hE o e he).1]
  rfl
 | m+1,f+1,at_,o,e,seen,ids,nodes,hf,hat,ho,he,hV=>by
  have hlen:=hV.len hL9 hn8
  have hE':∀ o e:Nat,e < n->0<=E o e/\E o e < n:=fun o e he=>(hE o e he).2
  rw[recN]
  obtain⟨R,hR⟩:∃ R,R=recN mb_totaltree_build_totaltree_sum_1_o_o_o_o_o_o_o_o z f:=⟨_,rfl⟩
  rw[<- hR]
  unfold mb_totaltree_build_totaltree_sum_1_o_o_o_o_o_o_o_o
  rw[show eqB (at_:Int) (aO hd)=false from by simp[eqB,aO]; omega]
  have hk1:kckL [(at_:Int),(o:Int),(e:Int)]=some ():=by
   unfold kckL
   have w:∀ n:Int,0<=n->n<=1000->(Lit.int .i64 n).wf=true:=fun n h1 h2=>by
    simp[Lit.wf,IntKind.min,IntKind.max,IntKind.signed,IntKind.bits]
    omega
   simp[w (at_:Int) (by omega) (by omega),w (o:Int) (by omega) (by omega),w (e:Int) (by omega) (by omega)]
  simp only[cond_false]
  rw[hk1]
  simp only[some_bind]
  cases hs:dJ seen (⟨(at_:Int),⟨(o:Int),(e:Int)⟩⟩:Au) with
  | some k =>
   rw[show bE seen (⟨(at_:Int),⟨(o:Int),(e:Int)⟩⟩:Au)=true from by unfold bE; rw[hs]; rfl,cond_true,mgetD_some hs]
   obtain⟨m',at',o',e',h1,h2,h3⟩:=hV.seen _ _ hs
   simp only[Au.mk.injEq,As.mk.injEq] at h1
   obtain rfl:at_=at':=by omega
   obtain rfl:o=o':=by omega
   obtain rfl:e=e':=by omega
   obtain rfl:m=m':=by omega
   exact⟨_,rfl,⟨hV,⟨[],by simp⟩,h3,fun x hx=>.inl hx⟩,fun _ _ h=>by cases h⟩
  | none =>
   rw[show bE seen (⟨(at_:Int),⟨(o:Int),(e:Int)⟩⟩:Au)=false from by unfold bE; rw[hs]; rfl,cond_false]
   have hlev:aX .i64 (aO hd) (at_:Int)=(m:Int)+1:=by
    unfold aO
    rw[isub_in (by omega)]
    omega
   have hlb:dz .u8 ((m:Int)+1)=(m:Int)+1:=by
    have hm:m<=8:=by omega
    have:m=0 \/ m=1 \/ m=2 \/ m=3 \/ m=4 \/ m=5 \/ m=6 \/ m=7 \/ m=8:=by omega
    rcases this with rfl | rfl | rfl | rfl | rfl | rfl | rfl | rfl | rfl<;>rfl
   rw[hlev,hlb]
   obtain⟨r,hr,l,keyv,l1,mp,mp1,rfl,q1,q2,q3,q4,q5,q6⟩:=loop_iv (b:=b_totaltree_build_totaltree_sum_1_o_o_o_o_o_o_o_o_1 R ⟨(at_:Int),⟨(o:Int),(e:Int)⟩⟩ hd cH cS cB cV (n:Int) (c:Int) cS1 cH1 ()) (n:=n) (s:=(0,nodes,[(m:Int)+1],[],seen,ids))
    (fun i st=>∃ l keyv l1 mp mp1,st=((i:Int),l,keyv,l1,mp,mp1)/\keyv=keyC ((m:Int)+1) l1/\l1.length=i/\VI n c Lh E mp mp1 l/\(∃ ws,l=nodes++ws)/\(∀ x∈l,x∈nodes \/ x.Level<=m) /\
     ∀ (s:Nat) k',l1[s]?=some k'->Rep l m k' (cD n c E m (at_+1) (nxO c at_ s o) (nxC c at_ s e)))
    (fun r=>∃ l keyv l1 mp mp1,r=(l,keyv,l1,mp,mp1)/\keyv=keyC ((m:Int)+1) l1/\l1.length=n/\VI n c Lh E mp mp1 l/\(∃ ws,l=nodes++ws)/\(∀ x∈l,x∈nodes \/ x.Level<=m) /\
     ∀ (s:Nat) k',l1[s]?=some k'->Rep l m k' (cD n c E m (at_+1) (nxO c at_ s o) (nxC c at_ s e))) (by omega)
    ⟨nodes,_,[],seen,ids,rfl,rfl,rfl,hV,⟨[],by simp⟩,fun x hx=>.inl hx,fun s k' h=>by simp at h⟩
    (fun i st hi ⟨l,keyv,l1,mp,mp1,est,p1,p2,p3,p4,p5,p6⟩=>by
     subst est p1
     obtain⟨rr,hrr,hvis,_⟩:=visit_is z m f (at_+1) (nxO c at_ i o) (nxC c at_ i e) mp mp1 l (by omega) (by omega) (nxO_le ho) (nxC_lt hi he) p3
     rw[<- hR] at hrr
     obtain⟨k,seen',ids',nodes'⟩:=rr
     have v1:=hvis.vi
     obtain⟨ws,v2⟩:=hvis.pre
     have v3:=hvis.rep
     have v4:=hvis.low
     dsimp only at v1 v2 v3 v4
     have hl3:=p3.len hL9 hn8
     have hl4:=v1.len hL9 hn8
     have hnm:∀ x∈l1,Nm x:=fun x hx=>by
      obtain⟨s,hs'⟩:=List.mem_iff_getElem?.1 hx
      have hsl:=(List.getElem?_eq_some_iff.1 hs').1
      exact (p6 s x hs').nm (cD_reg hE' m _ _ _ (nxC_lt (by omega) he)) hl3 hn8
     have hkm:Nm k:=v3.nm (cD_reg hE' m _ _ _ (nxC_lt hi he)) hl4 hn8
     have hkl:=keyC_len (a:=(m:Int)+1) hnm
     refine .inl ⟨((((i+1:Nat)):Int),nodes',keyC ((m:Int)+1) (l1++[k]),l1++[k],seen',ids'),?_,nodes',_,_,seen',ids',rfl,rfl,by rw[List.length_append,p2]; rfl,v1,?_,fun x hx=>?_,fun s k' h=>?_⟩
     ·unfold b_totaltree_build_totaltree_sum_1_o_o_o_o_o_o_o_o_1
      dsimp only
      rw[show ltB (i:Int) (n:Int)=true from decide_eq_true (by omega),cond_true,step_is (by omega)]
      simp only[some_bind]
      rw[iadd_in (by omega),show (at_:Int)+1=((at_+1:Nat):Int) by omega,hrr]
      simp only[some_bind]
      rw[show appL 8 l1 [k]=some _ from if_pos ⟨by decide,by simp only[List.length_singleton]; omega⟩,show appL 1 (keyC ((m:Int)+1) l1) [32]=some _ from if_pos ⟨by decide,by simp only[List.length_singleton]; omega⟩]
      simp only[some_bind]
      rw[numI.ap _ _ hkm.1 hkm.2 (by rw[List.length_append]; simp only[List.length_singleton]; omega),up_nat (by omega)]
      simp only[some_bind]
      congr 3
      unfold keyC
      simp
     ·obtain⟨w1,e1⟩:=p4
      exact⟨w1++ws,by rw[v2,e1,List.append_assoc]⟩
     ·rcases v4 x hx with h | h
      ·exact p5 x h
      ·exact .inr h
     ·rcases Nat.lt_or_ge s i with hsi | hsi
      ·rw[List.getElem?_append_left (by omega)] at h
       rw[v2]
       exact (p6 s k' h).app
      ·rw[List.getElem?_append_right (by omega)] at h
       have hlt:=(List.getElem?_eq_some_iff.1 h).1
       simp only[List.length_singleton] at hlt
       obtain rfl:s=i:=by omega
       rw[p2,Nat.sub_self] at h
       cases h
       exact v3)
    (fun st ⟨l,keyv,l1,mp,mp1,est,p1,p2,p3,p4,p5,p6⟩=>by
     subst est
     refine⟨(l,keyv,l1,mp,mp1),?_,l,keyv,l1,mp,mp1,rfl,p1,p2,p3,p4,p5,p6⟩
     unfold b_totaltree_build_totaltree_sum_1_o_o_o_o_o_o_o_o_1
     dsimp only
     rw[show ltB (n:Int) (n:Int)=false from decide_eq_false (by omega)]
     rfl)
   subst q1
   have hl3:=q3.len hL9 hn8
   have hnm:∀ x∈l1,Nm x:=fun x hx=>by
    obtain⟨s,hs'⟩:=List.mem_iff_getElem?.1 hx
    have hsl:=(List.getElem?_eq_some_iff.1 hs').1
    exact (q6 s x hs').nm (cD_reg hE' m _ _ _ (nxC_lt (by omega) he)) hl3 hn8
   have hkl:=keyC_len (a:=(m:Int)+1) hnm
   have hkids:∀ (s:Nat) k' d,l1[s]?=some k'->(cD n c E (m+1) at_ o e).kids[s]?=some d->Rep l m k' d:=fun s k' d h1 h2=>by
    have hsl:=(List.getElem?_eq_some_iff.1 h1).1
    rw[cD_kid (by omega)] at h2
    cases h2
    exact q6 s k' h1
   have hreg:=cD_reg (c:=c) hE' (m+1) at_ o e he
   have hkl2:l1.length=(cD n c E (m+1) at_ o e).kids.length:=by rw[q2,hreg.1]
   have hget:=q3.kn.get ((m:Int)+1) l1 (by omega) (by omega) hnm
   rw[hr]
   simp only[some_bind]
   rw[show kckS (ofBytes (keyC ((m:Int)+1) l1))=some () from if_pos (by unfold ofBytes; rw[List.length_map]; unfold maxLen; omega)]
   simp only[some_bind]
   by_cases hm:(⟨(m:Int)+1,l1⟩:Node)∈l
   ·rw[if_pos hm] at hget
    rw[show bE mp1 (ofBytes (keyC ((m:Int)+1) l1))=true from by unfold bE; rw[hget]; rfl,mgetD_some hget]
    simp only[ba,Bool.not_true,cond_false,some_bind]
    have hrep:Rep l (m+1) ((l.idxOf (⟨(m:Int)+1,l1⟩:Node):Nat):Int) (cD n c E (m+1) at_ o e):=rep_new (idx_idxOf hm) rfl hkl2 hkids
    refine⟨_,rfl,⟨⟨q3.kn,q3.gd,fun q k h=>?_,q3.cov⟩,q4,hrep,fun x hx=>(q5 x hx).imp id fun h=>by omega⟩,fun _ hlow _=>?_⟩
    ·dsimp only at h
     rw[mget_mset] at h
     split at h
     ·rename_i hq
      cases h
      exact⟨m,at_,o,e,hq.symm,by omega,hrep⟩
     ·exact q3.seen q k h
    ·exfalso
     rcases q5 _ hm with h | h
     ·have:=hlow _ h
      dsimp only at this
      omega
     ·dsimp only at h
      omega
   ·rw[if_neg hm] at hget
    rw[show bE mp1 (ofBytes (keyC ((m:Int)+1) l1))=false from by unfold bE; rw[hget]; rfl]
    simp only[ba,Bool.not_false,cond_true]
    rw[show appL 32 l [(⟨(m:Int)+1,l1⟩:Node)]=some _ from if_pos ⟨by decide,by simp only[List.length_singleton]; omega⟩]
    simp only[some_bind]
    have hix:idx (l++[(⟨(m:Int)+1,l1⟩:Node)]) (aO l)=some ⟨(m:Int)+1,l1⟩:=by
     unfold aO
     rw[idx_nat,List.getElem?_append_right (Nat.le_refl _),Nat.sub_self]
     rfl
    have hrep:Rep (l++[(⟨(m:Int)+1,l1⟩:Node)]) (m+1) (aO l) (cD n c E (m+1) at_ o e):=rep_new hix rfl hkl2 fun s k' d h1 h2=>(hkids s k' d h1 h2).app
    have hgd:Good n (l++[(⟨(m:Int)+1,l1⟩:Node)]):=by
     have hg:=q3.gd.add (x:=⟨(m:Int)+1,l1⟩) (by show 1<=(m:Int)+1; omega) q2 (fun h1 k hk=>by
      obtain⟨s,hs'⟩:=List.mem_iff_getElem?.1 hk
      have hsl:s < l1.length:=(List.getElem?_eq_some_iff.1 hs').1
      have h6:=q6 s k hs'
      cases m with
      | zero=>exact absurd h1 (by show ¬ (1 < ((0:Nat):Int)+1); omega)
      | succ m =>
       obtain⟨a,b,y,hy,hyl⟩:=Rep.rng h6
       exact⟨a,y,hy,by show y.Level=((m+1:Nat):Int)+1 - 1; omega⟩) (fun h1 k hk=>by
      obtain⟨s,hs'⟩:=List.mem_iff_getElem?.1 hk
      have hsl:s < l1.length:=(List.getElem?_eq_some_iff.1 hs').1
      have h6:=q6 s k hs'
      cases m with
      | zero =>
       have e1:k=E (nxO c at_ s o) (nxC c at_ s e):=h6
       rw[e1]
       exact hE' _ _ (nxC_lt (by omega) he)
      | succ m=>exact absurd h1 (by show ¬ (((m+1:Nat):Int)+1=1); omega))
     unfold addN at hg
     rwa [if_neg hm] at hg
    refine⟨_,rfl,⟨⟨q3.kn.add (by omega) (by omega) hnm hm,hgd,fun q k h=>?_,fun x hx=>?_⟩,?_,hrep,fun x hx=>?_⟩,fun _ _ _=>⟨l,_,rfl,rfl,by show (m:Int)+1=((m+1:Nat):Int); omega⟩⟩
    ·dsimp only at h
     rw[mget_mset] at h
     split at h
     ·rename_i hq
      cases h
      exact⟨m,at_,o,e,hq.symm,by omega,hrep⟩
     ·obtain⟨m',at',o',e',h1,h2,h3⟩:=q3.seen q k h
      exact⟨m',at',o',e',h1,h2,h3.app⟩
    ·rcases List.mem_append.1 hx with hx | hx
     ·obtain⟨m',at',o',e',h1,h2,h3,k,h4,h5⟩:=q3.cov x hx
      exact⟨m',at',o',e',h1,h2,h3,k,idx_app h4,h5.app⟩
     ·obtain rfl:=List.mem_singleton.1 hx
      exact⟨m,at_,o,e,by omega,ho,he,_,hix,hrep⟩
    ·obtain⟨ws,e1⟩:=q4
     exact⟨ws++[⟨(m:Int)+1,l1⟩],by show l++_=_; rw[e1,List.append_assoc]⟩
    ·rcases List.mem_append.1 hx with hx | hx
     ·exact (q5 x hx).imp id fun h=>by omega
     ·obtain rfl:=List.mem_singleton.1 hx
      exact .inr (by show (m:Int)+1<=((m+1:Nat):Int); omega)
end
end Go.Proofs.YtlifofijgddjkabGreatDoor
namespace Go.Proofs.YtlifofijgddjkabGreatDoor
open Go.AM Go.Proofs
theorem index_is {s:List Int} (hs:s.length < 1099511627776) (v:Int):∃ k,m_slices_Index_int_int s v=some k/\geB k 0=decide (v∈s):=by
 unfold m_slices_Index_int_int
 obtain⟨o,ho,hq⟩:=loop_iv (b:=b_slices_Index_int_int_1 s v) (n:=s.length) (s:=0) (fun i st=>st=(i:Int)/\v ∉ s.take i) (fun o=>(∃ i:Nat,o=.inl (i:Int)/\v∈s) \/ (o=.inr ()/\v ∉ s)) hs
  ⟨rfl,by simp⟩
  (fun i st hi ⟨e,h⟩=>by
   subst e
   have hx:s[i]?=some s[i]:=List.getElem?_eq_getElem hi
   obtain⟨w,hw⟩:∃ w,b_slices_Index_int_int_1 s v (i:Int)=w:=⟨_,rfl⟩
   rw[hw]
   unfold b_slices_Index_int_int_1 at hw
   dsimp only at hw
   rw[ltB_nat,decide_eq_true hi,cond_true,idx_nat,hx,up_nat (by omega)] at hw
   simp only[some_bind] at hw
   by_cases hv:v=s[i]
   ·rw[show eqB v s[i]=true from by simp[eqB,hv]] at hw
    exact .inr ⟨_,hw.symm,.inl ⟨i,rfl,by rw[hv]; exact List.getElem_mem hi⟩⟩
   ·rw[show eqB v s[i]=false from by simpa [eqB] using hv] at hw
    refine .inl ⟨_,hw.symm,rfl,?_⟩
    rw[List.take_add_one,hx]
    simp only[Option.toList_some,List.mem_append,List.mem_singleton]
    exact fun h2=>h2.elim h hv)
  (fun st ⟨e,h⟩=>by
   subst e
   rw[List.take_length] at h
   refine⟨_,?_,.inr ⟨rfl,h⟩⟩
   unfold b_slices_Index_int_int_1
   dsimp only
   rw[ltB_nat,decide_eq_false (Nat.lt_irrefl _)]
   rfl)
 rw[ho]
 rcases hq with ⟨i,rfl,h⟩ | ⟨rfl,h⟩
 ·exact⟨_,rfl,by rw[decide_eq_true h]; exact decide_eq_true (by omega)⟩
 ·exact⟨_,rfl,by rw[decide_eq_false h]; rfl⟩
theorem contains_is {s:List Int} (hs:s.length < 1099511627776) (v:Int):m_slices_Contains_int_int s v=some (decide (v∈s)):=by
 obtain⟨k,h1,h2⟩:=index_is hs v
 unfold m_slices_Contains_int_int
 rw[h1,<- h2]
 rfl
def Eo (x:Ar) (o e:Nat):Int:=bif decide (e=0) then (bif decide ((o:Int)∈x.Birth) then 1 else 0) else bif decide (e=1) && decide ((o:Int)∈x.Survive) then 1 else ((e:Int)+1) % x.States
theorem end_is {x:Ar} {n:Nat} (hst:x.States=(n:Int)) (hn2:2<=n) (hn8:n<=8) (hb:x.Birth.length < 1099511627776) (hv:x.Survive.length < 1099511627776) (o e:Nat) (he:e < n) :
  m_totaltree_Totals_2 ⟨(o:Int),(e:Int)⟩ x=some (Eo x o e)/\0<=Eo x o e/\Eo x o e < n:=by
 unfold m_totaltree_Totals_2 Eo
 dsimp only
 rw[contains_is hb,contains_is hv]
 by_cases h0:e=0
 ·subst h0
  rw[show eqB ((0:Nat):Int) 0=true from rfl,decide_eq_true rfl]
  simp only[cond_true,some_bind]
  cases decide ((o:Int)∈x.Birth) with
  | true=>exact⟨rfl,by simp only[cond_true]; omega,by simp only[cond_true]; omega⟩
  | false=>exact⟨rfl,by simp only[cond_false]; omega,by simp only[cond_false]; omega⟩
 ·rw[show eqB (e:Int) 0=false from by simp[eqB]; omega,decide_eq_false h0]
  simp only[cond_false,some_bind]
  have hrem:irem (bq .i64 (e:Int) 1) x.States=some (((e:Int)+1) % x.States):=by
   rw[iadd_in (by omega),hst]
   unfold irem
   rw[if_neg (by omega),Int.tmod_eq_emod_of_nonneg (by omega)]
  have hm0:=Int.emod_nonneg ((e:Int)+1) (show x.States≠0 by omega)
  have hm1:=Int.emod_lt_of_pos ((e:Int)+1) (show 0 < x.States by omega)
  rw[hrem]
  by_cases h1:e=1
  ·subst h1
   rw[show eqB ((1:Nat):Int) 1=true from rfl,decide_eq_true rfl]
   simp only[cond_true,some_bind,Bool.true_and]
   cases decide ((o:Int)∈x.Survive) with
   | true=>exact⟨rfl,by simp only[cond_true]; omega,by simp only[cond_true]; omega⟩
   | false=>exact⟨rfl,by simp only[cond_false]; omega,by simp only[cond_false]; omega⟩
  ·rw[show eqB (e:Int) 1=false from by simp[eqB]; omega,decide_eq_false h1]
   simp only[cond_false,some_bind,Bool.false_and]
   exact⟨trivial,by omega,by omega⟩
theorem totals_is {x:Ar} {n c L:Nat} (hst:x.States=(n:Int)) (hn2:2<=n) (hn8:n<=8) (hb:x.Birth.length < 1099511627776) (hv:x.Survive.length < 1099511627776)
  (hR:m_lifelike_Right x=some true) (hC:m_hood_Centre x.Hood=some (c:Int)) (hh:hoodOk x.Hood=true) (hL:L+1=x.Hood.length) (h9:L+1<=9) :
  ∃ nodes,m_totaltree_Totals x=some (⟨x.States,x.Hood,nodes⟩,0)/\TD n L ⟨x.States,x.Hood,nodes⟩ (cD n c (Eo x) (L+1) 0 0 0):=by
 have hF:∃ k,recF=k+1/\100 < k:=⟨1099511627775,rfl,by decide⟩
 obtain⟨F,hF1,hF2⟩:=hF
 obtain⟨r,hr,hV,hroot⟩:=visit_is (n:=n) (c:=c) (Lh:=L+1) (E:=Eo x) (hd:=x.Hood) (cH:=x.Hood) (cB:=x.Birth) (cV:=x.Survive) (cS:=x.States) (cS1:=x.States) (cH1:=x.Hood) hn2 hn8 h9 hL.symm (fun o e he=>end_is hst hn2 hn8 hb hv o e he)
  (fun _ _ _ _ _ _ _ _ _ _ _ _ _=>none) (L+1) recF 0 0 0 [] [] [] (by omega) (by omega) (Nat.le_refl _) (by omega) VI.nil
 obtain⟨l,y,h1,h2,h3⟩:=hroot (by omega) (fun x hx=>by cases hx) rfl
 have hlen:=hV.vi.len h9 hn8
 refine⟨r.2.2.2,?_,?_⟩
 ·unfold m_totaltree_Totals m_totaltree_build_totaltree_sum_totaltree_Totals_1_o_totaltree_Totals_2_o m_totaltree_build_totaltree_sum_1_o_o_o_o_o_o_o_o
  rw[hR,hC,hoodc_is (by omega)]
  simp only[some_bind,ba,Bool.not_true,cond_false]
  rw[hst]
  rw[hst] at hr
  rw[show (⟨((0:Nat):Int),⟨((0:Nat):Int),((0:Nat):Int)⟩⟩:Au)=⟨0,⟨0,0⟩⟩ from rfl] at hr
  rw[hr]
  rfl
 ·have hlev:∀ z∈r.2.2.2,z.Level<=((L+1:Nat):Int):=fun z hz=>by
   rcases hV.low z hz with h | h
   ·cases h
   ·exact h
  have hrl:r.2.2.2.length=l.length+1:=by rw[h1]; simp
  have hget:r.2.2.2[l.length]?=some y:=by rw[h1,List.getElem?_append_right (Nat.le_refl _),Nat.sub_self]; rfl
  have tok:TOk n ⟨x.States,x.Hood,r.2.2.2⟩:=⟨hst,hn2,hn8,by show 1<=x.Hood.length; omega,by show x.Hood.length<=25; omega,by show r.2.2.2.length<=4096; omega,hV.vi.gd,fun z hz=>by
   have:=hlev z hz
   show z.Level<=(x.Hood.length:Int)
   omega,⟨l.length,y,hrl.symm,hget,by show y.Level=(x.Hood.length:Int); omega⟩⟩
  have hrep:=hV.rep
  rw[h2] at hrep
  exact⟨tok_ok tok hh,tok,hL,⟨l.length,hrl.symm,hrep⟩,cD_reg (fun o e he=>(end_is hst hn2 hn8 hb hv o e he).2) (L+1) 0 0 0 (by omega)⟩
def cO (c:Nat):Nat->Nat->List Nat->Nat
 | _,o,[]=>o
 | at_,o,s::l=>cO c (at_+1) (nxO c at_ s o) l
def cC (c:Nat):Nat->Nat->List Nat->Nat
 | _,e,[]=>e
 | at_,e,s::l=>cC c (at_+1) (nxC c at_ s e) l
theorem ev_cD {n c:Nat} {E:Nat->Nat->Int}:∀ (m at_ o e:Nat) (l:List Nat),Sts n m l->evD m (cD n c E m at_ o e) l=E (cO c at_ o l) (cC c at_ e l)
 | 0,at_,o,e,l,h=>by
  obtain rfl:l=[]:=List.eq_nil_of_length_eq_zero h.1
  rfl
 | m+1,at_,o,e,[],h=>by
  have:=h.1
  simp at this
 | m+1,at_,o,e,s::l,h=>by
  obtain⟨hs,hl⟩:=h.cons
  have hk:(cD n c E (m+1) at_ o e).kids.getD s (DD.dflt m)=cD n c E m (at_+1) (nxO c at_ s o) (nxC c at_ s e):=by
   rw[List.getD_eq_getElem?_getD,cD_kid hs]
   rfl
  show evD m ((cD n c E (m+1) at_ o e).kids.getD s (DD.dflt m)) l=_
  rw[hk,ev_cD m _ _ _ l hl]
  rfl
theorem cO_past {c:Nat}:∀ {at_ o e:Nat} {l:List Nat},c < at_->cO c at_ o l=o+l.count 1/\cC c at_ e l=e
 | _,_,_,[],_=>⟨rfl,rfl⟩
 | at_,o,e,s::l,h=>by
  have hc:¬ at_=c:=by omega
  obtain⟨h1,h2⟩:=cO_past (c:=c) (at_:=at_+1) (o:=nxO c at_ s o) (e:=nxC c at_ s e) (l:=l) (by omega)
  refine⟨?_,?_⟩
  ·show cO c (at_+1) (nxO c at_ s o) l=_
   rw[h1,List.count_cons]
   unfold nxO
   rw[if_neg hc]
   by_cases hs:s=1
   ·rw[if_pos hs,if_pos (by simpa using hs)]
    omega
   ·rw[if_neg hs,if_neg (by simpa using hs)]
    omega
  ·show cC c (at_+1) (nxC c at_ s e) l=e
   rw[h2]
   unfold nxC
   rw[if_neg hc]
theorem cO_at {c:Nat}:∀ {at_ o e:Nat} {l:List Nat} {v:Nat},at_<=c->l[c - at_]?=some v->cO c at_ o l+(if v=1 then 1 else 0)=o+l.count 1/\cC c at_ e l=v
 | at_,o,e,[],v,_,h=>by simp at h
 | at_,o,e,s::l,v,hle,h=>by
  by_cases hc:at_=c
  ·subst hc
   rw[Nat.sub_self] at h
   cases h
   obtain⟨h1,h2⟩:=cO_past (c:=at_) (at_:=at_+1) (o:=nxO at_ at_ s o) (e:=nxC at_ at_ s e) (l:=l) (by omega)
   refine⟨?_,?_⟩
   ·show cO at_ (at_+1) (nxO at_ at_ s o) l+_=_
    rw[h1,List.count_cons]
    unfold nxO
    rw[if_pos rfl]
    by_cases hs:s=1
    ·rw[if_pos hs,if_pos (by simpa using hs)]
     omega
    ·rw[if_neg hs,if_neg (by simpa using hs)]
     omega
   ·show cC at_ (at_+1) (nxC at_ at_ s e) l=s
    rw[h2]
    unfold nxC
    rw[if_pos rfl]
  ·rw[show c - at_=(c - (at_+1))+1 by omega,List.getElem?_cons_succ] at h
   obtain⟨h1,h2⟩:=cO_at (c:=c) (at_:=at_+1) (o:=nxO c at_ s o) (e:=nxC c at_ s e) (l:=l) (by omega) h
   refine⟨?_,h2⟩
   show cO c (at_+1) (nxO c at_ s o) l+_=_
   rw[h1,List.count_cons]
   unfold nxO
   rw[if_neg hc]
   by_cases hs:s=1
   ·rw[if_pos hs,if_pos (by simpa using hs)]
    omega
   ·rw[if_neg hs,if_neg (by simpa using hs)]
    omega
theorem apK_zero:∀ k:Nat,apK k ⟨0,0⟩=⟨0,0⟩:=fun k=>by
 unfold apK
 split<;>rfl
theorem hood_perm {l:List Point} (hn:l.Nodup) {k:Nat} (h:∀ p∈l,apK k p∈l):(l.map (apK k)).Perm l:=by
 have hndm:(l.map (apK k)).Nodup:=by
  have:=hn
  rw[List.nodup_iff_pairwise_ne] at this ⊢
  rw[List.pairwise_map]
  exact this.imp fun{a b} h e=>h (apK_inj k e)
 exact perm_of_sub hndm (fun p hp=>by
  obtain⟨q,hq,rfl⟩:=List.mem_map.1 hp
  exact h q hq) (by rw[List.length_map]; exact Nat.le_refl _)
theorem count_inv {n L c:Nat} {E:Nat->Nat->Int} {t:Tree} (T:TD n L t (cD n c E (L+1) 0 0 0)) (hc:t.Hood[c]?=some ⟨0,0⟩) {k:Nat} (hk:∀ p∈t.Hood,apK k p∈t.Hood):Inv n L t (cD n c E (L+1) 0 0 0) k:=by
 have hL:=T.hL
 have hnd:=sorted_nodup (hood_sorted (tok_hood T.ok))
 have hp:=hood_perm hnd hk
 have hsts:∀ f:Point->Nat,(∀ p,f p < n)->Sts n (L+1) (t.Hood.map f):=fun f hf=>⟨by rw[List.length_map,hL],fun s hs=>by
  obtain⟨p,_,rfl⟩:=List.mem_map.1 hs
  exact hf p⟩
 refine⟨hk,fun f hf=>?_⟩
 rw[ev_cD _ _ _ _ _ (hsts f hf),ev_cD _ _ _ _ _ (hsts (fun p=>f (apK k p)) fun p=>hf _)]
 have g1:(t.Hood.map f)[c - 0]?=some (f ⟨0,0⟩):=by rw[Nat.sub_zero,List.getElem?_map,hc]; rfl
 have g2:(t.Hood.map fun p=>f (apK k p))[c - 0]?=some (f ⟨0,0⟩):=by rw[Nat.sub_zero,List.getElem?_map,hc]; simp[apK_zero]
 obtain⟨a1,a2⟩:=cO_at (c:=c) (at_:=0) (o:=0) (e:=0) (Nat.zero_le _) g1
 obtain⟨b1,b2⟩:=cO_at (c:=c) (at_:=0) (o:=0) (e:=0) (Nat.zero_le _) g2
 have hcnt:(t.Hood.map f).count 1=(t.Hood.map fun p=>f (apK k p)).count 1:=by
  have h:=(hp.map f).count_eq 1
  rw[List.map_map] at h
  exact h.symm
 rw[a2,b2,show cO c 0 0 (t.Hood.map f)=cO c 0 0 (t.Hood.map fun p=>f (apK k p)) by omega]
end Go.Proofs.YtlifofijgddjkabGreatDoor
