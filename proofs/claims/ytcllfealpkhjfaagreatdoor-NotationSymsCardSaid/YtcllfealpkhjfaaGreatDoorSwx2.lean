/- Plain laws: any thing's list of all that it leads to is a tree that is right, and leads to the thing. -/
import Derived.Test.YtcllfealpkhjfaaGreatDoorSwx1
import Derived.Test.YtcllfealpkhjfaaGreatDoorRrx2
namespace Go.Proofs.YtcllfealpkhjfaaGreatDoor
open Go.AM Go.Proofs
def cntN (n:Nat):Nat->Nat
 | 0=>0
 | L+1=>n*cntN n L+1
structure PO (n:Nat) (us:List ND):Prop where
 clo:Clo us
 nd:us.Nodup
 reg:∀ x∈us,Reg n (x.1+1) x.2
structure PS (n L m:Nat) (s s':List ND):Prop where
 po:PO n s'
 pre:∃ ws,s'=s++ws
 len:s'.length<=s.length+m
 lev:∀ x∈s',x∈s \/ x.1+1<=L
theorem post_ps {n:Nat}:∀ (L:Nat) (u:DD L) (s:List ND),Reg n L u->PO n s->PS n L (cntN n L) s (post L u s)
 | 0,_,s,_,h=>⟨h,⟨[],by show s=_; simp⟩,by show s.length<=_; omega,fun x hx=>.inl hx⟩
 | L+1,u,s,hu,h=>by
  unfold post
  split
  ·exact⟨h,⟨[],by simp⟩,by omega,fun x hx=>.inl hx⟩
  ·rename_i hn
   have fold:∀ (l:List (DD L)) (s:List ND),(∀ d∈l,Reg n L d)->PO n s->PS n L (l.length*cntN n L) s (l.foldl (fun s d=>post L d s) s)/\∀ K w,(∀ d∈l,(⟨L,d⟩:Σ L:Nat,DD L)=⟨K+1,w⟩->(⟨K,w⟩:ND)∈l.foldl (fun s d=>post L d s) s):=by
    intro l
    induction l with
    | nil=>intro s _ hs; exact⟨⟨hs,⟨[],by simp⟩,by simp,fun x hx=>.inl hx⟩,fun K w d hd=>by cases hd⟩
    | cons d l ih =>
     intro s hl hs
     have h1:=post_ps L d s (hl d (by simp)) hs
     obtain⟨h2,h3⟩:=ih (post L d s) (fun e he=>hl e (by simp[he])) h1.po
     obtain⟨w1,e1⟩:=h1.pre
     obtain⟨w2,e2⟩:=h2.pre
     refine⟨⟨h2.po,⟨w1++w2,by rw[List.foldl_cons,e2,e1,List.append_assoc]⟩,?_,fun x hx=>?_⟩,fun K w e he hh=>?_⟩
     ·have a1:=h1.len
      have a2:=h2.len
      rw[List.foldl_cons,List.length_cons,Nat.add_mul,Nat.one_mul]
      omega
     ·rcases h2.lev x hx with hx | hx
      ·exact h1.lev x hx
      ·exact .inr hx
     ·rcases List.mem_cons.1 he with rfl | he
      ·rw[List.foldl_cons,e2]
       refine List.mem_append_left _ ?_
       cases hh
       unfold post
       split
       ·assumption
       ·simp
      ·exact h3 K w e he hh
   obtain⟨h2,h3⟩:=fold u.kids s hu.2 h
   generalize u.kids.foldl (fun s d=>post L d s) s=s2 at h2 h3
   have hn2:(⟨L,u⟩:ND) ∉ s2:=fun hm=>by
    rcases h2.lev _ hm with hm | hm
    ·exact hn hm
    ·dsimp only at hm; omega
   obtain⟨w2,e2⟩:=h2.pre
   refine⟨⟨h2.po.clo.snoc hn2 fun K w e d hd=>?_,?_,fun x hx=>?_⟩,⟨w2++[⟨L,u⟩],by rw[e2,List.append_assoc]⟩,?_,fun x hx=>?_⟩
   ·cases e
    exact h3 K d d hd rfl
   ·rw[List.nodup_append]
    exact⟨h2.po.nd,by simp,fun a ha b hb e=>hn2 (by rw[List.mem_singleton] at hb; rw[<- hb,<- e]; exact ha)⟩
   ·rcases List.mem_append.1 hx with hx | hx
    ·exact h2.po.reg x hx
    ·rw[List.mem_singleton.1 hx]; exact hu
   ·have a2:=h2.len
    rw[hu.1] at a2
    rw[List.length_append,List.length_singleton]
    show _<=s.length+(n*cntN n L+1)
    omega
   ·rcases List.mem_append.1 hx with hx | hx
    ·rcases h2.lev x hx with hx | hx
     ·exact .inl hx
     ·exact .inr (by omega)
    ·rw[List.mem_singleton.1 hx]
     exact .inr (Nat.le_refl _)
theorem serN_lev (us:List ND) (x:ND):(serNode us x).Level=(x.1:Int)+1:=by
 obtain⟨K,w⟩:=x
 cases K with
 | zero=>rfl
 | succ K=>show (K:Int)+2=((K+1:Nat):Int)+1; omega
theorem PO.nil (n:Nat):PO n []:=⟨fun L u h=>(by cases h),List.nodup_nil,fun x h=>(by cases h)⟩
theorem ser_good {n:Nat} {us:List ND} (h:PO n us):Good n (ser us):=by
 have hget:∀ (j:Nat) y,(ser us)[j]?=some y->∃ x:ND,us[j]?=some x/\y=serNode us x:=fun j y hy=>by
  unfold ser at hy
  rw[List.getElem?_map] at hy
  obtain⟨x,hx,rfl⟩:=Option.map_eq_some_iff.1 hy
  exact⟨x,hx,rfl⟩
 have hlen:∀ x:ND,(serNode us x).Next.length=x.2.kids.length:=fun x=>by
  obtain⟨K,w⟩:=x
  cases K with
  | zero=>rfl
  | succ K=>simp[serNode]
 refine⟨fun j y hy=>?_,fun j y hy=>?_,fun j y hy h1 k hk=>?_,fun j y hy h1 k hk=>?_⟩
 ·obtain⟨x,hx,rfl⟩:=hget j y hy
  rw[serN_lev]
  omega
 ·obtain⟨x,hx,rfl⟩:=hget j y hy
  rw[hlen]
  exact (h.reg x (List.mem_of_getElem? hx)).1
 ·obtain⟨⟨K,w⟩,hx,rfl⟩:=hget j y hy
  rw[serN_lev] at h1 ⊢
  cases K with
  | zero=>exact absurd h1 (by simp)
  | succ K =>
   simp only[serNode,List.mem_map] at hk
   obtain⟨d,hd,rfl⟩:=hk
   obtain⟨m1,m2⟩:=h.clo K w (List.mem_of_getElem? hx) d hd
   rw[idxOf_get h.nd hx] at m2
   have hl:=List.idxOf_lt_length_iff.2 m1
   refine⟨by omega,by omega,serNode us ⟨K,d⟩,?_,by rw[serN_lev]; simp only; omega⟩
   unfold ser
   rw[List.getElem?_map,Int.toNat_natCast,List.getElem?_eq_getElem hl,List.getElem_idxOf hl]
   rfl
 ·obtain⟨⟨K,w⟩,hx,rfl⟩:=hget j y hy
  rw[serN_lev] at h1
  cases K with
  | zero=>exact (h.reg _ (List.mem_of_getElem? hx)).2 k hk
  | succ K=>exact absurd h1 (by simp only; omega)
structure PT (n L:Nat) (v:DD (L+1)):Prop where
 good:Good n (ser (post (L+1) v []))
 rep:∃ j,j+1=(ser (post (L+1) v [])).length/\Rep (ser (post (L+1) v [])) (L+1) (j:Nat) v
 len:(ser (post (L+1) v [])).length<=cntN n (L+1)
 lev:∀ x∈ser (post (L+1) v []),x.Level<=(L:Int)+1
 nd:(post (L+1) v []).Nodup
 clo:Clo (post (L+1) v [])
theorem post_tree {n L:Nat} {v:DD (L+1)} (h:Reg n (L+1) v):PT n L v:=by
 have hp:=post_ps (L+1) v [] h (PO.nil n)
 obtain⟨vs,hv⟩:=post_last v
 have hl:=hp.len
 have hlev:=hp.lev
 have hpo:=hp.po
 obtain⟨us,hus⟩:∃ us,us=post (L+1) v []:=⟨_,rfl⟩
 rw[<- hus] at hpo hl hlev hv
 have hsl:(ser us).length=us.length:=by unfold ser; rw[List.length_map]
 have hroot:us[vs.length]?=some ⟨L,v⟩:=by rw[hv,List.getElem?_append_right (Nat.le_refl _),Nat.sub_self]; rfl
 have hul:vs.length+1=us.length:=by rw[hv]; simp
 have hr:=ser_rep hpo.clo L v (List.mem_of_getElem? hroot)
 rw[idxOf_get hpo.nd hroot] at hr
 refine⟨by rw[<- hus]; exact ser_good hpo,⟨vs.length,by rw[<- hus]; omega,by rw[<- hus]; exact hr⟩,by rw[<- hus,hsl]; simpa using hl,fun x hx=>?_,by rw[<- hus]; exact hpo.nd,by rw[<- hus]; exact hpo.clo⟩
 rw[<- hus] at hx
 unfold ser at hx
 obtain⟨w,hw,rfl⟩:=List.mem_map.1 hx
 rw[serN_lev]
 rcases hlev w hw with hh | hh
 ·cases hh
 ·omega
theorem ser_inj {n L:Nat} {u v:DD (L+1)} (hu:Reg n (L+1) u) (hv:Reg n (L+1) v) (h:ser (post (L+1) u [])=ser (post (L+1) v [])):u=v:=by
 obtain⟨j,e1,r1⟩:=(post_tree hu).rep
 obtain⟨k,e2,r2⟩:=(post_tree hv).rep
 rw[h] at e1 r1
 have:j=k:=by omega
 subst this
 exact r1.det r2
end Go.Proofs.YtcllfealpkhjfaaGreatDoor
namespace Go.Proofs.YtcllfealpkhjfaaGreatDoor
open Go.AM Go.Proofs
def apK:Nat->Point->Point
 | 0,p=>⟨p.X,p.Y⟩
 | 1,p=>⟨-p.Y,p.X⟩
 | 2,p=>⟨-p.X,-p.Y⟩
 | 3,p=>⟨p.Y,-p.X⟩
 | 4,p=>⟨-p.X,p.Y⟩
 | 5,p=>⟨-p.Y,-p.X⟩
 | 6,p=>⟨p.X,-p.Y⟩
 | _,p=>⟨p.Y,p.X⟩
theorem lin_in {a b x y:Int} (ha:-1<=a/\a<=1) (hb:-1<=b/\b<=1) (hx:-1000<=x/\x<=1000) (hy:-1000<=y/\y<=1000):bq .i64 (imul .i64 a x) (imul .i64 b y)=a*x+b*y:=by
 have h1:a*x=-x \/ a*x=0 \/ a*x=x:=by
  have:a=-1 \/ a=0 \/ a=1:=by omega
  rcases this with rfl | rfl | rfl<;>omega
 have h2:b*y=-y \/ b*y=0 \/ b*y=y:=by
  have:b=-1 \/ b=0 \/ b=1:=by omega
  rcases this with rfl | rfl | rfl<;>omega
 rw[imul_in (by omega),imul_in (by omega),iadd_in (by omega)]
def SmP (p:Point):Prop:=(-1000<=p.X/\p.X<=1000)/\(-1000<=p.Y/\p.Y<=1000)
theorem apply_of {k:Nat} {p:Point} (hp:SmP p) {a b c d:Int} (h:fX 8 g1R (iand .i64 (k:Int) 7)=some (a,b,c,d)) (ha:-1<=a/\a<=1) (hb:-1<=b/\b<=1) (hc:-1<=c/\c<=1) (hd:-1<=d/\d<=1):m_symmetry_Apply (k:Int) p=some ⟨a*p.X+b*p.Y,c*p.X+d*p.Y⟩:=by
 unfold m_symmetry_Apply
 rw[h]
 simp only[some_bind]
 rw[lin_in ha hb hp.1 hp.2,lin_in hc hd hp.1 hp.2]
theorem apply_eq {p:Point} (hp:SmP p):∀ {k:Nat},k < 8->m_symmetry_Apply (k:Int) p=some (apK k p)
 | 0,_=>by rw[apply_of hp (show fX 8 g1R (iand .i64 ((0:Nat):Int) 7)=some (1,0,0,1) by kernel_rfl) (by omega) (by omega) (by omega) (by omega)]; simp[apK]
 | 1,_=>by rw[apply_of hp (show fX 8 g1R (iand .i64 ((1:Nat):Int) 7)=some (0,-1,1,0) by kernel_rfl) (by omega) (by omega) (by omega) (by omega)]; simp[apK]
 | 2,_=>by rw[apply_of hp (show fX 8 g1R (iand .i64 ((2:Nat):Int) 7)=some (-1,0,0,-1) by kernel_rfl) (by omega) (by omega) (by omega) (by omega)]; simp[apK]
 | 3,_=>by rw[apply_of hp (show fX 8 g1R (iand .i64 ((3:Nat):Int) 7)=some (0,1,-1,0) by kernel_rfl) (by omega) (by omega) (by omega) (by omega)]; simp[apK]
 | 4,_=>by rw[apply_of hp (show fX 8 g1R (iand .i64 ((4:Nat):Int) 7)=some (-1,0,0,1) by kernel_rfl) (by omega) (by omega) (by omega) (by omega)]; simp[apK]
 | 5,_=>by rw[apply_of hp (show fX 8 g1R (iand .i64 ((5:Nat):Int) 7)=some (0,-1,-1,0) by kernel_rfl) (by omega) (by omega) (by omega) (by omega)]; simp[apK]
 | 6,_=>by rw[apply_of hp (show fX 8 g1R (iand .i64 ((6:Nat):Int) 7)=some (1,0,0,-1) by kernel_rfl) (by omega) (by omega) (by omega) (by omega)]; simp[apK]
 | 7,_=>by rw[apply_of hp (show fX 8 g1R (iand .i64 ((7:Nat):Int) 7)=some (0,1,1,0) by kernel_rfl) (by omega) (by omega) (by omega) (by omega)]; simp[apK]
 | _+8,h=>by omega
theorem apK_small {p:Point} (h:-2<=p.X/\p.X<=2/\-2<=p.Y/\p.Y<=2):∀ k,-2<=(apK k p).X/\(apK k p).X<=2/\-2<=(apK k p).Y/\(apK k p).Y<=2:=fun k=>by
 unfold apK
 split<;>dsimp only<;>omega
theorem apK_inj {p q:Point}:∀ k,apK k p=apK k q->p=q:=fun k h=>by
 cases p
 cases q
 unfold apK at h
 split at h<;>simp only[Point.mk.injEq] at h ⊢<;>omega
theorem comp_gt (a b:Point):∃ c,m_point_Compare a b=some c/\gtB c 0=befP b a:=by
 simp only[m_point_Compare,cmp_eq,some_bind,or_eq]
 refine⟨_,rfl,?_⟩
 unfold befP gtB
 by_cases h1:a.Y < b.Y
 ·have:¬ b.Y < a.Y:=by omega
  have h3:¬ b.Y=a.Y:=by omega
  simp[h1,this,h3]
 ·by_cases h2:a.Y > b.Y
  ·have:¬ a.Y=b.Y:=by omega
   simp[h1,h2]
  ·have h3:a.Y=b.Y:=by omega
   simp only[h3,Int.lt_irrefl,↓reduceIte,gt_iff_lt,ne_eq,not_true_eq_false,decide_false,Bool.false_or]
   by_cases h4:a.X < b.X
   ·have:¬ b.X < a.X:=by omega
    simp[h4,this]
   ·by_cases h5:b.X < a.X<;>simp[h4,h5]
theorem befP_iff' (a b:Point):befP a b=true↔a.Y < b.Y \/ (a.Y=b.Y/\a.X < b.X):=by
 unfold befP
 simp only[Bool.or_eq_true,Bool.and_eq_true,decide_eq_true_eq,beq_iff_eq]
def wP (p:Point):Int:=100*p.Y+p.X
def wsum:Int->List Point->Int
 | _,[]=>0
 | i,p::l=>i*wP p+wsum (i+1) l
theorem wsum_app:∀ (l m:List Point) (i:Int),wsum i (l++m)=wsum i l+wsum (i+l.length) m
 | [],m,i=>by simp[wsum]
 | p::l,m,i=>by
  rw[List.cons_append,wsum,wsum,wsum_app l m (i+1),List.length_cons,show i+1+(l.length:Int)=i+((l.length+1:Nat):Int) by omega]
  omega
theorem wsum_swap (pre post:List Point) (a b:Point):wsum 0 (pre++b::a::post)=wsum 0 (pre++a::b::post)+(wP a - wP b):=by
 rw[wsum_app,wsum_app]
 simp only[wsum,Int.zero_add]
 have:((pre.length:Int)+1)*wP a=(pre.length:Int)*wP a+wP a:=by rw[Int.add_mul,Int.one_mul]
 have h2:((pre.length:Int)+1)*wP b=(pre.length:Int)*wP b+wP b:=by rw[Int.add_mul,Int.one_mul]
 omega
theorem wsum_le:∀ (l:List Point) (i:Nat),(∀ p∈l,-1000<=wP p/\wP p<=1000)->wsum i l<=1000*((i+l.length)*l.length:Nat)/\-(1000*((i+l.length)*l.length:Nat):Int)<=wsum i l
 | [],i,_=>by simp[wsum]
 | p::l,i,h=>by
  have h1:=h p (by simp)
  obtain⟨h2,h3⟩:=wsum_le l (i+1) fun q hq=>h q (by simp[hq])
  have e:(i+(p::l).length)*(p::l).length=(i+1+l.length)*l.length+(i+1+l.length):=by
   rw[List.length_cons,show i+(l.length+1)=i+1+l.length by omega,Nat.mul_add,Nat.mul_one]
  have hm:(i:Int)*wP p<=(i:Int)*1000:=Int.mul_le_mul_of_nonneg_left h1.2 (by omega)
  have hm2:(i:Int)*(-1000)<=(i:Int)*wP p:=Int.mul_le_mul_of_nonneg_left h1.1 (by omega)
  rw[wsum,e]
  rw[show ((i:Int)+1)=((i+1:Nat):Int) by omega]
  omega
theorem swp_at:∀ (pre post:List Nat) (a b:Nat),swp pre.length (pre++b::a::post)=pre++a::b::post
 | [],_,_,_=>rfl
 | c::pre,post,a,b=>by
  show c::swp pre.length (pre++b::a::post)=_
  rw[swp_at pre post a b]
  rfl
theorem loop_ms_aux {St T:Type} {b:St->Option (Lp St T)} (I:St->Prop) (μ:St->Nat) (Q:T->Prop) (step:∀ s,I s->(∃ s',b s=some (.next s')/\I s'/\μ s' < μ s) \/ (∃ t,b s=some (.out t)/\Q t)) :
  ∀ (k:Nat) (s:St),μ s < k->I s->∃ t,aY b k s=some t/\Q t
 | 0,s,h,_=>by omega
 | k+1,s,h,hI=>by
  rcases step s hI with ⟨s',e,h',hm⟩ | ⟨t,e,hq⟩
  ·obtain⟨t,ht,hq⟩:=loop_ms_aux I μ Q step k s' (by omega) h'
   exact⟨t,by rw[aY,e]; exact ht,hq⟩
  ·exact⟨t,by rw[aY,e],hq⟩
theorem loop_ms {St T:Type} {b:St->Option (Lp St T)} (I:St->Prop) (μ:St->Nat) (Q:T->Prop) {s:St} (hm:μ s < 1099511627776) (h0:I s) (step:∀ s,I s->(∃ s',b s=some (.next s')/\I s'/\μ s' < μ s) \/ (∃ t,b s=some (.out t)/\Q t)):∃ t,aY b ba s=some t/\Q t:=loop_ms_aux I μ Q step ba s hm h0
structure TRI (n L:Nat) (I:List Point) (u:DD (L+1)) (l:List Point) (v:DD (L+1)):Prop where
 perm:l.Perm I
 reg:Reg n (L+1) v
 sem:∀ c:Point->Nat,(∀ p,c p < n)->evD (L+1) v (l.map c)=evD (L+1) u (I.map c)
theorem sts_map {n L:Nat} {l:List Point} (hl:l.length=L) {c:Point->Nat} (hc:∀ p,c p < n):Sts n L (l.map c):=⟨by rw[List.length_map,hl],fun s hs=>by
 obtain⟨p,_,rfl⟩:=List.mem_map.1 hs
 exact hc p⟩
theorem TRI.swap {n L:Nat} {I:List Point} {u:DD (L+1)} {pre post:List Point} {a b:Point} {v:DD (L+1)} (h:TRI n L I u (pre++a::b::post) v) (hI:I.length=L+1):TRI n L I u (pre++b::a::post) (swapD n (L+1 - pre.length) (L+1) v):=by
 have hlen:=h.perm.length_eq
 simp only[List.length_append,List.length_cons] at hlen
 refine⟨?_,swapD_reg h.reg,fun c hc=>?_⟩
 ·exact (List.Perm.append_left pre (List.Perm.swap a b post)).trans h.perm
 ·rw[<- h.sem c hc,ev_swap (by omega) h.reg (by omega) (sts_map (by simp; omega) hc),show L+1 - (L+1 - pre.length)=(pre.map c).length by rw[List.length_map]; omega,List.map_append,List.map_cons,List.map_cons,swp_at]
  simp only[List.map_append,List.map_cons]
def cntOk (n:Nat) (L:Nat):Prop:=cntN n (L+1)<=100000000
theorem sized_eq (t:Tree):m_reduce_sized t=some (bif gtB (aT t.Nodes) 4096 then (⟨0,[],[]⟩,6) else (t,0)):=by
 unfold m_reduce_sized
 exact bif_some _ _ _
section
variable {n L:Nat} {S:Int} {I:List Point} {u:DD (L+1)} (hS:S=(n:Int)) (hn2:2<=n) (hn8:n<=8) (hI:I.length=L+1) (hL:L < 25) (hcnt:cntOk n L) (hIs:∀ p∈I,-2<=p.X/\p.X<=2/\-2<=p.Y/\p.Y<=2)
include hS hn2 hn8 hI hL hcnt hIs
theorem swap_step {pre suf:List Point} {a b:Point} {v:DD (L+1)} (h:TRI n L I u (pre++a::b::suf) v):m_reduce_swapped_o_w S (pre++a::b::suf) (ser (post (L+1) v [])) ((pre.length:Nat):Int)=some (ser (post (L+1) (swapD n (L+1 - pre.length) (L+1) v) [])):=by
 have _hIs:=hIs
 have hlen:=h.perm.length_eq
 have hl2:=hlen
 simp only[List.length_append,List.length_cons] at hl2
 have hp:=post_tree h.reg
 obtain⟨j,hj,hr⟩:=hp.rep
 have hpl:=hp.len
 unfold cntOk at hcnt
 exact swapped_is (M:=L+1 - pre.length) hS hp.good (by omega) hn2 hn8 (by omega) (by unfold aT; rw[hlen,hI,isub_in (by omega)]; omega) (by omega) (fun x hx=>by have:=hp.lev x hx; omega) hj hr (by omega) (by omega)
theorem pass_is {l0:List Point} {v0:DD (L+1)} {nn:List Node} {hh:List Point} (h0:TRI n L I u l0 v0) :
  ∃ sd l v,aY (b_reduce_Turn_3 (S,nn,hh)) ba (true,1,ser (post (L+1) v0 []),l0)=some (sd,ser (post (L+1) v []),l)/\TRI n L I u l v/\(sd=true->l=l0/\v=v0/\∀ (i:Nat) a b,l[i]?=some a->l[i+1]?=some b->befP b a=false)/\(sd=false->wsum 0 l0 < wsum 0 l):=by
 obtain⟨r,hr,sd,l,v,rfl,q1,q2,q3⟩:=loop_iv (b:=b_reduce_Turn_3 (S,nn,hh)) (n:=L) (s:=(true,1,ser (post (L+1) v0 []),l0))
  (fun i st=>∃ sd l v,st=(sd,((i+1:Nat):Int),ser (post (L+1) v []),l)/\TRI n L I u l v/\(sd=true->l=l0/\v=v0/\∀ (j:Nat) a b,j < i->l[j]?=some a->l[j+1]?=some b->befP b a=false)/\(sd=false->wsum 0 l0 < wsum 0 l))
  (fun r=>∃ sd l v,r=(sd,ser (post (L+1) v []),l)/\TRI n L I u l v/\(sd=true->l=l0/\v=v0/\∀ (j:Nat) a b,j < L->l[j]?=some a->l[j+1]?=some b->befP b a=false)/\(sd=false->wsum 0 l0 < wsum 0 l)) (by omega)
  ⟨true,l0,v0,rfl,h0,fun _=>⟨rfl,rfl,fun j a b hj=>by omega⟩,fun h=>by cases h⟩
  (fun i st hi ⟨sd,l,v,e,h,h1,h2⟩=>by
   subst e
   have hlen:=h.perm.length_eq
   have ha:l[i]?=some (l[i]'(by omega)):=List.getElem?_eq_getElem _
   have hb:l[i+1]?=some (l[i+1]'(by omega)):=List.getElem?_eq_getElem _
   have hdrop:l=l.take i++(l[i]'(by omega))::(l[i+1]'(by omega))::l.drop (i+2):=by
    conv=>lhs; rw[<- List.take_append_drop i l]
    rw[List.drop_eq_getElem_cons (by omega),List.drop_eq_getElem_cons (by omega)]
   generalize l[i]'(by omega)=a at ha hdrop
   generalize l[i+1]'(by omega)=b at hb hdrop
   obtain⟨c,hc,hg⟩:=comp_gt a b
   have hi1:bc .i64 ((i+1:Nat):Int) 1=(i:Int):=by rw[isub_in (by omega)]; omega
   cases hbf:befP b a with
   | false =>
    refine .inl ⟨(sd,((i+2:Nat):Int),ser (post (L+1) v []),l),?_,sd,l,v,rfl,h,fun hs=>?_,h2⟩
    ·unfold b_reduce_Turn_3
     dsimp only
     rw[show ltB ((i+1:Nat):Int) (aT l)=true from decide_eq_true (by unfold aT; omega),cond_true,hi1,idx_nat,ha,idx_nat,hb,up_nat (by omega)]
     simp only[some_bind]
     rw[hc]
     simp only[some_bind]
     rw[hg,hbf]
     rfl
    ·obtain⟨g1,g2,g3⟩:=h1 hs
     refine⟨g1,g2,fun j a' b' hj e1 e2=>?_⟩
     rcases Nat.lt_succ_iff_lt_or_eq.1 hj with hj | rfl
     ·exact g3 j a' b' hj e1 e2
     ·rw[ha] at e1
      rw[hb] at e2
      cases e1
      cases e2
      exact hbf
   | true =>
    have hpl:(l.take i).length=i:=by rw[List.length_take]; omega
    generalize hpre:l.take i=pre at hdrop hpl
    generalize hsuf:l.drop (i+2)=suf at hdrop
    subst hdrop
    have hsw:=swap_step hS hn2 hn8 hI hL hcnt hIs h
    have hset:((pre++a::b::suf).set i b).set (i+1) a=pre++b::a::suf:=by
     rw[<- hpl,List.set_append_right _ _ (Nat.le_refl _),Nat.sub_self,List.set_cons_zero,List.set_append_right _ _ (by omega),show pre.length+1 - pre.length=1 by omega]
     rfl
    refine .inl ⟨(false,((i+2:Nat):Int),ser (post (L+1) (swapD n (L+1 - pre.length) (L+1) v) []),pre++b::a::suf),?_,false,_,_,rfl,h.swap hI,(fun hh=>by cases hh),fun _=>?_⟩
    ·unfold b_reduce_Turn_3
     dsimp only
     rw[show ltB ((i+1:Nat):Int) (aT (pre++a::b::suf))=true from decide_eq_true (by unfold aT; omega),cond_true,hi1,idx_nat,ha,idx_nat,hb,up_nat (by omega)]
     simp only[some_bind]
     rw[hc]
     simp only[some_bind]
     rw[hg,hbf,cond_true]
     rw[hpl] at hsw
     rw[hsw]
     simp only[some_bind]
     rw[Int.toNat_natCast,idx_nat,List.getElem?_set_ne (by omega),hb]
     simp only[some_bind]
     rw[Int.toNat_natCast,hset,hpl]
    ·have hww:wP b < wP a:=by
      have hbm:b∈I:=h.perm.subset (by simp)
      have ham:a∈I:=h.perm.subset (by simp)
      have g1:=hIs a ham
      have g2:=hIs b hbm
      unfold wP
      rcases (befP_iff' b a).1 hbf with g | g<;>omega
     have hsum:=wsum_swap pre suf a b
     cases sd with
     | true =>
      obtain⟨g1,_,_⟩:=h1 rfl
      rw[<- g1]
      omega
     | false =>
      have:=h2 rfl
      omega)
  (fun st ⟨sd,l,v,e,h,h1,h2⟩=>by
   subst e
   have hlen:=h.perm.length_eq
   refine⟨(sd,ser (post (L+1) v []),l),?_,sd,l,v,rfl,h,h1,h2⟩
   unfold b_reduce_Turn_3
   dsimp only
   rw[show ltB ((L+1:Nat):Int) (aT l)=false from decide_eq_false (by unfold aT; omega)]
   rfl)
 refine⟨sd,l,v,hr,q1,fun hs=>?_,q3⟩
 obtain⟨g1,g2,g3⟩:=q2 hs
 have hlen:=q1.perm.length_eq
 refine⟨g1,g2,fun i a b e1 e2=>g3 i a b ?_ e1 e2⟩
 have:=(List.getElem?_eq_some_iff.1 e2).1
 omega
theorem passes_is {nn:List Node} {hh:List Point} (h0:TRI n L I u I u) :
  ∃ l v,aY (b_reduce_Turn_2 (S,nn,hh)) ba (false,ser (post (L+1) u []),I)=some (ser (post (L+1) v []),l)/\TRI n L I u l v/\∀ (i:Nat) a b,l[i]?=some a->l[i+1]?=some b->befP b a=false:=by
 have hw:∀ p∈I,-1000<=wP p/\wP p<=1000:=fun p hp=>by have:=hIs p hp; unfold wP; omega
 have hwl:∀ l v,TRI n L I u l v->wsum 0 l<=625000/\-625000<=wsum 0 l:=fun l v h=>by
  have hlen:=h.perm.length_eq
  obtain⟨a1,a2⟩:=wsum_le l 0 fun p hp=>hw p (h.perm.subset hp)
  have:(0+l.length)*l.length<=25*25:=Nat.mul_le_mul (by omega) (by omega)
  rw[show ((0:Nat):Int)=0 from rfl] at a1 a2
  omega
 obtain⟨r,hr,l,v,rfl,q1,q2⟩:=loop_ms (b:=b_reduce_Turn_2 (S,nn,hh)) (s:=(false,ser (post (L+1) u []),I))
  (fun st=>∃ l v,st.2=(ser (post (L+1) v []),l)/\TRI n L I u l v/\(st.1=true->∀ (i:Nat) a b,l[i]?=some a->l[i+1]?=some b->befP b a=false))
  (fun st=>if st.1=true then 0 else 1+(625000 - wsum 0 st.2.2).toNat)
  (fun r=>∃ l v,r=(ser (post (L+1) v []),l)/\TRI n L I u l v/\∀ (i:Nat) a b,l[i]?=some a->l[i+1]?=some b->befP b a=false)
  (by
   have:=hwl I u h0
   show (if false=true then 0 else 1+(625000 - wsum 0 I).toNat) < _
   rw[if_neg (by decide)]
   omega)
  ⟨I,u,rfl,h0,fun h=>by cases h⟩
  (fun st ⟨l,v,e,h,h1⟩=>by
   obtain⟨sd,nd,ll⟩:=st
   dsimp only at e h1
   cases e
   cases sd with
   | true =>
    refine .inr ⟨_,?_,l,v,rfl,h,h1 rfl⟩
    unfold b_reduce_Turn_2
    rfl
   | false =>
    obtain⟨sd',l',v',e1,e2,e3,e4⟩:=pass_is hS hn2 hn8 hI hL hcnt hIs (nn:=nn) (hh:=hh) h
    refine .inl ⟨(sd',ser (post (L+1) v' []),l'),?_,⟨l',v',rfl,e2,fun hs=>(e3 hs).2.2⟩,?_⟩
    ·unfold b_reduce_Turn_2
     dsimp only
     rw[show bB false=true from rfl,cond_true,e1]
     rfl
    ·have b1:=hwl l v h
     have b2:=hwl l' v' e2
     show (if sd'=true then 0 else 1+(625000 - wsum 0 l').toNat) < (if false=true then 0 else 1+(625000 - wsum 0 l).toNat)
     rw[if_neg (show ¬ (false=true) by decide)]
     cases sd' with
     | true=>rw[if_pos rfl]; omega
     | false =>
      have:=e4 rfl
      rw[if_neg (by decide)]
      omega)
 exact⟨l,v,hr,q1,q2⟩
end
end Go.Proofs.YtcllfealpkhjfaaGreatDoor
