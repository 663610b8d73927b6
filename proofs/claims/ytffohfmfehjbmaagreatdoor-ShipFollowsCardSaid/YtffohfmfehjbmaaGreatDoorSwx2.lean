/- Plain laws: any thing's list of all that it leads to is a tree that is right, and leads to the thing. -/
import Derived.Test.YtffohfmfehjbmaaGreatDoorSwx1
import Derived.Test.YtffohfmfehjbmaaGreatDoorRrx1
namespace Go.Proofs.YtffohfmfehjbmaaGreatDoor
open Go.AM Go.Proofs
def cntN (n:Nat):Nat->Nat
 | 0=>0
 | L+1=>n*cntN n L+1
structure PO (n:Nat) (us:List ND):Prop where
 clo:Clo us
 nd:us.Nodup
 reg:∀ x∈us,Reg n (x.1+1) x.2
structure PS (n L m:Nat) (s s':List ND):Prop where
 po:PO n s'
 pre:∃ ws,s'=s++ws
 len:s'.length<=s.length+m
 lev:∀ x∈s',x∈s \/ x.1+1<=L
theorem post_ps {n:Nat}:∀ (L:Nat) (u:DD L) (s:List ND),Reg n L u->PO n s->PS n L (cntN n L) s (post L u s)
 | 0,_,s,_,h=>⟨h,⟨[],by show s=_; simp⟩,by show s.length<=_; omega,fun x hx=>.inl hx⟩
 | L+1,u,s,hu,h=>by
  unfold post
  split
  ·exact⟨h,⟨[],by simp⟩,by omega,fun x hx=>.inl hx⟩
  ·rename_i hn
   have fold:∀ (l:List (DD L)) (s:List ND),(∀ d∈l,Reg n L d)->PO n s->PS n L (l.length*cntN n L) s (l.foldl (fun s d=>post L d s) s)/\∀ K w,(∀ d∈l,(⟨L,d⟩:Σ L:Nat,DD L)=⟨K+1,w⟩->(⟨K,w⟩:ND)∈l.foldl (fun s d=>post L d s) s):=by
    intro l
    induction l with
    | nil=>intro s _ hs; exact⟨⟨hs,⟨[],by simp⟩,by simp,fun x hx=>.inl hx⟩,fun K w d hd=>by cases hd⟩
    | cons d l ih =>
     intro s hl hs
     have h1:=post_ps L d s (hl d (by simp)) hs
     obtain⟨h2,h3⟩:=ih (post L d s) (fun e he=>hl e (by simp[he])) h1.po
     obtain⟨w1,e1⟩:=h1.pre
     obtain⟨w2,e2⟩:=h2.pre
     refine⟨⟨h2.po,⟨w1++w2,by rw[List.foldl_cons,e2,e1,List.append_assoc]⟩,?_,fun x hx=>?_⟩,fun K w e he hh=>?_⟩
     ·have a1:=h1.len
      have a2:=h2.len
      rw[List.foldl_cons,List.length_cons,Nat.add_mul,Nat.one_mul]
      omega
     ·rcases h2.lev x hx with hx | hx
      ·exact h1.lev x hx
      ·exact .inr hx
     ·rcases List.mem_cons.1 he with rfl | he
      ·rw[List.foldl_cons,e2]
       refine List.mem_append_left _ ?_
       cases hh
       unfold post
       split
       ·assumption
       ·simp
      ·exact h3 K w e he hh
   obtain⟨h2,h3⟩:=fold u.kids s hu.2 h
   generalize u.kids.foldl (fun s d=>post L d s) s=s2 at h2 h3
   have hn2:(⟨L,u⟩:ND) ∉ s2:=fun hm=>by
    rcases h2.lev _ hm with hm | hm
    ·exact hn hm
    ·dsimp only at hm; omega
   obtain⟨w2,e2⟩:=h2.pre
   refine⟨⟨h2.po.clo.snoc hn2 fun K w e d hd=>?_,?_,fun x hx=>?_⟩,⟨w2++[⟨L,u⟩],by rw[e2,List.append_assoc]⟩,?_,fun x hx=>?_⟩
   ·cases e
    exact h3 K d d hd rfl
   ·rw[List.nodup_append]
    exact⟨h2.po.nd,by simp,fun a ha b hb e=>hn2 (by rw[List.mem_singleton] at hb; rw[<- hb,<- e]; exact ha)⟩
   ·rcases List.mem_append.1 hx with hx | hx
    ·exact h2.po.reg x hx
    ·rw[List.mem_singleton.1 hx]; exact hu
   ·have a2:=h2.len
    rw[hu.1] at a2
    rw[List.length_append,List.length_singleton]
    show _<=s.length+(n*cntN n L+1)
    omega
   ·rcases List.mem_append.1 hx with hx | hx
    ·rcases h2.lev x hx with hx | hx
     ·exact .inl hx
     ·exact .inr (by omega)
    ·rw[List.mem_singleton.1 hx]
     exact .inr (Nat.le_refl _)
theorem serN_lev (us:List ND) (x:ND):(serNode us x).Level=(x.1:Int)+1:=by
 obtain⟨K,w⟩:=x
 cases K with
 | zero=>rfl
 | succ K=>show (K:Int)+2=((K+1:Nat):Int)+1; omega
theorem PO.nil (n:Nat):PO n []:=⟨fun L u h=>(by cases h),List.nodup_nil,fun x h=>(by cases h)⟩
theorem ser_good {n:Nat} {us:List ND} (h:PO n us):Good n (ser us):=by
 have hget:∀ (j:Nat) y,(ser us)[j]?=some y->∃ x:ND,us[j]?=some x/\y=serNode us x:=fun j y hy=>by
  unfold ser at hy
  rw[List.getElem?_map] at hy
  obtain⟨x,hx,rfl⟩:=Option.map_eq_some_iff.1 hy
  exact⟨x,hx,rfl⟩
 have hlen:∀ x:ND,(serNode us x).Next.length=x.2.kids.length:=fun x=>by
  obtain⟨K,w⟩:=x
  cases K with
  | zero=>rfl
  | succ K=>simp[serNode]
 refine⟨fun j y hy=>?_,fun j y hy=>?_,fun j y hy h1 k hk=>?_,fun j y hy h1 k hk=>?_⟩
 ·obtain⟨x,hx,rfl⟩:=hget j y hy
  rw[serN_lev]
  omega
 ·obtain⟨x,hx,rfl⟩:=hget j y hy
  rw[hlen]
  exact (h.reg x (List.mem_of_getElem? hx)).1
 ·obtain⟨⟨K,w⟩,hx,rfl⟩:=hget j y hy
  rw[serN_lev] at h1 ⊢
  cases K with
  | zero=>exact absurd h1 (by simp)
  | succ K =>
   simp only[serNode,List.mem_map] at hk
   obtain⟨d,hd,rfl⟩:=hk
   obtain⟨m1,m2⟩:=h.clo K w (List.mem_of_getElem? hx) d hd
   rw[idxOf_get h.nd hx] at m2
   have hl:=List.idxOf_lt_length_iff.2 m1
   refine⟨by omega,by omega,serNode us ⟨K,d⟩,?_,by rw[serN_lev]; simp only; omega⟩
   unfold ser
   rw[List.getElem?_map,Int.toNat_natCast,List.getElem?_eq_getElem hl,List.getElem_idxOf hl]
   rfl
 ·obtain⟨⟨K,w⟩,hx,rfl⟩:=hget j y hy
  rw[serN_lev] at h1
  cases K with
  | zero=>exact (h.reg _ (List.mem_of_getElem? hx)).2 k hk
  | succ K=>exact absurd h1 (by simp only; omega)
structure PT (n L:Nat) (v:DD (L+1)):Prop where
 good:Good n (ser (post (L+1) v []))
 rep:∃ j,j+1=(ser (post (L+1) v [])).length/\Rep (ser (post (L+1) v [])) (L+1) (j:Nat) v
 len:(ser (post (L+1) v [])).length<=cntN n (L+1)
 lev:∀ x∈ser (post (L+1) v []),x.Level<=(L:Int)+1
 nd:(post (L+1) v []).Nodup
 clo:Clo (post (L+1) v [])
theorem post_tree {n L:Nat} {v:DD (L+1)} (h:Reg n (L+1) v):PT n L v:=by
 have hp:=post_ps (L+1) v [] h (PO.nil n)
 obtain⟨vs,hv⟩:=post_last v
 have hl:=hp.len
 have hlev:=hp.lev
 have hpo:=hp.po
 obtain⟨us,hus⟩:∃ us,us=post (L+1) v []:=⟨_,rfl⟩
 rw[<- hus] at hpo hl hlev hv
 have hsl:(ser us).length=us.length:=by unfold ser; rw[List.length_map]
 have hroot:us[vs.length]?=some ⟨L,v⟩:=by rw[hv,List.getElem?_append_right (Nat.le_refl _),Nat.sub_self]; rfl
 have hul:vs.length+1=us.length:=by rw[hv]; simp
 have hr:=ser_rep hpo.clo L v (List.mem_of_getElem? hroot)
 rw[idxOf_get hpo.nd hroot] at hr
 refine⟨by rw[<- hus]; exact ser_good hpo,⟨vs.length,by rw[<- hus]; omega,by rw[<- hus]; exact hr⟩,by rw[<- hus,hsl]; simpa using hl,fun x hx=>?_,by rw[<- hus]; exact hpo.nd,by rw[<- hus]; exact hpo.clo⟩
 rw[<- hus] at hx
 unfold ser at hx
 obtain⟨w,hw,rfl⟩:=List.mem_map.1 hx
 rw[serN_lev]
 rcases hlev w hw with hh | hh
 ·cases hh
 ·omega
theorem ser_inj {n L:Nat} {u v:DD (L+1)} (hu:Reg n (L+1) u) (hv:Reg n (L+1) v) (h:ser (post (L+1) u [])=ser (post (L+1) v [])):u=v:=by
 obtain⟨j,e1,r1⟩:=(post_tree hu).rep
 obtain⟨k,e2,r2⟩:=(post_tree hv).rep
 rw[h] at e1 r1
 have:j=k:=by omega
 subst this
 exact r1.det r2
end Go.Proofs.YtffohfmfehjbmaaGreatDoor
namespace Go.Proofs.YtffohfmfehjbmaaGreatDoor
open Go.AM Go.Proofs
def apK:Nat->Point->Point
 | 0,p=>⟨p.X,p.Y⟩
 | 1,p=>⟨-p.Y,p.X⟩
 | 2,p=>⟨-p.X,-p.Y⟩
 | 3,p=>⟨p.Y,-p.X⟩
 | 4,p=>⟨-p.X,p.Y⟩
 | 5,p=>⟨-p.Y,-p.X⟩
 | 6,p=>⟨p.X,-p.Y⟩
 | _,p=>⟨p.Y,p.X⟩
theorem lin_in {a b x y:Int} (ha:-1<=a/\a<=1) (hb:-1<=b/\b<=1) (hx:-4194304<=x/\x<=4194304) (hy:-4194304<=y/\y<=4194304):aO .i64 (bP .i64 a x) (bP .i64 b y)=a*x+b*y:=by
 have h1:a*x=-x \/ a*x=0 \/ a*x=x:=by
  have:a=-1 \/ a=0 \/ a=1:=by omega
  rcases this with rfl | rfl | rfl<;>omega
 have h2:b*y=-y \/ b*y=0 \/ b*y=y:=by
  have:b=-1 \/ b=0 \/ b=1:=by omega
  rcases this with rfl | rfl | rfl<;>omega
 rw[imul_in (by omega),imul_in (by omega),iadd_in (by omega)]
def SmP (p:Point):Prop:=(-4194304<=p.X/\p.X<=4194304)/\(-4194304<=p.Y/\p.Y<=4194304)
theorem apply_of {k:Nat} {p:Point} (hp:SmP p) {a b c d:Int} (h:aidx 8 g0R (iand .i64 (k:Int) 7)=some (a,b,c,d)) (ha:-1<=a/\a<=1) (hb:-1<=b/\b<=1) (hc:-1<=c/\c<=1) (hd:-1<=d/\d<=1):m_symmetry_Apply (k:Int) p=some ⟨a*p.X+b*p.Y,c*p.X+d*p.Y⟩:=by
 unfold m_symmetry_Apply
 rw[h]
 simp only[some_bind]
 rw[lin_in ha hb hp.1 hp.2,lin_in hc hd hp.1 hp.2]
theorem apply_eq {p:Point} (hp:SmP p):∀ {k:Nat},k < 8->m_symmetry_Apply (k:Int) p=some (apK k p)
 | 0,_=>by rw[apply_of hp (show aidx 8 g0R (iand .i64 ((0:Nat):Int) 7)=some (1,0,0,1) by kernel_rfl) (by omega) (by omega) (by omega) (by omega)]; simp[apK]
 | 1,_=>by rw[apply_of hp (show aidx 8 g0R (iand .i64 ((1:Nat):Int) 7)=some (0,-1,1,0) by kernel_rfl) (by omega) (by omega) (by omega) (by omega)]; simp[apK]
 | 2,_=>by rw[apply_of hp (show aidx 8 g0R (iand .i64 ((2:Nat):Int) 7)=some (-1,0,0,-1) by kernel_rfl) (by omega) (by omega) (by omega) (by omega)]; simp[apK]
 | 3,_=>by rw[apply_of hp (show aidx 8 g0R (iand .i64 ((3:Nat):Int) 7)=some (0,1,-1,0) by kernel_rfl) (by omega) (by omega) (by omega) (by omega)]; simp[apK]
 | 4,_=>by rw[apply_of hp (show aidx 8 g0R (iand .i64 ((4:Nat):Int) 7)=some (-1,0,0,1) by kernel_rfl) (by omega) (by omega) (by omega) (by omega)]; simp[apK]
 | 5,_=>by rw[apply_of hp (show aidx 8 g0R (iand .i64 ((5:Nat):Int) 7)=some (0,-1,-1,0) by kernel_rfl) (by omega) (by omega) (by omega) (by omega)]; simp[apK]
 | 6,_=>by rw[apply_of hp (show aidx 8 g0R (iand .i64 ((6:Nat):Int) 7)=some (1,0,0,-1) by kernel_rfl) (by omega) (by omega) (by omega) (by omega)]; simp[apK]
 | 7,_=>by rw[apply_of hp (show aidx 8 g0R (iand .i64 ((7:Nat):Int) 7)=some (0,1,1,0) by kernel_rfl) (by omega) (by omega) (by omega) (by omega)]; simp[apK]
 | _+8,h=>by omega
theorem apK_small {p:Point} (h:-2<=p.X/\p.X<=2/\-2<=p.Y/\p.Y<=2):∀ k,-2<=(apK k p).X/\(apK k p).X<=2/\-2<=(apK k p).Y/\(apK k p).Y<=2:=fun k=>by
 unfold apK
 split<;>dsimp only<;>omega
theorem apK_inj {p q:Point}:∀ k,apK k p=apK k q->p=q:=fun k h=>by
 cases p
 cases q
 unfold apK at h
 split at h<;>simp only[Point.mk.injEq] at h ⊢<;>omega
theorem comp_gt (a b:Point):∃ c,m_point_Compare a b=some c/\gtB c 0=befP b a:=by
 simp only[m_point_Compare,cmp_eq,some_bind,or_eq]
 refine⟨_,rfl,?_⟩
 unfold befP gtB
 by_cases h1:a.Y < b.Y
 ·have:¬ b.Y < a.Y:=by omega
  have h3:¬ b.Y=a.Y:=by omega
  simp[h1,this,h3]
 ·by_cases h2:a.Y > b.Y
  ·have:¬ a.Y=b.Y:=by omega
   simp[h1,h2]
  ·have h3:a.Y=b.Y:=by omega
   simp only[h3,Int.lt_irrefl,↓reduceIte,gt_iff_lt,ne_eq,not_true_eq_false,decide_false,Bool.false_or]
   by_cases h4:a.X < b.X
   ·have:¬ b.X < a.X:=by omega
    simp[h4,this]
   ·by_cases h5:b.X < a.X<;>simp[h4,h5]
theorem befP_iff' (a b:Point):befP a b=true↔a.Y < b.Y \/ (a.Y=b.Y/\a.X < b.X):=by
 unfold befP
 simp only[Bool.or_eq_true,Bool.and_eq_true,decide_eq_true_eq,beq_iff_eq]
def wP (p:Point):Int:=100*p.Y+p.X
def wsum:Int->List Point->Int
 | _,[]=>0
 | i,p::l=>i*wP p+wsum (i+1) l
theorem wsum_app:∀ (l m:List Point) (i:Int),wsum i (l++m)=wsum i l+wsum (i+l.length) m
 | [],m,i=>by simp[wsum]
 | p::l,m,i=>by
  rw[List.cons_append,wsum,wsum,wsum_app l m (i+1),List.length_cons,show i+1+(l.length:Int)=i+((l.length+1:Nat):Int) by omega]
  omega
theorem wsum_swap (pre post:List Point) (a b:Point):wsum 0 (pre++b::a::post)=wsum 0 (pre++a::b::post)+(wP a - wP b):=by
 rw[wsum_app,wsum_app]
 simp only[wsum,Int.zero_add]
 have:((pre.length:Int)+1)*wP a=(pre.length:Int)*wP a+wP a:=by rw[Int.add_mul,Int.one_mul]
 have h2:((pre.length:Int)+1)*wP b=(pre.length:Int)*wP b+wP b:=by rw[Int.add_mul,Int.one_mul]
 omega
theorem wsum_le:∀ (l:List Point) (i:Nat),(∀ p∈l,-1000<=wP p/\wP p<=1000)->wsum i l<=1000*((i+l.length)*l.length:Nat)/\-(1000*((i+l.length)*l.length:Nat):Int)<=wsum i l
 | [],i,_=>by simp[wsum]
 | p::l,i,h=>by
  have h1:=h p (by simp)
  obtain⟨h2,h3⟩:=wsum_le l (i+1) fun q hq=>h q (by simp[hq])
  have e:(i+(p::l).length)*(p::l).length=(i+1+l.length)*l.length+(i+1+l.length):=by
   rw[List.length_cons,show i+(l.length+1)=i+1+l.length by omega,Nat.mul_add,Nat.mul_one]
  have hm:(i:Int)*wP p<=(i:Int)*1000:=Int.mul_le_mul_of_nonneg_left h1.2 (by omega)
  have hm2:(i:Int)*(-1000)<=(i:Int)*wP p:=Int.mul_le_mul_of_nonneg_left h1.1 (by omega)
  rw[wsum,e]
  rw[show ((i:Int)+1)=((i+1:Nat):Int) by omega]
  omega
theorem swp_at:∀ (pre post:List Nat) (a b:Nat),swp pre.length (pre++b::a::post)=pre++a::b::post
 | [],_,_,_=>rfl
 | c::pre,post,a,b=>by
  show c::swp pre.length (pre++b::a::post)=_
  rw[swp_at pre post a b]
  rfl
theorem loop_ms_aux {St T:Type} {b:St->Option (Lp St T)} (I:St->Prop) (μ:St->Nat) (Q:T->Prop) (step:∀ s,I s->(∃ s',b s=some (.next s')/\I s'/\μ s' < μ s) \/ (∃ t,b s=some (.out t)/\Q t)) :
  ∀ (k:Nat) (s:St),μ s < k->I s->∃ t,aK b k s=some t/\Q t
 | 0,s,h,_=>by omega
 | k+1,s,h,hI=>by
  rcases step s hI with ⟨s',e,h',hm⟩ | ⟨t,e,hq⟩
  ·obtain⟨t,ht,hq⟩:=loop_ms_aux I μ Q step k s' (by omega) h'
   exact⟨t,by rw[aK,e]; exact ht,hq⟩
  ·exact⟨t,by rw[aK,e],hq⟩
theorem loop_ms {St T:Type} {b:St->Option (Lp St T)} (I:St->Prop) (μ:St->Nat) (Q:T->Prop) {s:St} (hm:μ s < 1099511627776) (h0:I s) (step:∀ s,I s->(∃ s',b s=some (.next s')/\I s'/\μ s' < μ s) \/ (∃ t,b s=some (.out t)/\Q t)):∃ t,aK b aN s=some t/\Q t:=loop_ms_aux I μ Q step aN s hm h0
structure TRI (n L:Nat) (I:List Point) (u:DD (L+1)) (l:List Point) (v:DD (L+1)):Prop where
 perm:l.Perm I
 reg:Reg n (L+1) v
 sem:∀ c:Point->Nat,(∀ p,c p < n)->evD (L+1) v (l.map c)=evD (L+1) u (I.map c)
theorem sts_map {n L:Nat} {l:List Point} (hl:l.length=L) {c:Point->Nat} (hc:∀ p,c p < n):Sts n L (l.map c):=⟨by rw[List.length_map,hl],fun s hs=>by
 obtain⟨p,_,rfl⟩:=List.mem_map.1 hs
 exact hc p⟩
theorem TRI.swap {n L:Nat} {I:List Point} {u:DD (L+1)} {pre post:List Point} {a b:Point} {v:DD (L+1)} (h:TRI n L I u (pre++a::b::post) v) (hI:I.length=L+1):TRI n L I u (pre++b::a::post) (swapD n (L+1 - pre.length) (L+1) v):=by
 have hlen:=h.perm.length_eq
 simp only[List.length_append,List.length_cons] at hlen
 refine⟨?_,swapD_reg h.reg,fun c hc=>?_⟩
 ·exact (List.Perm.append_left pre (List.Perm.swap a b post)).trans h.perm
 ·rw[<- h.sem c hc,ev_swap (by omega) h.reg (by omega) (sts_map (by simp; omega) hc),show L+1 - (L+1 - pre.length)=(pre.map c).length by rw[List.length_map]; omega,List.map_append,List.map_cons,List.map_cons,swp_at]
  simp only[List.map_append,List.map_cons]
def cntOk (n:Nat) (L:Nat):Prop:=cntN n (L+1)<=100000000
theorem sized_eq (t:Tree):m_reduce_sized t=some (bif gtB (aB t.Nodes) 4096 then (⟨0,[],[]⟩,6) else (t,0)):=by
 unfold m_reduce_sized
 exact bif_some _ _ _
section
variable {n L:Nat} {S:Int} {I:List Point} {u:DD (L+1)} (hS:S=(n:Int)) (hn2:2<=n) (hn8:n<=8) (hI:I.length=L+1) (hL:L < 25) (hcnt:cntOk n L) (hIs:∀ p∈I,-2<=p.X/\p.X<=2/\-2<=p.Y/\p.Y<=2)
include hS hn2 hn8 hI hL hcnt hIs
theorem swap_step {pre suf:List Point} {a b:Point} {v:DD (L+1)} (h:TRI n L I u (pre++a::b::suf) v):m_reduce_swapped_o_w S (pre++a::b::suf) (ser (post (L+1) v [])) ((pre.length:Nat):Int)=some (ser (post (L+1) (swapD n (L+1 - pre.length) (L+1) v) [])):=by
 have _hIs:=hIs
 have hlen:=h.perm.length_eq
 have hl2:=hlen
 simp only[List.length_append,List.length_cons] at hl2
 have hp:=post_tree h.reg
 obtain⟨j,hj,hr⟩:=hp.rep
 have hpl:=hp.len
 unfold cntOk at hcnt
 exact swapped_is (M:=L+1 - pre.length) hS hp.good (by omega) hn2 hn8 (by omega) (by unfold aB; rw[hlen,hI,isub_in (by omega)]; omega) (by omega) (fun x hx=>by have:=hp.lev x hx; omega) hj hr (by omega) (by omega)
theorem pass_is {l0:List Point} {v0:DD (L+1)} {nn:List Node} {hh:List Point} (h0:TRI n L I u l0 v0) :
  ∃ sd l v,aK (b_reduce_Turn_3 (S,nn,hh)) aN (true,1,ser (post (L+1) v0 []),l0)=some (sd,ser (post (L+1) v []),l)/\TRI n L I u l v/\(sd=true->l=l0/\v=v0/\∀ (i:Nat) a b,l[i]?=some a->l[i+1]?=some b->befP b a=false)/\(sd=false->wsum 0 l0 < wsum 0 l):=by
 obtain⟨r,hr,sd,l,v,rfl,q1,q2,q3⟩:=loop_iv (b:=b_reduce_Turn_3 (S,nn,hh)) (n:=L) (s:=(true,1,ser (post (L+1) v0 []),l0))
  (fun i st=>∃ sd l v,st=(sd,((i+1:Nat):Int),ser (post (L+1) v []),l)/\TRI n L I u l v/\(sd=true->l=l0/\v=v0/\∀ (j:Nat) a b,j < i->l[j]?=some a->l[j+1]?=some b->befP b a=false)/\(sd=false->wsum 0 l0 < wsum 0 l))
  (fun r=>∃ sd l v,r=(sd,ser (post (L+1) v []),l)/\TRI n L I u l v/\(sd=true->l=l0/\v=v0/\∀ (j:Nat) a b,j < L->l[j]?=some a->l[j+1]?=some b->befP b a=false)/\(sd=false->wsum 0 l0 < wsum 0 l)) (by omega)
  ⟨true,l0,v0,rfl,h0,fun _=>⟨rfl,rfl,fun j a b hj=>by omega⟩,fun h=>by cases h⟩
  (fun i st hi ⟨sd,l,v,e,h,h1,h2⟩=>by
   subst e
   have hlen:=h.perm.length_eq
   have ha:l[i]?=some (l[i]'(by omega)):=List.getElem?_eq_getElem _
   have hb:l[i+1]?=some (l[i+1]'(by omega)):=List.getElem?_eq_getElem _
   have hdrop:l=l.take i++(l[i]'(by omega))::(l[i+1]'(by omega))::l.drop (i+2):=by
    conv=>lhs; rw[<- List.take_append_drop i l]
    rw[List.drop_eq_getElem_cons (by omega),List.drop_eq_getElem_cons (by omega)]
   generalize l[i]'(by omega)=a at ha hdrop
   generalize l[i+1]'(by omega)=b at hb hdrop
   obtain⟨c,hc,hg⟩:=comp_gt a b
   have hi1:aL .i64 ((i+1:Nat):Int) 1=(i:Int):=by rw[isub_in (by omega)]; omega
   cases hbf:befP b a with
   | false =>
    refine .inl ⟨(sd,((i+2:Nat):Int),ser (post (L+1) v []),l),?_,sd,l,v,rfl,h,fun hs=>?_,h2⟩
    ·unfold b_reduce_Turn_3
     dsimp only
     rw[show ltB ((i+1:Nat):Int) (aB l)=true from decide_eq_true (by unfold aB; omega),cond_true,hi1,idx_nat,ha,idx_nat,hb,up_nat (by omega)]
     simp only[some_bind]
     rw[hc]
     simp only[some_bind]
     rw[hg,hbf]
     rfl
    ·obtain⟨g1,g2,g3⟩:=h1 hs
     refine⟨g1,g2,fun j a' b' hj e1 e2=>?_⟩
     rcases Nat.lt_succ_iff_lt_or_eq.1 hj with hj | rfl
     ·exact g3 j a' b' hj e1 e2
     ·rw[ha] at e1
      rw[hb] at e2
      cases e1
      cases e2
      exact hbf
   | true =>
    have hpl:(l.take i).length=i:=by rw[List.length_take]; omega
    generalize hpre:l.take i=pre at hdrop hpl
    generalize hsuf:l.drop (i+2)=suf at hdrop
    subst hdrop
    have hsw:=swap_step hS hn2 hn8 hI hL hcnt hIs h
    have hset:((pre++a::b::suf).set i b).set (i+1) a=pre++b::a::suf:=by
     rw[<- hpl,List.set_append_right _ _ (Nat.le_refl _),Nat.sub_self,List.set_cons_zero,List.set_append_right _ _ (by omega),show pre.length+1 - pre.length=1 by omega]
     rfl
    refine .inl ⟨(false,((i+2:Nat):Int),ser (post (L+1) (swapD n (L+1 - pre.length) (L+1) v) []),pre++b::a::suf),?_,false,_,_,rfl,h.swap hI,(fun hh=>by cases hh),fun _=>?_⟩
    ·unfold b_reduce_Turn_3
     dsimp only
     rw[show ltB ((i+1:Nat):Int) (aB (pre++a::b::suf))=true from decide_eq_true (by unfold aB; omega),cond_true,hi1,idx_nat,ha,idx_nat,hb,up_nat (by omega)]
     simp only[some_bind]
     rw[hc]
     simp only[some_bind]
     rw[hg,hbf,cond_true]
     rw[hpl] at hsw
     rw[hsw]
     simp only[some_bind]
     rw[Int.toNat_natCast,idx_nat,List.getElem?_set_ne (by omega),hb]
     simp only[some_bind]
     rw[Int.toNat_natCast,hset,hpl]
    ·have hww:wP b < wP a:=by
      have hbm:b∈I:=h.perm.subset (by simp)
      have ham:a∈I:=h.perm.subset (by simp)
      have g1:=hIs a ham
      have g2:=hIs b hbm
      unfold wP
      rcases (befP_iff' b a).1 hbf with g | g<;>omega
     have hsum:=wsum_swap pre suf a b
     cases sd with
     | true =>
      obtain⟨g1,_,_⟩:=h1 rfl
      rw[<- g1]
      omega
     | false =>
      have:=h2 rfl
      omega)
  (fun st ⟨sd,l,v,e,h,h1,h2⟩=>by
   subst e
   have hlen:=h.perm.length_eq
   refine⟨(sd,ser (post (L+1) v []),l),?_,sd,l,v,rfl,h,h1,h2⟩
   unfold b_reduce_Turn_3
   dsimp only
   rw[show ltB ((L+1:Nat):Int) (aB l)=false from decide_eq_false (by unfold aB; omega)]
   rfl)
 refine⟨sd,l,v,hr,q1,fun hs=>?_,q3⟩
 obtain⟨g1,g2,g3⟩:=q2 hs
 have hlen:=q1.perm.length_eq
 refine⟨g1,g2,fun i a b e1 e2=>g3 i a b ?_ e1 e2⟩
 have:=(List.getElem?_eq_some_iff.1 e2).1
 omega
theorem passes_is {nn:List Node} {hh:List Point} (h0:TRI n L I u I u) :
  ∃ l v,aK (b_reduce_Turn_2 (S,nn,hh)) aN (false,ser (post (L+1) u []),I)=some (ser (post (L+1) v []),l)/\TRI n L I u l v/\∀ (i:Nat) a b,l[i]?=some a->l[i+1]?=some b->befP b a=false:=by
 have hw:∀ p∈I,-1000<=wP p/\wP p<=1000:=fun p hp=>by have:=hIs p hp; unfold wP; omega
 have hwl:∀ l v,TRI n L I u l v->wsum 0 l<=625000/\-625000<=wsum 0 l:=fun l v h=>by
  have hlen:=h.perm.length_eq
  obtain⟨a1,a2⟩:=wsum_le l 0 fun p hp=>hw p (h.perm.subset hp)
  have:(0+l.length)*l.length<=25*25:=Nat.mul_le_mul (by omega) (by omega)
  rw[show ((0:Nat):Int)=0 from rfl] at a1 a2
  omega
 obtain⟨r,hr,l,v,rfl,q1,q2⟩:=loop_ms (b:=b_reduce_Turn_2 (S,nn,hh)) (s:=(false,ser (post (L+1) u []),I))
  (fun st=>∃ l v,st.2=(ser (post (L+1) v []),l)/\TRI n L I u l v/\(st.1=true->∀ (i:Nat) a b,l[i]?=some a->l[i+1]?=some b->befP b a=false))
  (fun st=>if st.1=true then 0 else 1+(625000 - wsum 0 st.2.2).toNat)
  (fun r=>∃ l v,r=(ser (post (L+1) v []),l)/\TRI n L I u l v/\∀ (i:Nat) a b,l[i]?=some a->l[i+1]?=some b->befP b a=false)
  (by
   have:=hwl I u h0
   show (if false=true then 0 else 1+(625000 - wsum 0 I).toNat) < _
   rw[if_neg (by decide)]
   omega)
  ⟨I,u,rfl,h0,fun h=>by cases h⟩
  (fun st ⟨l,v,e,h,h1⟩=>by
   obtain⟨sd,nd,ll⟩:=st
   dsimp only at e h1
   cases e
   cases sd with
   | true =>
    refine .inr ⟨_,?_,l,v,rfl,h,h1 rfl⟩
    unfold b_reduce_Turn_2
    rfl
   | false =>
    obtain⟨sd',l',v',e1,e2,e3,e4⟩:=pass_is hS hn2 hn8 hI hL hcnt hIs (nn:=nn) (hh:=hh) h
    refine .inl ⟨(sd',ser (post (L+1) v' []),l'),?_,⟨l',v',rfl,e2,fun hs=>(e3 hs).2.2⟩,?_⟩
    ·unfold b_reduce_Turn_2
     dsimp only
     rw[show ba false=true from rfl,cond_true,e1]
     rfl
    ·have b1:=hwl l v h
     have b2:=hwl l' v' e2
     show (if sd'=true then 0 else 1+(625000 - wsum 0 l').toNat) < (if false=true then 0 else 1+(625000 - wsum 0 l).toNat)
     rw[if_neg (show ¬ (false=true) by decide)]
     cases sd' with
     | true=>rw[if_pos rfl]; omega
     | false =>
      have:=e4 rfl
      rw[if_neg (by decide)]
      omega)
 exact⟨l,v,hr,q1,q2⟩
end
end Go.Proofs.YtffohfmfehjbmaaGreatDoor
namespace Go.Proofs.YtffohfmfehjbmaaGreatDoor
open Go.AM Go.Proofs
theorem hood_pts0 {l:List Point} (h:hoodOk l=true):1<=l.length/\l.length<=25/\∀ d∈l,-2<=d.X/\d.X<=2/\-2<=d.Y/\d.Y<=2:=by
 simp only[hoodOk,Bool.and_eq_true,Bool.not_eq_true',Bool.or_eq_false_iff] at h
 have c1:=of_decide_eq_false h.1.1
 have c2:=of_decide_eq_false h.1.2
 unfold aB at c1 c2
 refine⟨by omega,by omega,fun d hd=>?_⟩
 obtain⟨i,hi⟩:=List.mem_iff_getElem?.1 hd
 have hb:=anyB_false h.2 i d hi
 rw[Nat.zero_add] at hb
 unfold badP at hb
 simp only[Bool.or_eq_false_iff] at hb
 obtain⟨e1,e2,e3,e4,_⟩:=hb
 have f1:=of_decide_eq_false e1
 have f2:=of_decide_eq_false e2
 have f3:=of_decide_eq_false e3
 have f4:=of_decide_eq_false e4
 omega
theorem w2_eq (t:Tree) (a:Int) (mp:List (List UInt8×Int)) (l:List Node) (to_:List Int) (x:Node) (y:List Int):b_reduce_rebuilt_reduce_Reduce_1_w_2 t a mp l to_ x y=b_reduce_rebuilt_reduce_Reduce_1_2 t a mp l to_ x y:=by
 funext st
 obtain⟨a1,next⟩:=st
 rfl
theorem w1_eq (t:Tree):b_reduce_rebuilt_reduce_Reduce_1_w_1 t=b_reduce_rebuilt_reduce_Reduce_1_1 t:=by
 funext st
 obtain⟨a,mp,l,to_⟩:=st
 unfold b_reduce_rebuilt_reduce_Reduce_1_w_1 b_reduce_rebuilt_reduce_Reduce_1_1
 simp only[w2_eq]
theorem rebuiltW_is {n:Nat} {t:Tree} (hS:Szd n t.Nodes) (hh:t.Hood.length<=1000000) {L i:Nat} {u:DD (L+1)} (hi:i+1=t.Nodes.length) (hr:Rep t.Nodes (L+1) i u) :
  m_reduce_rebuilt_reduce_Reduce_1_w t=some (ser (post (L+1) u [])):=by
 obtain⟨mp,l,to_,hl,h⟩:=rebuilt_loop numI hS
 obtain⟨k,hk,hr'⟩:=h.mp L i u (by omega) hr
 have hsl:=hS.len
 have hll:=h.ll
 obtain⟨x,hx1,hx2,_⟩:=id hr
 rw[idx_nat] at hx1
 have hlv:=hS.lev x (List.mem_of_getElem? hx1)
 have ho:=ordered_is h.gd h.kn.nd (by omega) hS.n6 (L:=L) (by omega) hr'
 have hi':idx to_ (aL .i64 (aB to_) 1)=some k:=by
  have:aL .i64 (aB to_) 1=(i:Int):=by
   unfold aL aB
   rw[h.tl,i64_in (by omega)]
   omega
  rw[this,idx_nat,hk]
 unfold m_reduce_rebuilt_reduce_Reduce_1_w
 rw[w1_eq,hl]
 simp only[some_bind]
 rw[hoodc_is hh,hi']
 simp only[some_bind]
 rw[ho]
 rfl
structure TD (n L:Nat) (t:Tree) (u:DD (L+1)):Prop where
 ok:treeOk t=true
 tok:TOk n t
 hL:L+1=t.Hood.length
 rep:∃ i,i+1=t.Nodes.length/\Rep t.Nodes (L+1) (i:Nat) u
 reg:Reg n (L+1) u
theorem td_of {t:Tree} (hok:treeOk t=true):∃ n L,∃ u:DD (L+1),TD n L t u:=by
 obtain⟨n,h⟩:=ok_tree hok
 obtain⟨L,i,u,hi,hL,hr,hg⟩:=h.rep
 exact⟨n,L,u,hok,h,hL,⟨i,hi,hr⟩,hg⟩
section
variable {n L:Nat} {t:Tree} {u:DD (L+1)}
theorem TD.reduceW (T:TD n L t u):m_reduce_Reduce_w t=some (t.States,ser (post (L+1) u []),t.Hood):=by
 obtain⟨i,hi,hr⟩:=T.rep
 have h25:=T.tok.h25
 unfold m_reduce_Reduce_w
 rw[tree_eq (sz_of T.tok),T.ok]
 simp only[some_bind,ba,Bool.not_true,cond_false]
 rw[rebuiltW_is T.tok.szd (by omega) hi hr]
 rfl
theorem TD.reduce (T:TD n L t u):m_reduce_Reduce t=some ⟨t.States,t.Hood,ser (post (L+1) u [])⟩:=by
 obtain⟨i,hi,hr⟩:=T.rep
 have h25:=T.tok.h25
 unfold m_reduce_Reduce
 rw[tree_eq (sz_of T.tok),T.ok]
 simp only[some_bind,ba,Bool.not_true,cond_false]
 rw[rebuilt_is numI T.tok.szd (by omega) hi hr]
 rfl
theorem apply_loop {k:Nat} (hk:k < 8) {S:Int} {nn:List Node} {l:List Point} (hl:l.length<=1000) (hp:∀ p∈l,-2<=p.X/\p.X<=2/\-2<=p.Y/\p.Y<=2):aK (b_reduce_Turn_1 (k:Int) (S,nn,l)) aN (0,l)=some (l.map (apK k)):=by
 obtain⟨r,hr,rfl⟩:=loop_iv (b:=b_reduce_Turn_1 (k:Int) (S,nn,l)) (n:=l.length) (s:=(0,l)) (fun i st=>st=((i:Int),half (apK k) l i)) (fun r=>r=l.map (apK k)) (by omega) (by rw[half_zero]; rfl)
  (fun i st hi e=>by
   subst e
   have hx:l[i]?=some l[i]:=List.getElem?_eq_getElem hi
   have hs:=hp l[i] (List.getElem_mem hi)
   refine .inl ⟨_,?_,rfl⟩
   unfold b_reduce_Turn_1
   dsimp only
   rw[ltB_nat,decide_eq_true hi,cond_true,idx_nat,half_get _ hi,hx,up_nat (by omega)]
   simp only[some_bind]
   rw[apply_eq (p:=l[i]) ⟨by omega,by omega⟩ hk]
   simp only[some_bind]
   rw[Int.toNat_natCast,half_set (apK k) hi])
  (fun st e=>by
   subst e
   refine⟨_,?_,rfl⟩
   unfold b_reduce_Turn_1
   dsimp only
   rw[ltB_nat,decide_eq_false (Nat.lt_irrefl _),cond_false,half_len])
 exact hr
theorem befP_trans {a b c:Point} (h:befP a b=true) (h':befP b c=true):befP a c=true:=by
 rw[befP_iff'] at *
 omega
theorem befP_tri (a b:Point):befP a b=true \/ a=b \/ befP b a=true:=by
 rw[befP_iff',befP_iff']
 cases a
 cases b
 simp only[Point.mk.injEq]
 omega
theorem hood_sorted {l:List Point} (h:hoodOk l=true):l.Pairwise fun a b=>befP a b=true:=by
 simp only[hoodOk,Bool.and_eq_true,Bool.not_eq_true',Bool.or_eq_false_iff] at h
 refine pairwise_adj (r:=fun a b=>befP a b=true) (fun a b c=>befP_trans) _ fun i a b ha hb=>?_
 have:=anyB_false h.2 (i+1) b hb
 rw[Nat.zero_add] at this
 unfold badP at this
 simp only[Bool.or_eq_false_iff] at this
 obtain⟨_,_,_,_,h5⟩:=this
 simp only[ha] at h5
 simpa using h5
theorem sorted_hood {l:List Point} (h1:1<=l.length) (h25:l.length<=25) (hp:∀ p∈l,-2<=p.X/\p.X<=2/\-2<=p.Y/\p.Y<=2) (hs:l.Pairwise fun a b=>befP a b=true):hoodOk l=true:=by
 simp only[hoodOk,Bool.and_eq_true,Bool.not_eq_true',Bool.or_eq_false_iff]
 refine⟨⟨decide_eq_false (by unfold aB; omega),decide_eq_false (by unfold aB; omega)⟩,anyB_of_false fun i x hx=>?_⟩
 have g:=hp x (List.mem_of_getElem? hx)
 rw[Nat.zero_add]
 unfold badP
 simp only[Bool.or_eq_false_iff]
 refine⟨decide_eq_false (by omega),decide_eq_false (by omega),decide_eq_false (by omega),decide_eq_false (by omega),?_⟩
 cases i with
 | zero=>rfl
 | succ j =>
  have hj:=(List.getElem?_eq_some_iff.1 hx).1
  have ha:l[j]?=some (l[j]'(by omega)):=List.getElem?_eq_getElem _
  simp only[ha]
  have:=List.pairwise_iff_getElem.1 hs j (j+1) (by omega) hj (by omega)
  rw[(List.getElem?_eq_some_iff.1 hx).2] at this
  rw[this]
  rfl
theorem sorted_nodup {l:List Point} (hs:l.Pairwise fun a b=>befP a b=true):l.Nodup:=by
 rw[List.nodup_iff_pairwise_ne]
 refine hs.imp fun{a b} h e=>?_
 subst e
 rw[befP_iff'] at h
 omega
theorem sorted_uniq {l m:List Point} (hl:l.Pairwise fun a b=>befP a b=true) (hm:m.Pairwise fun a b=>befP a b=true) (hp:l.Perm m):l=m:=by
 refine List.Perm.eq_of_pairwise (le:=fun a b=>befP a b=true) (fun a b _ _ h1 h2=>?_) hl hm hp
 rw[befP_iff'] at h1 h2
 omega
theorem turned_is (T:TD n L t u) (hcnt:cntOk n L) {k:Nat} (hk:k < 8):∃ l v,TRI n L (t.Hood.map (apK k)) u l v/\l.Pairwise (fun a b=>befP a b=true) /\
  m_reduce_Turn (k:Int) t=some (bif gtB (aB (ser (post (L+1) v []))) 4096 then (⟨0,[],[]⟩,6) else (⟨t.States,l,ser (post (L+1) v [])⟩,0)):=by
 have h25:=T.tok.h25
 have hL:=T.hL
 have hh:=tok_hood T.ok
 obtain⟨_,_,hpt⟩:=hood_pts0 hh
 have hIs:∀ p∈t.Hood.map (apK k),-2<=p.X/\p.X<=2/\-2<=p.Y/\p.Y<=2:=fun p hp=>by
  obtain⟨q,hq,rfl⟩:=List.mem_map.1 hp
  exact apK_small (hpt q hq) k
 obtain⟨l,v,h1,h2,h3⟩:=passes_is (I:=t.Hood.map (apK k)) T.tok.st T.tok.n2 T.tok.n8 (by rw[List.length_map,hL]) (by omega) hcnt hIs (nn:=ser (post (L+1) u [])) (hh:=t.Hood) ⟨List.Perm.refl _,T.reg,fun _ _=>rfl⟩
 have hnd:(t.Hood.map (apK k)).Nodup:=by
  have:=sorted_nodup (hood_sorted hh)
  rw[List.nodup_iff_pairwise_ne] at this ⊢
  rw[List.pairwise_map]
  exact this.imp fun{a b} h e=>h (apK_inj k e)
 have hndl:l.Nodup:=h2.perm.nodup_iff.2 hnd
 refine⟨l,v,h2,pairwise_adj (r:=fun a b=>befP a b=true) (fun a b c=>befP_trans) _ fun i a b ha hb=>?_,?_⟩
 ·have hba:=h3 i a b ha hb
  rcases befP_tri a b with h | h | h
  ·exact h
  ·subst h
   have:=(List.getElem?_inj (List.getElem?_eq_some_iff.1 ha).1 hndl).1 (ha.trans hb.symm)
   omega
  ·rw[h] at hba; cases hba
 ·unfold m_reduce_Turn
  rw[tree_eq (sz_of T.tok),T.ok]
  simp only[some_bind,ba,Bool.not_true,cond_false]
  rw[T.reduceW]
  simp only[some_bind]
  rw[apply_loop hk (by omega) hpt]
  simp only[some_bind]
  rw[h1]
  simp only[some_bind]
  rw[sized_eq]
  simp only[some_bind]
end
end Go.Proofs.YtffohfmfehjbmaaGreatDoor
namespace Go.Proofs.YtffohfmfehjbmaaGreatDoor
open Go.AM Go.Proofs
theorem eq_loop {α:Type} [DecidableEq α] {b:Int->Option (Lp Int (Bool ⊕ Unit))} (l m:List α) (hlm:l.length=m.length) (hl:l.length < 1099511627776)
  (hs:∀ (i:Nat) x y,l[i]?=some x->m[i]?=some y->b (i:Int)=some (bif decide (x=y) then .next ((i+1:Nat):Int) else .out (.inl false)))
  (he:b (l.length:Nat)=some (.out (.inr ()))):aK b aN 0=some (bif decide (l=m) then .inr () else .inl false):=by
 obtain⟨o,ho,rfl⟩:=loop_iv (b:=b) (n:=l.length) (s:=0) (fun i st=>st=(i:Int)/\∀ j:Nat,j < i->l[j]?=m[j]?) (fun o=>o=bif decide (l=m) then .inr () else .inl false) hl ⟨rfl,fun j hj=>by omega⟩
  (fun i st hi ⟨e,h⟩=>by
   subst e
   have hx:l[i]?=some l[i]:=List.getElem?_eq_getElem hi
   have hy:m[i]?=some (m[i]'(by omega)):=List.getElem?_eq_getElem _
   generalize l[i]=x at hx
   generalize m[i]'(by omega)=y at hy
   rw[hs i x y hx hy]
   by_cases hxy:x=y
   ·rw[decide_eq_true hxy]
    refine .inl ⟨_,rfl,rfl,fun j hj=>?_⟩
    rcases Nat.lt_succ_iff_lt_or_eq.1 hj with hj | rfl
    ·exact h j hj
    ·rw[hx,hy,hxy]
   ·rw[decide_eq_false hxy]
    refine .inr ⟨_,rfl,?_⟩
    rw[decide_eq_false fun e=>hxy (by subst e; rw[hx] at hy; exact Option.some.inj hy)]
    rfl)
  (fun st ⟨e,h⟩=>by
   subst e
   refine⟨_,he,?_⟩
   rw[decide_eq_true (List.ext_getElem? fun j=>?_)]
   ·rfl
   ·rcases Nat.lt_or_ge j l.length with hj | hj
    ·exact h j hj
    ·rw[List.getElem?_eq_none hj,List.getElem?_eq_none (by omega)])
 exact ho
theorem hoodSame_eq {a b:List Point} (ha:a.length < 1099511627776):m_hood_Same a b=some (decide (a=b)):=by
 unfold m_hood_Same m_slices_Equal_api_Point_api_Point
 by_cases hl:a.length=b.length
 ·rw[show neB (aB a) (aB b)=false from by simp[neB,aB,hl],cond_false,eq_loop a b hl ha (fun i x y hx hy=>by
   unfold b_slices_Equal_api_Point_api_Point_1
   dsimp only
   rw[ltB_nat,decide_eq_true (List.getElem?_eq_some_iff.1 hx).1,cond_true,idx_nat,hx,idx_nat,hy,up_nat (by have:=(List.getElem?_eq_some_iff.1 hx).1; omega)]
   simp only[some_bind]
   have:ba (bW (eqB x.X y.X) (bW (eqB x.Y y.Y) true))=!decide (x=y):=by
    cases x
    cases y
    simp only[ba,bW,eqB,Point.mk.injEq,Bool.and_true,Bool.decide_and]
    rfl
   rw[this]
   cases decide (x=y)<;>rfl) (by
   unfold b_slices_Equal_api_Point_api_Point_1
   dsimp only
   rw[ltB_nat,decide_eq_false (Nat.lt_irrefl _)]
   rfl)]
  cases decide (a=b)<;>rfl
 ·rw[show neB (aB a) (aB b)=true from by simp[neB,aB]; omega,cond_true,decide_eq_false fun e=>hl (by rw[e])]
  rfl
theorem intsSame_eq {a b:List Int} (ha:a.length < 1099511627776):m_slices_Equal_int_int a b=some (decide (a=b)):=by
 unfold m_slices_Equal_int_int
 by_cases hl:a.length=b.length
 ·rw[show neB (aB a) (aB b)=false from by simp[neB,aB,hl],cond_false,eq_loop a b hl ha (fun i x y hx hy=>by
   unfold b_slices_Equal_int_int_1
   dsimp only
   rw[ltB_nat,decide_eq_true (List.getElem?_eq_some_iff.1 hx).1,cond_true,idx_nat,hx,idx_nat,hy,up_nat (by have:=(List.getElem?_eq_some_iff.1 hx).1; omega)]
   simp only[some_bind]
   have:neB x y=!decide (x=y):=by
    by_cases h:x=y
    ·subst h; simp[neB]
    ·simp[neB,h]
   rw[this]
   cases decide (x=y)<;>rfl) (by
   unfold b_slices_Equal_int_int_1
   dsimp only
   rw[ltB_nat,decide_eq_false (Nat.lt_irrefl _)]
   rfl)]
  cases decide (a=b)<;>rfl
 ·rw[show neB (aB a) (aB b)=true from by simp[neB,aB]; omega,cond_true,decide_eq_false fun e=>hl (by rw[e])]
theorem treeSame_eq {a b:Tree} (hh:a.Hood.length < 1099511627776) (hn:a.Nodes.length < 1099511627776) (hx:∀ x∈a.Nodes,x.Next.length < 1099511627776):m_tree_Same a b=some (decide (a=b)):=by
 have hnodes:m_slices_EqualFunc_api_Node_api_Node_api_Node_api_Node_tree_Same_1 a.Nodes b.Nodes=some (decide (a.Nodes=b.Nodes)):=by
  unfold m_slices_EqualFunc_api_Node_api_Node_api_Node_api_Node_tree_Same_1
  by_cases hl:a.Nodes.length=b.Nodes.length
  ·rw[show neB (aB a.Nodes) (aB b.Nodes)=false from by simp[neB,aB,hl],cond_false,eq_loop a.Nodes b.Nodes hl hn (fun i x y hxi hy=>by
    unfold b_slices_EqualFunc_api_Node_api_Node_api_Node_api_Node_tree_Same_1_1 m_tree_Same_1
    dsimp only
    rw[ltB_nat,decide_eq_true (List.getElem?_eq_some_iff.1 hxi).1,cond_true,idx_nat,hxi,idx_nat,hy,up_nat (by have:=(List.getElem?_eq_some_iff.1 hxi).1; omega)]
    simp only[some_bind]
    rw[intsSame_eq (hx x (List.mem_of_getElem? hxi))]
    have:decide (x=y)=(eqB x.Level y.Level && decide (x.Next=y.Next)):=by
     cases x
     cases y
     simp only[eqB,Node.mk.injEq,Bool.decide_and]
     rfl
    rw[this]
    cases eqB x.Level y.Level<;>cases decide (x.Next=y.Next)<;>rfl) (by
    unfold b_slices_EqualFunc_api_Node_api_Node_api_Node_api_Node_tree_Same_1_1
    dsimp only
    rw[ltB_nat,decide_eq_false (Nat.lt_irrefl _)]
    rfl)]
   cases decide (a.Nodes=b.Nodes)<;>rfl
  ·rw[show neB (aB a.Nodes) (aB b.Nodes)=true from by simp[neB,aB]; omega,cond_true,decide_eq_false fun e=>hl (by rw[e])]
 unfold m_tree_Same
 rw[hoodSame_eq hh,hnodes]
 have:decide (a=b)=(eqB a.States b.States && (decide (a.Hood=b.Hood) && decide (a.Nodes=b.Nodes))):=by
  cases a
  cases b
  simp only[eqB,Tree.mk.injEq,Bool.decide_and]
  rfl
 rw[this]
 cases eqB a.States b.States<;>cases decide (a.Hood=b.Hood)<;>cases decide (a.Nodes=b.Nodes)<;>rfl
theorem post_rep {nodes:List Node}:∀ (L:Nat) (u:DD L) (s:List ND),(∃ k,Rep nodes L k u)->(∀ x∈s,∃ k,Rep nodes (x.1+1) k x.2)->∀ x∈post L u s,∃ k,Rep nodes (x.1+1) k x.2
 | 0,_,_,_,h=>h
 | L+1,u,s,hu,h=>by
  unfold post
  split
  ·exact h
  ·have hk:∀ d∈u.kids,∃ k,Rep nodes L k d:=by
    obtain⟨k,x,_,_,h3,h4⟩:=hu
    intro d hd
    obtain⟨i,hi⟩:=List.mem_iff_getElem?.1 hd
    have hlt:=(List.getElem?_eq_some_iff.1 hi).1
    have hx:x.Next[i]?=some (x.Next[i]'(by omega)):=List.getElem?_eq_getElem _
    exact⟨_,h4 i _ d hx hi⟩
   have fold:∀ (l:List (DD L)) (s:List ND),(∀ d∈l,∃ k,Rep nodes L k d)->(∀ x∈s,∃ k,Rep nodes (x.1+1) k x.2)->∀ x∈l.foldl (fun s d=>post L d s) s,∃ k,Rep nodes (x.1+1) k x.2:=by
    intro l
    induction l with
    | nil=>intro s _ hs; exact hs
    | cons d l ih=>intro s hl hs; exact ih _ (fun e he=>hl e (by simp[he])) (post_rep L d s (hl d (by simp)) hs)
   intro x hx
   rcases List.mem_append.1 hx with hx | hx
   ·exact fold u.kids s hk h x hx
   ·obtain rfl:=List.mem_singleton.1 hx
    exact hu
theorem red_len {n L:Nat} {t:Tree} {u:DD (L+1)} (T:TD n L t u):(ser (post (L+1) u [])).length<=t.Nodes.length:=by
 obtain⟨i,hi,hr⟩:=T.rep
 have hp:=post_tree T.reg
 rw[show (ser (post (L+1) u [])).length=(post (L+1) u []).length from by unfold ser; rw[List.length_map]]
 exact len_le (R:=fun k (x:ND)=>Rep t.Nodes (x.1+1) (k:Nat) x.2) hp.nd (fun x hx=>by
  obtain⟨k,hk⟩:=post_rep (L+1) u [] ⟨_,hr⟩ (fun x hx=>by cases hx) x hx
  obtain⟨y,h1,_⟩:=id hk
  obtain⟨a,b,_⟩:=idx_lt h1
  exact⟨k.toNat,by omega,by rwa [show ((k.toNat:Nat):Int)=k by omega]⟩) fun k x y hx hy=>hx.lev hy
section
variable {n n' L L':Nat} {t t':Tree} {u:DD (L+1)} {u':DD (L'+1)}
theorem equal_is (T:TD n L t u) (T':TD n' L' t' u'):m_reduce_Equal t t'=some (decide (t.States=t'.States) && (decide (t.Hood=t'.Hood) && decide (ser (post (L+1) u [])=ser (post (L'+1) u' [])))):=by
 have h25:=T.tok.h25
 have hpo:=post_tree T.reg
 have hln:=red_len T
 have hn4:=T.tok.nodes
 have hn8:=T.tok.n8
 unfold m_reduce_Equal
 rw[tree_eq (sz_of T.tok),T.ok,tree_eq (sz_of T'.tok),T'.ok,hoodSame_eq (by omega),T.reduce,T'.reduce]
 simp only[some_bind,cond_true]
 rw[treeSame_eq (by show t.Hood.length < _; omega) (by show (ser (post (L+1) u [])).length < _; omega) (fun x hx=>by
  obtain⟨i,hi⟩:=List.mem_iff_getElem?.1 hx
  have:=hpo.good.len i x hi
  omega)]
 have:decide ((⟨t.States,t.Hood,ser (post (L+1) u [])⟩:Tree)=⟨t'.States,t'.Hood,ser (post (L'+1) u' [])⟩)=(decide (t.States=t'.States) && (decide (t.Hood=t'.Hood) && decide (ser (post (L+1) u [])=ser (post (L'+1) u' [])))):=by
  simp only[Tree.mk.injEq,Bool.decide_and]
 rw[this,show eqB t.States t'.States=decide (t.States=t'.States) from by
  by_cases h:t.States=t'.States
  ·simp[eqB,h]
  ·simp[eqB,h]]
 cases decide (t.States=t'.States)<;>cases decide (t.Hood=t'.Hood)<;>cases decide (ser (post (L+1) u [])=ser (post (L'+1) u' []))<;>rfl
end
theorem perm_of_sub:∀ {l m:List Point},l.Nodup->(∀ p∈l,p∈m)->m.length<=l.length->l.Perm m
 | [],m,_,_,h=>by
  have:m=[]:=List.eq_nil_of_length_eq_zero (by simpa using h)
  rw[this]
 | a::l,m,hn,hs,h=>by
  obtain⟨h1,h2⟩:=List.nodup_cons.1 hn
  have ha:=hs a (by simp)
  have hp:=List.perm_cons_erase ha
  have hl:=hp.length_eq
  simp only[List.length_cons] at hl h
  exact ((perm_of_sub h2 (fun p hp=>(List.mem_erase_of_ne fun e=>h1 (by rw[<- e]; exact hp)).2 (hs p (by simp[hp]))) (by omega)).cons a).trans hp.symm
section
variable {n L:Nat} {t:Tree} {u:DD (L+1)}
structure Inv (n L:Nat) (t:Tree) (u:DD (L+1)) (k:Nat):Prop where
 hood:∀ p∈t.Hood,apK k p∈t.Hood
 sem:∀ c:Point->Nat,(∀ p,c p < n)->evD (L+1) u (t.Hood.map c)=evD (L+1) u (t.Hood.map fun p=>c (apK k p))
theorem td_turned (T:TD n L t u) {k:Nat} {l:List Point} {v:DD (L+1)} (h:TRI n L (t.Hood.map (apK k)) u l v) (hs:l.Pairwise fun a b=>befP a b=true) (hl:(ser (post (L+1) v [])).length<=4096):TD n L ⟨t.States,l,ser (post (L+1) v [])⟩ v:=by
 have hlen:=h.perm.length_eq
 rw[List.length_map] at hlen
 have hL:=T.hL
 have h25:=T.tok.h25
 have hp:=post_tree h.reg
 obtain⟨j,hj,hr⟩:=hp.rep
 have hpt:=(hood_pts0 (tok_hood T.ok)).2.2
 have hhood:hoodOk l=true:=sorted_hood (by omega) (by omega) (fun p hp'=>by
  obtain⟨q,hq,rfl⟩:=List.mem_map.1 (h.perm.subset hp')
  exact apK_small (hpt q hq) k) hs
 obtain⟨x,hx1,hx2,_⟩:=id hr
 rw[idx_nat] at hx1
 have tok:TOk n ⟨t.States,l,ser (post (L+1) v [])⟩:=⟨T.tok.st,T.tok.n2,T.tok.n8,by show 1<=l.length; omega,by show l.length<=25; omega,hl,hp.good,fun x hx=>by have:=hp.lev x hx; show x.Level<=(l.length:Int); omega,⟨j,x,hj,hx1,by show x.Level=(l.length:Int); omega⟩⟩
 exact⟨tok_ok tok hhood,tok,by show L+1=l.length; omega,⟨j,hj,hr⟩,h.reg⟩
theorem inv_iff (T:TD n L t u) {k:Nat} {l:List Point} {v:DD (L+1)} (h:TRI n L (t.Hood.map (apK k)) u l v) (hs:l.Pairwise fun a b=>befP a b=true):Inv n L t u k↔(l=t.Hood/\v=u):=by
 have hsort:=hood_sorted (tok_hood T.ok)
 have hnd:=sorted_nodup hsort
 have hn2:=T.tok.n2
 constructor
 ·intro hi
  have hndm:(t.Hood.map (apK k)).Nodup:=by
   have:=hnd
   rw[List.nodup_iff_pairwise_ne] at this ⊢
   rw[List.pairwise_map]
   exact this.imp fun{a b} h e=>h (apK_inj k e)
  have hperm:(t.Hood.map (apK k)).Perm t.Hood:=perm_of_sub hndm (fun p hp=>by
   obtain⟨q,hq,rfl⟩:=List.mem_map.1 hp
   exact hi.hood q hq) (by rw[List.length_map]; exact Nat.le_refl _)
  have hl:l=t.Hood:=sorted_uniq hs hsort (h.perm.trans hperm)
  refine⟨hl,evD_ext h.reg T.reg fun s hst=>?_⟩
  obtain⟨c,hc⟩:∃ c:Point->Nat,c=fun p=>s.getD (t.Hood.idxOf p) 0:=⟨_,rfl⟩
  have hcn:∀ p,c p < n:=fun p=>by
   rw[hc]
   dsimp only
   rw[List.getD_eq_getElem?_getD]
   cases hg:s[t.Hood.idxOf p]? with
   | none=>show (0:Nat) < n; omega
   | some x=>exact hst.2 x (List.mem_of_getElem? hg)
  have hcs:t.Hood.map c=s:=by
   apply List.ext_getElem?
   intro i
   rw[List.getElem?_map]
   rcases Nat.lt_or_ge i t.Hood.length with hi' | hi'
   ·have hp:t.Hood[i]?=some t.Hood[i]:=List.getElem?_eq_getElem hi'
    have hx:t.Hood.idxOf t.Hood[i]=i:=by
     have hm:t.Hood[i]∈t.Hood:=List.getElem_mem hi'
     have hlt:=List.idxOf_lt_length_iff.2 hm
     have e:t.Hood[t.Hood.idxOf t.Hood[i]]=t.Hood[i]:=List.getElem_idxOf hlt
     exact (List.getElem_inj hnd).1 e
    rw[hp,Option.map_some,hc]
    dsimp only
    have hL:=T.hL
    have hsl:=hst.1
    rw[hx,List.getD_eq_getElem?_getD,List.getElem?_eq_getElem (by omega)]
    rfl
   ·have hL:=T.hL
    have hsl:=hst.1
    rw[List.getElem?_eq_none hi',List.getElem?_eq_none (by omega)]
    rfl
  have h1:=h.sem c hcn
  rw[hl,hcs,List.map_map] at h1
  rw[h1]
  have h2:=hi.sem c hcn
  rw[hcs] at h2
  exact h2.symm
 ·rintro⟨rfl,rfl⟩
  refine⟨fun p hp=>h.perm.mem_iff.2 (List.mem_map_of_mem hp),fun c hc=>?_⟩
  have:=h.sem c hc
  rw[List.map_map] at this
  exact this
theorem turn_inv (T:TD n L t u) (hcnt:cntOk n L) {k:Nat} (hk:k < 8):∃ t' e,m_reduce_Turn (k:Int) t=some (t',e)/\((Inv n L t u k/\e=0/\m_reduce_Equal t t'=some true/\m_reduce_Equal t' t=some true) \/ (¬Inv n L t u k/\(e=6 \/ (e=0/\m_reduce_Equal t t'=some false)))):=by
 obtain⟨l,v,h1,h2,h3⟩:=turned_is T hcnt hk
 obtain⟨i,hi,hr⟩:=T.rep
 have hln:=red_len T
 have hn4:=T.tok.nodes
 have hiff:=inv_iff T h1 h2
 by_cases hgt:4096 < (ser (post (L+1) v [])).length
 ·rw[show gtB (aB (ser (post (L+1) v []))) 4096=true from decide_eq_true (by unfold aB; omega)] at h3
  refine⟨_,_,h3,.inr ⟨fun hi=>?_,.inl rfl⟩⟩
  obtain⟨_,rfl⟩:=hiff.1 hi
  omega
 ·rw[show gtB (aB (ser (post (L+1) v []))) 4096=false from decide_eq_false (by unfold aB; omega)] at h3
  have T':=td_turned T h1 h2 (by omega)
  have he:=equal_is T T'
  have he':=equal_is T' T
  dsimp only at he he'
  rw[decide_eq_true rfl,Bool.true_and] at he he'
  by_cases hinv:Inv n L t u k
  ·obtain⟨rfl,rfl⟩:=hiff.1 hinv
   rw[decide_eq_true rfl,decide_eq_true rfl] at he he'
   exact⟨_,_,h3,.inl ⟨hinv,rfl,he,he'⟩⟩
  ·refine⟨_,_,h3,.inr ⟨hinv,.inr ⟨rfl,?_⟩⟩⟩
   rw[he]
   congr 1
   by_cases hl:t.Hood=l
   ·rw[decide_eq_true hl,Bool.true_and]
    refine decide_eq_false fun e=>hinv (hiff.2 ⟨hl.symm,(ser_inj T.reg h1.reg e).symm⟩)
   ·rw[decide_eq_false hl]
    rfl
end
end Go.Proofs.YtffohfmfehjbmaaGreatDoor
namespace Go.Proofs.YtffohfmfehjbmaaGreatDoor
open Go.AM Go.Proofs
theorem walk_ev {n:Nat} {t:Tree}:∀ {m:Nat} {k:Int} {u:DD m} {l:List Nat},Rep t.Nodes m k u->Reg n m u->Sts n m l->walkV t (l.map fun s:Nat=>(s:Int)) k=some (evD m u l)
 | 0,k,u,l,h,_,hl=>by
  obtain rfl:l=[]:=List.eq_nil_of_length_eq_zero hl.1
  exact congrArg some (show k=u from h)
 | m+1,k,u,[],_,_,hl=>by
  have:=hl.1
  simp at this
 | m+1,k,u,s::l,⟨x,h1,_,h3,h4⟩,hr,hl=>by
  have hs:=hl.cons
  obtain⟨e1,r1⟩:=reg_kid hr hs.1
  have hx:x.Next[s]?=some (x.Next[s]'(by have:=hr.1; omega)):=List.getElem?_eq_getElem _
  rw[List.map_cons,walkV,h1]
  simp only[some_bind]
  rw[idx_nat,hx]
  exact walk_ev (h4 s _ _ hx e1) r1 hs.2
theorem lt8 {a:Nat} (h:a < 8):a=0 \/ a=1 \/ a=2 \/ a=3 \/ a=4 \/ a=5 \/ a=6 \/ a=7:=by omega
theorem cnt8 {n:Nat} (hn:n<=8):∀ k,cntN n k<=cntN 8 k
 | 0=>Nat.le_refl _
 | k+1=>by
  have:=cnt8 hn k
  show n*cntN n k+1<=8*cntN 8 k+1
  have:=Nat.mul_le_mul hn this
  omega
theorem cnt9 {n L:Nat} (hn:n<=8) (hL:L < 9):cntOk n L:=by
 unfold cntOk
 refine Nat.le_trans (cnt8 hn _) ?_
 rcases lt8 (show L - 1 < 8 by omega) with h | h | h | h | h | h | h | h<;>rcases Nat.eq_zero_or_pos L with h' | h'<;>first | (obtain rfl:L=0:=h'; decide) | (obtain⟨m,rfl⟩:∃ m,L=m+1:=⟨L - 1,by omega⟩; rw[Nat.add_sub_cancel] at h; subst h; decide)
end Go.Proofs.YtffohfmfehjbmaaGreatDoor
