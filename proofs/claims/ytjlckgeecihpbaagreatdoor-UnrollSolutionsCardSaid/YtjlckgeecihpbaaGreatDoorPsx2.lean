/- Plain laws: one step of the program: the new pattern is the sorted list of the places with a state. -/
import Derived.Test.YtjlckgeecihpbaaGreatDoorPsx1
namespace Go.Proofs.YtjlckgeecihpbaaGreatDoor
open Go.AM Go.Proofs
theorem cf_lt (a b:Cell):dG a b < 0↔jG a b=true:=by
 grind [lj,dG,cmpYX,cmpI]
def Dist (a b:Cell):Prop:=¬ (a.X=b.X/\a.Y=b.Y)
theorem bef_or {a b:Cell} (h:Dist a b) (hn:jG a b=false):jG b a=true:=by
 grind [lj,Dist]
theorem ins_sorted {x:Cell}:∀ {l:List Cell},l.Pairwise (fun a b=>jG a b=true)->(∀ y∈l,Dist x y)->(insS dG x l).Pairwise fun a b=>jG a b=true
 | [],_,_=>List.pairwise_singleton _ _
 | y::l,hl,hx=>by
  obtain⟨h1,h2⟩:=List.pairwise_cons.1 hl
  unfold insS
  split
  ·grind [cf_lt,List.pairwise_cons,befC_trans]
  ·rename_i hc
   rw[cf_lt] at hc
   have hyx:=bef_or (hx y (by simp)) (by simpa using hc)
   refine List.pairwise_cons.2 ⟨fun z hz=>?_,ins_sorted h2 fun z hz=>hx z (List.mem_cons_of_mem _ hz)⟩
   grind [pb]
theorem pK:∀ {l m:List Cell},l.Pairwise (fun a b=>jG a b=true)->m.Pairwise (fun a b=>jG a b=true)->(∀ c,c∈l↔c∈m)->l=m
 | [],[],_,_,_=>rfl
 | [],y::m,_,_,h=>by have:=(h y).2 (by simp); simp at this
 | x::l,[],_,_,h=>by have:=(h x).1 (by simp); simp at this
 | x::l,y::m,hl,hm,h=>by
  obtain⟨l1,l2⟩:=List.pairwise_cons.1 hl
  obtain⟨m1,m2⟩:=List.pairwise_cons.1 hm
  have irr:∀ a:Cell,¬ jG a a=true:=fun a ha=>by rw[lj] at ha; omega
  have hxy:x=y:=by
   rcases List.mem_cons.1 ((h x).1 (by simp)) with e | e
   ·exact e
   ·rcases List.mem_cons.1 ((h y).2 (by simp)) with e' | e'
    ·exact e'.symm
    grind [befC_trans]
  subst hxy
  congr 1
  refine pK l2 m2 fun c=>⟨fun hc=>?_,fun hc=>?_⟩
  ·grind
  grind
structure J (t:Tree) (p:List Cell) (P:Point->Prop) (done:List (Point×Bool)) (l:List Cell) (k:Nat):Prop where
 done:∀ q,mgetD done q false=true↔P q
 mem:∀ c∈l,P ⟨c.X,c.Y⟩/\c.S=kE t p c.X c.Y/\c.S≠0/\jj c.X c.Y=true
 all:∀ q,P q->kE t p q.X q.Y≠0->(⟨q.X,q.Y,kE t p q.X q.Y⟩:Cell)∈l
 dist:l.Pairwise Dist
 len:l.length<=k
theorem J.congr {t:Tree} {p:List Cell} {P P':Point->Prop} {done:List (Point×Bool)} {l:List Cell} {k k':Nat} (h:J t p P done l k) (hP:∀ q,P q↔P' q) (hk:k<=k'):J t p P' done l k' :=
 ⟨fun q=>(h.done q).trans (hP q),fun c hc=>⟨(hP _).1 (h.mem c hc).1,(h.mem c hc).2⟩,fun q hq=>h.all q ((hP q).2 hq),h.dist,Nat.le_trans h.len hk⟩
def Out (t:Tree) (p:List Cell):Prop:=∃ x y,kE t p x y≠0/\jj x y=false
section
variable {t:Tree} {p:List Cell} (h:Fit t p) (hs:Sz t) {y:List (Point×Int)} (hy:∀ q:Point,mgetD y q 0=dc p q.X q.Y)
include h hs hy
end
structure Canon (t:Tree) (p y:List Cell):Prop where
 sorted:y.Pairwise fun a b=>jG a b=true
 mem:∀ c,c∈y↔c.S=kE t p c.X c.Y/\c.S≠0
theorem Canon.uniq {t:Tree} {p y y':List Cell} (h:Canon t p y) (h':Canon t p y'):y=y':=pK h.sorted h'.sorted fun c=>(h.mem c).trans (h'.mem c).symm
def Stp (t:Tree) (p:List Cell) (r:List Cell×Int):Prop:=(Out t p/\r=([],5)) \/ (¬ Out t p/\∃ y,Canon t p y/\r=(bif gtB (b8 y) 5000 then ([],6) else (y,0)))
theorem Stp.uniq {t:Tree} {p:List Cell} {r r':List Cell×Int} (h:Stp t p r) (h':Stp t p r'):r=r':=by
 rcases h with ⟨h1,rfl⟩ | ⟨h1,y,hy,rfl⟩<;>rcases h' with ⟨h2,rfl⟩ | ⟨h2,y',hy',rfl⟩
 ·rfl
 ·exact absurd h1 h2
 ·exact absurd h2 h1
 ·rw[hy.uniq hy']
end Go.Proofs.YtjlckgeecihpbaaGreatDoor
namespace Go.Proofs.YtjlckgeecihpbaaGreatDoor
open Go.AM Go.Proofs
def kq (c x:Cell) (s:Bool×List Cell):Option (Bool×List Cell):=bif (!s.1 && jG c x) then some (true,s.2++[c,x]) else some (s.1,s.2++[x])
theorem ins_true {c:Cell}:∀ (p:List Cell) (i:Nat) (out:List Cell),l6 (fun _ (x:Cell) s=>(kq c x s).map Lp.next) (fun s=>some s) p i (true,out)=some (true,out++p)
 | [],_,out=>by simp[l6]
 | x::p,i,out=>by
  have e:kq c x (true,out)=some (true,out++[x]):=rfl
  rw[l6,e]
  simp only[Option.map_some]
  rw[ins_true p (i+1) (out++[x]),List.append_assoc]
  rfl
theorem ins_false {c:Cell}:∀ (p:List Cell) (i:Nat) (out:List Cell),∃ d l,l6 (fun _ (x:Cell) s=>(kq c x s).map Lp.next) (fun s=>some s) p i (false,out)=some (d,l)/\(bif !d then l++[c] else l)=out++insS dG c p
 | [],_,out=>⟨false,out,rfl,rfl⟩
 | x::p,i,out=>by
  unfold insS
  cases hc:jG c x with
  | true =>
   have e:kq c x (false,out)=some (true,out++[c,x]):=by unfold kq; rw[hc]; rfl
   refine⟨true,out++[c,x]++p,?_,?_⟩
   ·rw[l6,e]
    simp only[Option.map_some]
    exact ins_true p _ _
   ·rw[if_pos ((cf_lt _ _).2 hc)]
    simp
  | false =>
   have e:kq c x (false,out)=some (false,out++[x]):=by unfold kq; rw[hc]; rfl
   obtain⟨d,l,h1,h2⟩:=ins_false (c:=c) p (i+1) (out++[x])
   refine⟨d,l,?_,?_⟩
   ·rw[l6,e]
    simp only[Option.map_some]
    exact h1
   ·rw[h2,if_neg (fun h=>by rw[cf_lt,hc] at h; cases h)]
    simp
theorem app_in {l:List Cell} (hl:l.length<=5000000) (d:Cell):eT 24 l [d]=some (l++[d]):=by
 unfold eT
 rw[if_pos]
 simp only[List.length_cons,List.length_nil]
 omega
theorem insert_eq {p:List Cell} (hl:p.length<=1000000) (c:Cell):l9 p c=some (insS dG c p):=by
 obtain⟨d,l,h1,h2⟩:=ins_false (c:=c) p 0 []
 obtain⟨r,hr,e⟩:=bX (b:=gq p c) (n:=p.length) (s:=(false,0,[]))
  (fun i s=>s.2.1=(i:Int)/\s.2.2.length<=2*i/\l6 (fun _ (x:Cell) s=>(kq c x s).map Lp.next) (fun s=>some s) (p.drop i) i (s.1,s.2.2)=some (d,l)) (fun r=>r=(d,l)) (by omega)
  ⟨rfl,by simp,h1⟩
  (fun i s hi ⟨h1,h2,h3⟩=>by
   obtain⟨dn,a,out⟩:=s
   dsimp only at h1 h2 h3
   subst h1
   have hx:p[i]?=some p[i]:=List.getElem?_eq_getElem hi
   rw[List.drop_eq_getElem_cons hi,l6] at h3
   refine .inl ?_
   have hb:gq p c (dn,(i:Int),out)=(kq c p[i] (dn,out)).map fun s=>Lp.next (s.1,((i+1:Nat):Int),s.2):=by
    unfold gq kq
    dsimp only
    rw[bh,decide_eq_true hi,cond_true,bl,hx,bJ (by omega)]
    simp only[aX,beforeR_eq,cy]
    cases dn with
    | true =>
     simp only[Bool.not_true,cond_false,aX,Bool.false_and]
     rw[app_in (by omega)]
     rfl
    | false =>
     cases jG c p[i] with
     | true =>
      simp only[Bool.not_false,cond_true,aX,Bool.true_and]
      rw[app_in (by omega)]
      simp only[aX]
      rw[app_in (by simp; omega)]
      simp
     | false =>
      simp only[Bool.not_false,cond_true,cond_false,aX,Bool.true_and]
      rw[app_in (by omega)]
      rfl
   have hs:∃ d' out',kq c p[i] (dn,out)=some (d',out')/\out'.length<=2*(i+1):=by
    unfold kq
    cases (!dn && jG c p[i]) with
    | true=>exact⟨_,_,rfl,by simp; omega⟩
    | false=>exact⟨_,_,rfl,by simp; omega⟩
   obtain⟨d',out',e,hlen⟩:=hs
   rw[e] at hb h3
   exact⟨_,hb,rfl,hlen,h3⟩)
  (fun s ⟨h1,h2,h3⟩=>by
   obtain⟨dn,a,out⟩:=s
   dsimp only at h1 h2 h3
   subst h1
   rw[List.drop_length] at h3
   refine⟨(dn,out),?_,Option.some.inj h3⟩
   unfold gq
   dsimp only
   rw[bh,decide_eq_false (Nat.lt_irrefl _)]
   rfl)
 subst e
 have hlen:l.length<=5000000:=by
  have h4:=congrArg List.length h2
  have h5:=(pb (cf:=dG) c p).length_eq
  cases d<;>simp at h4 h5<;>omega
 unfold l9
 rw[hr]
 simp only[aX,cy]
 simp only[List.nil_append] at h2
 cases d with
 | true =>
  simp only[Bool.not_true,cond_false,aX]
  rw[<- h2]
  rfl
 | false =>
  simp only[Bool.not_false,cond_true]
  rw[app_in hlen]
  simp only[aX]
  rw[<- h2]
  rfl
def jy:List Cell->List Cell->List Cell
 | acc,[]=>acc
 | acc,c::l=>jy (insS dG c acc) l
theorem kD:∀ (l acc:List Cell),(jy acc l).Perm (acc++l)
 | [],acc=>by simp[jy]
 | c::l,acc=>by
  unfold jy
  refine (kD l _).trans ?_
  refine ((pb c acc).append_right l).trans ?_
  rw[List.cons_append]
  exact List.perm_middle.symm
theorem nf:∀ (l acc:List Cell),acc.Pairwise (fun a b=>jG a b=true)->(acc++l).Pairwise Dist->(jy acc l).Pairwise fun a b=>jG a b=true
 | [],acc,h,_=>h
 | c::l,acc,h,hd=>by
  unfold jy
  have hd':=List.pairwise_append.1 hd
  have hsym:∀ a b:Cell,Dist a b->Dist b a:=fun a b h ⟨e1,e2⟩=>h ⟨e1.symm,e2.symm⟩
  refine nf l _ (ins_sorted h fun y hy=>hsym _ _ (hd'.2.2 y hy c (by simp))) ?_
  have hp:((insS dG c acc)++l).Perm (acc++c::l):=((pb c acc).append_right l).trans (by rw[List.cons_append]; exact List.perm_middle.symm)
  exact hp.symm.pairwise hd fun{a b} h=>hsym a b h
theorem fromR_one {l:List Cell} (hl:l.length < 1099511627776) (hc:∀ c∈l,jj c.X c.Y=true/\1<=c.S/\c.S < 8):ba (iF l) bp 0=some (.inr ()):=by
 obtain⟨r,hr,e⟩:=bX (b:=iF l) (n:=l.length) (s:=0) (fun i s=>s=(i:Int)) (fun r=>r=.inr ()) hl rfl
  (fun i s hi e=>by
   subst e
   have hx:l[i]?=some l[i]:=List.getElem?_eq_getElem hi
   obtain⟨h1,h2,h3⟩:=hc l[i] (List.getElem_mem hi)
   refine .inl ⟨((i+1:Nat):Int),?_,rfl⟩
   unfold iF
   dsimp only
   rw[bh,decide_eq_true hi,cond_true,bl,hx,bJ (by omega)]
   have e1:ltB l[i].S 0=false:=decide_eq_false (by omega)
   have e2:geB l[i].S 8=false:=decide_eq_false (by omega)
   simp only[aX,placeR_eq,h1,cy,Bool.not_true,cond_false,e1,e2])
  (fun s e=>by
   subst e
   refine⟨_,?_,rfl⟩
   unfold iF
   dsimp only
   rw[bh,decide_eq_false (Nat.lt_irrefl _)]
   rfl)
 rw[hr,e]
theorem fsort_snoc:∀ (l acc:List Cell) (c:Cell),jy acc (l++[c])=insS dG c (jy acc l)
 | [],_,_=>rfl
 | x::l,acc,c=>by
  rw[List.cons_append,jy,jy,fsort_snoc l]
theorem fromR_two {l:List Cell} (hl:l.length<=1000000) (hc:∀ c∈l,c.S≠0):ba (iQ l) bp ([],0)=some (jy [] l):=by
 obtain⟨r,hr,e⟩:=bX (b:=iQ l) (n:=l.length) (s:=([],0)) (fun i s=>s=(jy [] (l.take i),(i:Int))) (fun r=>r=jy [] l) (by omega) rfl
  (fun i s hi e=>by
   subst e
   have hx:l[i]?=some l[i]:=List.getElem?_eq_getElem hi
   have h1:neB l[i].S 0=true:=by simpa [neB] using hc l[i] (List.getElem_mem hi)
   refine .inl ⟨_,?_,rfl⟩
   unfold iQ
   dsimp only
   rw[bh,decide_eq_true hi,cond_true,bl,hx,bJ (by omega)]
   have hle:(jy [] (l.take i)).length<=1000000:=by
    rw[(kD _ _).length_eq]
    simp
    omega
   simp only[aX,h1,cond_true,insert_eq hle]
   rw[List.take_add_one,hx,Option.toList_some,fsort_snoc])
  (fun s e=>by
   subst e
   refine⟨_,?_,rfl⟩
   unfold iQ
   dsimp only
   rw[bh,decide_eq_false (Nat.lt_irrefl _),List.take_length]
   rfl)
 rw[hr,e]
theorem fromR_three {y:List Cell} (hl:y.length < 1099511627776) (hs:y.Pairwise fun a b=>jG a b=true):ba (iR y) bp 1=some (.inr ()):=by
 obtain⟨r,hr,e⟩:=bX (b:=iR y) (n:=y.length - 1) (s:=1) (fun i s=>s=((i+1:Nat):Int)) (fun r=>r=.inr ()) (by omega) rfl
  (fun i s hi e=>by
   subst e
   have h0:y[i]?=some y[i]:=List.getElem?_eq_getElem (by omega)
   have h1:y[i+1]?=some y[i+1]:=List.getElem?_eq_getElem (by omega)
   refine .inl ⟨((i+1+1:Nat):Int),?_,rfl⟩
   unfold iR
   dsimp only
   rw[bh,decide_eq_true (by omega),cond_true,oN (by omega),bl,h0,bl,h1,bJ (by omega)]
   have hb:=List.pairwise_iff_getElem.1 hs i (i+1) (by omega) (by omega) (by omega)
   simp only[aX,beforeR_eq,hb,cy,Bool.not_true,cond_false])
  (fun s e=>by
   subst e
   refine⟨_,?_,rfl⟩
   unfold iR
   dsimp only
   rw[bh,decide_eq_false (by omega)]
   rfl)
 rw[hr,e]
theorem fromR_eq {l:List Cell} (hl:l.length<=1000000) (hc:∀ c∈l,jj c.X c.Y=true/\1<=c.S/\c.S < 8) (hd:l.Pairwise Dist) :
  lY l=some (bif gtB (b8 (jy [] l)) 5000 then ([],6) else (jy [] l,0)):=by
 unfold lY
 rw[fromR_one (by omega) hc]
 simp only[aX]
 rw[fromR_two hl fun c h=>by have:=(hc c h).2; omega]
 simp only[aX]
 rw[fromR_three (by rw[(kD _ _).length_eq]; simp; omega) (nf _ _ List.Pairwise.nil (by simpa using hd))]
 simp only[aX,cR]
end Go.Proofs.YtjlckgeecihpbaaGreatDoor
namespace Go.Proofs.YtjlckgeecihpbaaGreatDoor
open Go.AM Go.Proofs
theorem fit_pat {t:Tree} {p:List Cell} (h:jY t p=0):lO p=true:=by
 grind [jY]
structure BoxOk (p:List Cell) (b:Box):Prop where
 inn:∀ c∈p,b.X<=c.X/\c.X < b.X+b.W/\b.Y<=c.Y/\c.Y < b.Y+b.H
 xl:-1048576<=b.X
 xh:b.X+b.W<=1048577
 yl:-1048576<=b.Y
 yh:b.Y+b.H<=1048577
 wh:(b.W=0/\b.H=0) \/ (1<=b.W/\1<=b.H)
theorem box_loop {p:List Cell} (h:Pat p) {c0:Cell} (h0:p[0]?=some c0):∃ x1 y r bt,ba (jv p) bp (c0.X,c0.Y,c0.X,c0.Y,0)=some (x1,y,r,bt) /\
  (∀ c∈p,x1<=c.X/\c.X<=r/\y<=c.Y/\c.Y<=bt)/\-1048576<=x1/\x1<=r/\r<=1048576/\-1048576<=y/\y<=bt/\bt<=1048576:=by
 have hl:=h.len
 have hc0:=(h.cell c0 (List.mem_of_getElem? h0)).1
 obtain⟨t,ht,hq⟩:=bX (b:=jv p) (n:=p.length) (s:=(c0.X,c0.Y,c0.X,c0.Y,0))
  (fun i s=>s.2.2.2.2=(i:Int)/\(∀ j < i,∀ c,p[j]?=some c->s.1<=c.X/\c.X<=s.2.2.1/\s.2.1<=c.Y/\c.Y<=s.2.2.2.1)/\-1048576<=s.1/\s.1<=s.2.2.1/\s.2.2.1<=1048576/\-1048576<=s.2.1/\s.2.1<=s.2.2.2.1/\s.2.2.2.1<=1048576)
  (fun t=>(∀ c∈p,t.1<=c.X/\c.X<=t.2.2.1/\t.2.1<=c.Y/\c.Y<=t.2.2.2)/\-1048576<=t.1/\t.1<=t.2.2.1/\t.2.2.1<=1048576/\-1048576<=t.2.1/\t.2.1<=t.2.2.2/\t.2.2.2<=1048576) (by omega)
  ⟨rfl,fun j hj=>by omega,by dsimp only; omega⟩
  (fun i s hi ⟨h1,h2,h3⟩=>by
   obtain⟨x1,y,r,bt,a⟩:=s
   dsimp only at h1 h2 h3
   subst h1
   have hx:p[i]?=some p[i]:=List.getElem?_eq_getElem hi
   have hc:=(h.cell p[i] (List.getElem_mem hi)).1
   have a1:=imin_is x1 p[i].X
   have a2:=imin_is y p[i].Y
   have a3:=oC r p[i].X
   have a4:=oC bt p[i].Y
   refine .inl ⟨(nB x1 p[i].X,nB y p[i].Y,fB r p[i].X,fB bt p[i].Y,((i+1:Nat):Int)),?_,rfl,?_,?_⟩
   ·unfold jv
    dsimp only
    rw[bh,decide_eq_true hi,cond_true,bl,hx,bJ (by omega)]
    rfl
   ·intro j hj c hcj
    dsimp only
    rcases Nat.lt_succ_iff_lt_or_eq.1 hj with hj | rfl
    ·grind
    simp_all
   grind)
  (fun s ⟨h1,h2,h3⟩=>by
   obtain⟨x1,y,r,bt,a⟩:=s
   dsimp only at h1 h2 h3
   subst h1
   refine⟨(x1,y,r,bt),?_,fun c hc=>?_,h3⟩
   ·simp[jv,bh]
   grind [List.mem_iff_getElem?])
 grind
theorem box_eq {p:List Cell} (hp:lO p=true):∃ b:Box×Bool,p7 p=some b/\BoxOk p b.1:=by
 have h:=pat_of hp
 unfold p7
 cases p with
 | nil=>exact⟨_,rfl,⟨fun c hc=>by simp at hc,by decide,by decide,by decide,by decide,.inl ⟨rfl,rfl⟩⟩⟩
 | cons c0 p =>
  have e1:eqB (b8 (c0::p)) 0=false:=by
   rfl
  rw[e1,patR_eq (by have:=h.len; omega),hp]
  simp only[cond_false,aX,cy,Bool.not_true]
  obtain⟨x1,y,r,bt,hl,hall,hb⟩:=box_loop h (c0:=c0) rfl
  have e2:idx (c0::p) 0=some c0:=rfl
  rw[e2]
  simp only[aX]
  rw[hl]
  simp only[aX]
  rw[fN (by omega),fN (by omega),cw (by omega),cw (by omega)]
  refine⟨_,rfl,⟨fun c hc=>?_,?_,?_,?_,?_,.inr ?_⟩⟩
  ·grind
  all_goals (dsimp only; omega)
theorem mul_in {W H u v:Int} (hu:0<=u) (hu':u < W) (hv:0<=v) (hv':v < H):0<=v*W/\v*W+u < W*H:=by
 have h1:v*W<=(H - 1)*W:=Int.mul_le_mul_of_nonneg_right (by omega) (by omega)
 have h2:(H - 1)*W=W*H - W:=by grind
 exact⟨Int.mul_nonneg hv (by omega),by omega⟩
theorem mul_inj {W u v u' v':Int} (hu:0<=u) (hu1:u < W) (hu':0<=u') (hu1':u' < W) (h:v*W+u=v'*W+u'):v=v'/\u=u':=by
 have key:∀ a b:Int,a < b->a*W+W<=b*W:=fun a b hab=>by
  have h1:(a+1)*W<=b*W:=Int.mul_le_mul_of_nonneg_right (by omega) (by omega)
  grind
 have hv:v=v':=by
  rcases Int.lt_trichotomy v v' with hlt | he | hgt
  ·grind
  ·exact he
  ·have:=key v' v hgt; omega
 simp_all
theorem area_le {b:Box} (hw:0<=b.W) (hw':b.W<=2097153) (hh:0<=b.H) (hh':b.H<=2097153):0<=b.W*b.H/\b.W*b.H<=4398050705409:=by
 have h1:b.W*b.H<=2097153*b.H:=Int.mul_le_mul_of_nonneg_right hw' hh
 exact⟨Int.mul_nonneg hw hh,by omega⟩
theorem get_eq {p:List Cell} (hl:p.length<=5000) (x y:Int):pp p x y=some (dc p x y):=by
 obtain⟨r,hr,hq⟩:=bX (b:=jH p x y) (n:=p.length) (s:=0) (fun i s=>s=(i:Int)/\dc p x y=dc (p.drop i) x y) (fun r=>r=.inl (dc p x y) \/ (r=.inr ()/\dc p x y=0)) (by omega)
  ⟨rfl,rfl⟩
  (fun i s hi ⟨h1,h2⟩=>by
   subst h1
   have hx:p[i]?=some p[i]:=List.getElem?_eq_getElem hi
   obtain⟨r,hb⟩:∃ r,jH p x y (i:Int)=r:=⟨_,rfl⟩
   rw[hb]
   unfold jH at hb
   dsimp only at hb
   rw[bh,decide_eq_true hi,cond_true,bl,hx,bJ (by omega)] at hb
   simp only[aX,cR,lS,eqB] at hb
   rw[List.drop_eq_getElem_cons hi] at h2
   unfold dc at h2
   rw[List.find?_cons] at h2
   cases hc:(p[i].X == x && p[i].Y == y) with
   | true =>
    rw[hc] at hb h2
    simp only[cond_true] at hb
    grind [dc]
   | false =>
    rw[hc] at hb h2
    exact .inl ⟨_,hb.symm,rfl,h2⟩)
  (fun s ⟨h1,h2⟩=>by
   subst h1
   refine⟨_,?_,.inr ⟨rfl,by rw[h2,List.drop_length]; rfl⟩⟩
   simp[jH,bh])
 unfold pp
 grind
theorem getS_out {p:List Cell} {x y:Int} (h:∀ c∈p,¬ (c.X=x/\c.Y=y)):dc p x y=0:=by
 apply Classical.byContradiction
 grind [getS_mem]
theorem states_loop {p:List Cell} (h:Pat p) {b:Box×Bool} (hb:BoxOk p b.1) (ha:b.1.W*b.1.H<=40000):∃ l,ba (gp p b) bp (0,List.replicate (b.1.W*b.1.H).toNat 0)=some l /\
  ∀ u v:Int,0<=u->u < b.1.W->0<=v->v < b.1.H->l[(v*b.1.W+u).toNat]?=some (dc p (b.1.X+u) (b.1.Y+v)):=by
 have hl:=h.len
 have hbx:=hb.xl; have hbx':=hb.xh; have hby:=hb.yl; have hby':=hb.yh; have hbwh:=hb.wh
 obtain⟨t,ht,hq⟩:=bX (b:=gp p b) (n:=p.length) (s:=(0,List.replicate (b.1.W*b.1.H).toNat 0))
  (fun i s=>s.1=(i:Int)/\s.2.length=(b.1.W*b.1.H).toNat/\∀ u v:Int,0<=u->u < b.1.W->0<=v->v < b.1.H->s.2[(v*b.1.W+u).toNat]?=some (dc (p.take i) (b.1.X+u) (b.1.Y+v)))
  (fun l=>∀ u v:Int,0<=u->u < b.1.W->0<=v->v < b.1.H->l[(v*b.1.W+u).toNat]?=some (dc p (b.1.X+u) (b.1.Y+v))) (by omega)
  ⟨rfl,by simp,fun u v hu hu' hv hv'=>by
   have:=mul_in hu hu' hv hv'
   rw[List.getElem?_replicate,if_pos (by omega)]
   rfl⟩
  (fun i s hi ⟨h1,h2,h3⟩=>by
   obtain⟨a,l⟩:=s
   dsimp only at h1 h2 h3
   subst h1
   have hx:p[i]?=some p[i]:=List.getElem?_eq_getElem hi
   have hc:=hb.inn p[i] (List.getElem_mem hi)
   have hm:=mul_in (W:=b.1.W) (H:=b.1.H) (u:=p[i].X - b.1.X) (v:=p[i].Y - b.1.Y) (by omega) (by omega) (by omega) (by omega)
   have hidx:bL .i64 (bo .i64 (ck .i64 (bL .i64 p[i].Y b.1.Y) b.1.W) p[i].X) b.1.X=(p[i].Y - b.1.Y)*b.1.W+(p[i].X - b.1.X):=by
    rw[fN (a:=p[i].Y) (by omega),jm (by omega),cw (by omega),fN (by omega)]
    omega
   have hlt:((p[i].Y - b.1.Y)*b.1.W+(p[i].X - b.1.X)).toNat < l.length:=by omega
   refine .inl ⟨(((i+1:Nat):Int),l.set ((p[i].Y - b.1.Y)*b.1.W+(p[i].X - b.1.X)).toNat p[i].S),?_,rfl,by simpa using h2,fun u v hu hu' hv hv'=>?_⟩
   ·unfold gp
    dsimp only
    rw[bh,decide_eq_true hi,cond_true,bl,hx,bJ (by omega)]
    simp only[aX]
    rw[hidx,gx _ (by omega),List.getElem?_eq_getElem hlt]
    rfl
   ·dsimp only
    rw[List.getElem?_set]
    have hm':=mul_in hu hu' hv hv'
    rw[List.take_add_one,hx,Option.toList_some,getS_snoc]
    ·by_cases he:p[i].X=b.1.X+u/\p[i].Y=b.1.Y+v
     ·grind
     ·rw[if_neg he,if_neg,h3 u v hu hu' hv hv']
      intro hk
      apply he
      have:=mul_inj (W:=b.1.W) (u:=p[i].X - b.1.X) (v:=p[i].Y - b.1.Y) (u':=u) (v':=v) (by omega) (by omega) hu hu' (by omega)
      omega
    ·intro d hd ⟨e1,e2⟩
     obtain⟨j,hj⟩:=List.mem_iff_getElem?.1 hd
     rw[List.getElem?_take] at hj
     split at hj
     ·rename_i hji
      obtain⟨hjl,rfl⟩:=List.getElem?_eq_some_iff.1 hj
      have:=List.pairwise_iff_getElem.1 h.sorted j i hjl hi hji
      rw[lj] at this
      omega
     ·cases hj)
  (fun s ⟨h1,h2,h3⟩=>by
   simp_all [gp,bh])
 grind
def Near2 (x y:Int):Prop:=-1048700<=x/\x<=1048700/\-1048700<=y/\y<=1048700
structure FieldOk (p:List Cell) (f:Bl):Prop where
 list:f.list=p
 box:BoxOk p f.box
 flat:f.flat=true->f.box.W*f.box.H<=40000
 at_:∀ x y,Near2 x y->i8 f x y=some (dc p x y)
theorem states_eq {p:List Cell} (hp:lO p=true):∃ f,ls p=some f/\FieldOk p f:=by
 have h:=pat_of hp
 obtain⟨b,hb,hB⟩:=box_eq hp
 have hbx:=hB.xl; have hbx':=hB.xh; have hby:=hB.yl; have hby':=hB.yh; have hbwh:=hB.wh
 have har:=area_le (b:=b.1) (by omega) (by omega) (by omega) (by omega)
 unfold ls
 rw[hb]
 simp only[aX]
 rw[jm (by omega)]
 by_cases ha:b.1.W*b.1.H<=40000
 ·have e:leB (b.1.W*b.1.H) 40000=true:=decide_eq_true ha
  rw[e]
  simp only[cy,Bool.not_true,cond_false]
  have em:mkL 8 (b.1.W*b.1.H) (b.1.W*b.1.H) (0:Nat)=some (List.replicate (b.1.W*b.1.H).toNat 0):=by
   unfold mkL
   grind
  rw[em]
  obtain⟨l,hl,hall⟩:=states_loop h hB ha
  simp only[aX]
  rw[hl]
  refine⟨_,rfl,rfl,hB,fun _=>ha,fun x y hn=>?_⟩
  unfold Near2 at hn
  unfold i8
  simp only[cy,Bool.not_true,cond_false]
  rw[cw (by omega),cw (by omega)]
  simp only[cR,cZ,aX]
  by_cases hin:b.1.X<=x/\x < b.1.X+b.1.W/\b.1.Y<=y/\y < b.1.Y+b.1.H
  ·have e1:(ltB x b.1.X || (geB x (b.1.X+b.1.W) || (ltB y b.1.Y || geB y (b.1.Y+b.1.H))))=false:=by
    grind [ltB,geB]
   rw[e1]
   simp only[cond_false]
   have hm:=mul_in (W:=b.1.W) (H:=b.1.H) (u:=x - b.1.X) (v:=y - b.1.Y) (by omega) (by omega) (by omega) (by omega)
   have hidx:bL .i64 (bo .i64 (ck .i64 (bL .i64 y b.1.Y) b.1.W) x) b.1.X=(y - b.1.Y)*b.1.W+(x - b.1.X):=by
    rw[fN (a:=y) (by omega),jm (by omega),cw (by omega),fN (by omega)]
    omega
   have hg:=hall (x - b.1.X) (y - b.1.Y) (by omega) (by omega) (by omega) (by omega)
   grind [gx]
  ·have e1:(ltB x b.1.X || (geB x (b.1.X+b.1.W) || (ltB y b.1.Y || geB y (b.1.Y+b.1.H))))=true:=by
    unfold ltB geB
    grind
   rw[e1]
   simp only[cond_true]
   rw[getS_out]
   intro c hc ⟨e1,e2⟩
   have:=hB.inn c hc
   omega
 ·have e:leB (b.1.W*b.1.H) 40000=false:=decide_eq_false ha
  rw[e]
  simp only[cy,Bool.not_false,cond_true]
  refine⟨_,rfl,rfl,hB,(fun h=>by cases h),fun x y _=>?_⟩
  unfold i8
  simp only[cy,Bool.not_false,cond_true]
  rw[get_eq h.len]
  rfl
theorem nextR_eq {t:Tree} {p:List Cell} (h:Fit t p) (hs:Sz t) {f:Bl} (hf:FieldOk p f) {x y:Int} (hq:Near x y):nv t f x y=some (kE t p x y):=by
 have h25:=h.ok.h25
 unfold Near at hq
 obtain⟨r,hr,e⟩:=bX (b:=jQ t f x y) (n:=t.Hood.length) (s:=(0,[])) (fun i s=>s=((i:Int),(t.Hood.take i).map fun o=>dc p (x+o.X) (y+o.Y))) (fun r=>r=t.Hood.map fun o=>dc p (x+o.X) (y+o.Y)) (by omega) rfl
  (fun i s hi e=>by
   subst e
   have ho:t.Hood[i]?=some t.Hood[i]:=List.getElem?_eq_getElem hi
   have hi':=hood_in h.ok (List.getElem_mem hi)
   refine .inl ⟨_,?_,rfl⟩
   unfold jQ
   dsimp only
   rw[bh,decide_eq_true hi,cond_true,bl,ho,bJ (by omega)]
   simp only[aX]
   rw[cw (by omega),cw (by omega),hf.at_ _ _ (by unfold Near2; omega)]
   have ea:∀ d:Int,eT 8 (List.map (fun o:Point=>dc p (x+o.X) (y+o.Y)) (List.take i t.Hood)) [d]=some (List.map (fun o:Point=>dc p (x+o.X) (y+o.Y)) (List.take i t.Hood)++[d]):=fun d=>by
    unfold eT
    grind
   grind [List.take_add_one])
  (fun s e=>by
   subst e
   refine⟨_,?_,rfl⟩
   simp[jQ,bh])
 grind [nv,valueR_eq,newS_eq]
end Go.Proofs.YtjlckgeecihpbaaGreatDoor
namespace Go.Proofs.YtjlckgeecihpbaaGreatDoor
open Go.AM Go.Proofs
structure NearOk (p:List Cell) (l:List Point):Prop where
 dist:l.Pairwise fun a b=>¬ (a.X=b.X/\a.Y=b.Y)
 inn:∀ q∈l,Near q.X q.Y
 all:∀ c∈p,∀ q:Point,c.X - 2<=q.X->q.X<=c.X+2->c.Y - 2<=q.Y->q.Y<=c.Y+2->q∈l
 len:l.length<=400000
theorem app_pt {l:List Point} (hl:l.length<=5000000) (d:Point):eT 16 l [d]=some (l++[d]):=by
 unfold eT
 grind
structure BoxIn (b:Box):Prop where
 xl:-1048576<=b.X
 xh:b.X+b.W<=1048577
 yl:-1048576<=b.Y
 yh:b.Y+b.H<=1048577
 w0:0<=b.W
 h0:0<=b.H
 area:(b.H+4)*(b.W+4)<=400000
def InB (b:Box) (q:Point):Prop:=b.X - 2<=q.X/\q.X < b.X+b.W+2/\b.Y - 2<=q.Y/\q.Y < b.Y+b.H+2
structure Scan (b:Box) (x y:Int) (l:List Point) (k:Int):Prop where
 dist:l.Pairwise fun a b=>¬ (a.X=b.X/\a.Y=b.Y)
 mem:∀ q,q∈l↔InB b q/\(q.Y < y \/ (q.Y=y/\q.X < x))
 len:(l.length:Int)<=k
theorem scan_row {f:Bl} (hb:BoxIn f.box) {y:Int} (hy:f.box.Y - 2<=y) (hy':y < f.box.Y+f.box.H+2) {l:List Point} {k:Int} (hk:k+(f.box.W+4)<=400000) (hk0:0<=k) (h:Scan f.box (f.box.X - 2) y l k) :
  ∃ l',ba (eh f y l) bp (bL .i64 f.box.X 2,l)=some l'/\Scan f.box (f.box.X - 2) (y+1) l' (k+(f.box.W+4)):=by
 have hx:=hb.xl; have hx':=hb.xh; have hw:=hb.w0
 obtain⟨t,ht,hq⟩:=bX (b:=eh f y l) (n:=(f.box.W+4).toNat) (s:=(bL .i64 f.box.X 2,l))
  (fun i s=>s.1=f.box.X - 2+(i:Int)/\Scan f.box s.1 y s.2 (k+i)) (fun l'=>Scan f.box (f.box.X - 2) (y+1) l' (k+(f.box.W+4))) (by omega)
  (by
   grind [fN])
  (fun i s hi ⟨h1,h2⟩=>by
   obtain⟨x,out⟩:=s
   dsimp only at h1 h2
   have hlen:=h2.len
   refine .inl ⟨(x+1,out++[⟨x,y⟩]),?_,by dsimp only; omega,?_,?_,?_⟩
   ·grind [eh,cw,ltB,app_pt]
   ·refine List.pairwise_append.2 ⟨h2.dist,List.pairwise_singleton _ _,fun q hq e he=>?_⟩
    rw[List.mem_singleton] at he
    subst he
    have:=((h2.mem q).1 hq).2
    dsimp only
    omega
   ·intro q
    dsimp only
    rw[List.mem_append,List.mem_singleton,h2.mem q]
    unfold InB
    constructor
    ·grind
    ·intro hq
     by_cases he:q.Y=y/\q.X=x
     ·right
      cases q
      simp_all
     ·left
      omega
   grind)
  (fun s ⟨h1,h2⟩=>by
   obtain⟨x,out⟩:=s
   dsimp only at h1 h2
   refine⟨out,?_,h2.dist,fun q=>?_,by have:=h2.len; omega⟩
   ·grind [eh,cw,ltB]
   ·rw[h2.mem q]
    unfold InB
    omega)
 grind
theorem scan_all {f:Bl} (hb:BoxIn f.box):∃ l,ba (ej f) bp (bL .i64 f.box.Y 2,[])=some l/\Scan f.box (f.box.X - 2) (f.box.Y+f.box.H+2) l 400000:=by
 have hx:=hb.yl; have hx':=hb.yh; have hw:=hb.h0
 have ha:=hb.area
 have hw0:=hb.w0
 obtain⟨t,ht,hq⟩:=bX (b:=ej f) (n:=(f.box.H+4).toNat) (s:=(bL .i64 f.box.Y 2,[]))
  (fun i s=>s.1=f.box.Y - 2+(i:Int)/\Scan f.box (f.box.X - 2) s.1 s.2 ((i:Int)*(f.box.W+4))) (fun l'=>Scan f.box (f.box.X - 2) (f.box.Y+f.box.H+2) l' 400000) (by omega)
  (by
   rw[fN (by omega)]
   refine⟨by simp,List.Pairwise.nil,fun q=>?_,by simp⟩
   simp_all [InB])
  (fun i s hi ⟨h1,h2⟩=>by
   obtain⟨y,out⟩:=s
   dsimp only at h1 h2
   have hm:((i:Int)+1)*(f.box.W+4)<=(f.box.H+4)*(f.box.W+4):=Int.mul_le_mul_of_nonneg_right (by omega) (by omega)
   have hm0:0<=(i:Int)*(f.box.W+4):=Int.mul_nonneg (by omega) (by omega)
   have hm1:((i:Int)+1)*(f.box.W+4)=(i:Int)*(f.box.W+4)+(f.box.W+4):=by grind
   obtain⟨l',hl,hs⟩:=scan_row hb (y:=y) (by omega) (by omega) (by omega) hm0 h2
   refine .inl ⟨(y+1,l'),?_,by dsimp only; omega,by
    simp_all⟩
   grind [ej,cw,ltB])
  (fun s ⟨h1,h2⟩=>by
   obtain⟨y,out⟩:=s
   dsimp only at h1 h2
   have hy:y=f.box.Y+f.box.H+2:=by omega
   subst hy
   refine⟨out,?_,h2.dist,h2.mem,?_⟩
   ·grind [ej,cw,ltB]
   ·have:=h2.len
    grind)
 grind
theorem boxIn_of {p:List Cell} {b:Box} (h:BoxOk p b) (ha:b.W*b.H<=40000):BoxIn b:=by
 have hwh:=h.wh
 refine⟨h.xl,h.xh,h.yl,h.yh,by omega,by omega,?_⟩
 have e:(b.H+4)*(b.W+4)=b.W*b.H+4*b.H+4*b.W+16:=by
  grind
 rw[e]
 rcases hwh with ⟨h1,h2⟩ | ⟨h1,h2⟩
 ·omega
 ·have a1:b.W*1<=b.W*b.H:=Int.mul_le_mul_of_nonneg_left h2 (by omega)
  have a2:1*b.H<=b.W*b.H:=Int.mul_le_mul_of_nonneg_right h1 (by omega)
  omega
def By2 (c:Cell) (q:Point):Prop:=c.X - 2<=q.X/\q.X<=c.X+2/\c.Y - 2<=q.Y/\q.Y<=c.Y+2
theorem earlier_eq {p:List Cell} (h:Pat p) {f:Bl} (hf:f.list=p) {n:Nat} (hn:n<=p.length) {q:Point} (hq:Near q.X q.Y):∃ r,fy f (n:Int) q=some r/\(r=true↔∃ j < n,∃ c,p[j]?=some c/\By2 c q):=by
 have hl:=h.len
 unfold Near at hq
 have habs:∀ d:Int,-3000000<=d->d<=3000000->(leB (fB d (cz .i64 d)) 2=decide (-2<=d/\d<=2)):=fun d h1 h2=>by
  have e:cz .i64 d=-d:=by
   grind [cz,i64_in]
  rw[e]
  unfold leB fB
  grind
 obtain⟨t,ht,hr⟩:=bX (b:=dl f (n:Int) q) (n:=n) (s:=0) (fun i s=>s=(i:Int)/\¬ ∃ j < i,∃ c,p[j]?=some c/\By2 c q)
  (fun t=>(t=.inl true/\∃ j < n,∃ c,p[j]?=some c/\By2 c q) \/ (t=.inr ()/\¬ ∃ j < n,∃ c,p[j]?=some c/\By2 c q)) (by omega)
  ⟨rfl,fun⟨j,hj,_⟩=>by omega⟩
  (fun i s hi ⟨h1,h2⟩=>by
   subst h1
   have hx:p[i]?=some (p[i]'(by omega)):=List.getElem?_eq_getElem (by omega)
   have hc:=(h.cell (p[i]'(by omega)) (List.getElem_mem _)).1
   obtain⟨r,hb⟩:∃ r,dl f (n:Int) q (i:Int)=r:=⟨_,rfl⟩
   rw[hb]
   unfold dl at hb
   dsimp only at hb
   have e:ltB (i:Int) (n:Int)=true:=decide_eq_true (by omega)
   rw[e,cond_true,hf,bl,hx,bJ (by omega)] at hb
   simp only[aX] at hb
   rw[fN (by omega),fN (by omega),habs _ (by omega) (by omega),habs _ (by omega) (by omega)] at hb
   simp only[cR,lS,aX] at hb
   by_cases hby:By2 (p[i]'(by omega)) q
   ·have e:(decide (-2<=q.X - (p[i]'(by omega)).X/\q.X - (p[i]'(by omega)).X<=2) && decide (-2<=q.Y - (p[i]'(by omega)).Y/\q.Y - (p[i]'(by omega)).Y<=2))=true:=by
     unfold By2 at hby
     grind
    grind
   ·have e:(decide (-2<=q.X - (p[i]'(by omega)).X/\q.X - (p[i]'(by omega)).X<=2) && decide (-2<=q.Y - (p[i]'(by omega)).Y/\q.Y - (p[i]'(by omega)).Y<=2))=false:=by
     rw[Bool.eq_false_iff]
     unfold By2 at hby
     grind
    grind)
  (fun s ⟨h1,h2⟩=>by
   subst h1
   refine⟨_,?_,.inr ⟨rfl,h2⟩⟩
   simp[dl,ltB])
 unfold fy
 rw[ht]
 rcases hr with ⟨rfl,h2⟩ | ⟨rfl,h2⟩
 ·simp_all
 ·exact⟨false,rfl,by simpa using h2⟩
structure Far (p:List Cell) (i:Nat) (c:Cell) (x y:Int) (l:List Point) (k:Int):Prop where
 dist:l.Pairwise fun a b=>¬ (a.X=b.X/\a.Y=b.Y)
 mem:∀ q,q∈l↔(∃ j < i,∃ c,p[j]?=some c/\By2 c q) \/ (By2 c q/\(q.Y < c.Y+y \/ (q.Y=c.Y+y/\q.X < c.X+x)))
 len:(l.length:Int)<=k
theorem far_row {p:List Cell} (h:Pat p) {f:Bl} (hf:f.list=p) {i:Nat} {c:Cell} (hi:p[i]?=some c) {y:Int} (hy:-2<=y) (hy':y<=2) {l o:List Point} {k:Int} (hk:k<=200000) (hF:Far p i c (-2) y l k) :
  ∃ l',ba (dD f (i:Int) o y) bp (-2,l)=some l'/\Far p i c (-2) (y+1) l' (k+5):=by
 have hl:=h.len
 have hil:=bq hi
 have hc:=(h.cell c (List.mem_of_getElem? hi)).1
 obtain⟨t,ht,hq⟩:=bX (b:=dD f (i:Int) o y) (n:=5) (s:=(-2,l)) (fun j s=>s.1=-2+(j:Int)/\Far p i c s.1 y s.2 (k+j)) (fun l'=>Far p i c (-2) (y+1) l' (k+5)) (by omega)
  ⟨by simp,by simpa using hF⟩
  (fun j s hj ⟨h1,h2⟩=>by
   obtain⟨x,out⟩:=s
   dsimp only at h1 h2
   have hlen:=h2.len
   obtain⟨r,hr,hr'⟩:=earlier_eq h hf (n:=i) (by omega) (q:=⟨c.X+x,c.Y+y⟩) (by grind [Near])
   obtain⟨w,hb⟩:∃ w,dD f (i:Int) o y (x,out)=w:=⟨_,rfl⟩
   rw[hb]
   unfold dD at hb
   dsimp only at hb
   have e:leB x 2=true:=decide_eq_true (by omega)
   rw[e,cond_true,hf,bl,hi] at hb
   simp only[aX] at hb
   rw[cw (a:=c.X) (by omega),cw (a:=c.Y) (by omega),cw (a:=x) (by omega),hr] at hb
   simp only[aX,cy] at hb
   cases r with
   | true =>
    simp only[Bool.not_true,cond_false,aX] at hb
    refine .inl ⟨_,hb.symm,by dsimp only; omega,h2.dist,fun q=>?_,by dsimp only; omega⟩
    dsimp only
    rw[h2.mem q]
    have hin:=hr'.1 rfl
    constructor
    ·grind
    ·rintro (hq | ⟨hq,hq'⟩)
     ·exact .inl hq
     ·by_cases he:q.Y=c.Y+y/\q.X=c.X+x
      ·left
       have:q=⟨c.X+x,c.Y+y⟩:=by cases q; simp_all
       grind
      grind
   | false =>
    simp only[Bool.not_false,cond_true] at hb
    rw[app_pt (by omega)] at hb
    simp only[aX] at hb
    have hnin:¬ ∃ j < i,∃ c',p[j]?=some c'/\By2 c' ⟨c.X+x,c.Y+y⟩:=fun hh=>by cases hr'.2 hh
    refine .inl ⟨_,hb.symm,by dsimp only; omega,?_,fun q=>?_,?_⟩
    ·refine List.pairwise_append.2 ⟨h2.dist,List.pairwise_singleton _ _,fun q hq e he=>?_⟩
     rw[List.mem_singleton] at he
     subst he
     rintro⟨e1,e2⟩
     dsimp only at e1 e2
     rcases (h2.mem q).1 hq with hq | ⟨_,hq⟩
     ·apply hnin
      have:q=⟨c.X+x,c.Y+y⟩:=by cases q; simp_all
      simp_all
     ·omega
    ·dsimp only
     rw[List.mem_append,List.mem_singleton,h2.mem q]
     constructor
     ·rintro ((hq | ⟨hq,hq'⟩) | rfl)
      ·exact .inl hq
      ·grind
      grind [By2]
     ·rintro (hq | ⟨hq,hq'⟩)
      ·grind
      ·by_cases he:q.Y=c.Y+y/\q.X=c.X+x
       ·right
        cases q
        simp_all
       grind
    grind)
  (fun s ⟨h1,h2⟩=>by
   obtain⟨x,out⟩:=s
   dsimp only at h1 h2
   refine⟨out,?_,h2.dist,fun q=>?_,by have:=h2.len; omega⟩
   ·simp_all [dD,leB]
   ·rw[h2.mem q]
    grind [By2])
 grind
theorem far_cell {p:List Cell} (h:Pat p) {f:Bl} (hf:f.list=p) {i:Nat} {c:Cell} (hi:p[i]?=some c) {l:List Point} {k:Int} (hk:k<=150000) (hF:Far p i c (-2) (-2) l k) :
  ∃ l',ba (eR f (i:Int) l) bp (-2,l)=some l'/\Far p i c (-2) 3 l' (k+25):=by
 obtain⟨t,ht,hq⟩:=bX (b:=eR f (i:Int) l) (n:=5) (s:=(-2,l)) (fun j s=>s.1=-2+(j:Int)/\Far p i c (-2) s.1 s.2 (k+5*j)) (fun l'=>Far p i c (-2) 3 l' (k+25)) (by omega)
  ⟨by simp,by simpa using hF⟩
  (fun j s hj ⟨h1,h2⟩=>by
   obtain⟨y,out⟩:=s
   dsimp only at h1 h2
   obtain⟨l',hl,hs⟩:=far_row h hf hi (y:=y) (by omega) (by omega) (o:=l) (by omega) h2
   refine .inl ⟨(y+1,l'),?_,by dsimp only; omega,by
    grind⟩
   grind [eR,leB,cw])
  (fun s ⟨h1,h2⟩=>by
   obtain⟨y,out⟩:=s
   dsimp only at h1 h2
   have hy:y=3:=by omega
   subst hy
   exact⟨out,rfl,by simpa using h2⟩)
 grind
theorem far_all {p:List Cell} (h:Pat p) {f:Bl} (hf:f.list=p):∃ l,ba (ef f) bp (0,[])=some l/\l.Pairwise (fun a b=>¬ (a.X=b.X/\a.Y=b.Y))/\(∀ q,q∈l↔∃ c∈p,By2 c q)/\l.length<=125000:=by
 have hl:=h.len
 obtain⟨t,ht,hq⟩:=bX (b:=ef f) (n:=p.length) (s:=(0,[])) (fun i s=>s.1=(i:Int)/\s.2.Pairwise (fun a b=>¬ (a.X=b.X/\a.Y=b.Y))/\(∀ q,q∈s.2↔∃ j < i,∃ c,p[j]?=some c/\By2 c q)/\s.2.length<=25*i)
  (fun l=>l.Pairwise (fun a b=>¬ (a.X=b.X/\a.Y=b.Y))/\(∀ q,q∈l↔∃ c∈p,By2 c q)/\l.length<=125000) (by omega)
  ⟨rfl,List.Pairwise.nil,fun q=>⟨fun hq=>by simp at hq,fun⟨j,hj,_⟩=>by omega⟩,by simp⟩
  (fun i s hi ⟨h1,h2,h3,h4⟩=>by
   obtain⟨a,out⟩:=s
   dsimp only at h1 h2 h3 h4
   subst h1
   have hx:p[i]?=some p[i]:=List.getElem?_eq_getElem hi
   obtain⟨l',hl',hF⟩:=far_cell h hf hx (l:=out) (k:=25*i) (by omega) ⟨h2,fun q=>by
    grind [By2],by omega⟩
   refine .inl ⟨(((i+1:Nat):Int),l'),?_,rfl,hF.dist,fun q=>?_,by have:=hF.len; dsimp only; omega⟩
   ·unfold ef
    dsimp only
    rw[hf,bh,decide_eq_true hi,cond_true,bJ (by omega),hl']
    rfl
   ·dsimp only
    rw[hF.mem q]
    constructor
    ·grind
    ·rintro⟨j,hj,c,hc,hq⟩
     rcases Nat.lt_succ_iff_lt_or_eq.1 hj with hj | rfl
     ·grind
     grind [By2])
  (fun s ⟨h1,h2,h3,h4⟩=>by
   obtain⟨a,out⟩:=s
   dsimp only at h1 h2 h3 h4
   subst h1
   refine⟨out,?_,h2,fun q=>?_,by omega⟩
   ·simp_all [ef,bh]
   grind [List.mem_iff_getElem?])
 grind
theorem near_eq {p:List Cell} (h:Pat p) {f:Bl} (hf:FieldOk p f):∃ l,ig f=some l/\NearOk p l:=by
 unfold ig
 cases hfl:f.flat with
 | true =>
  have hb:=boxIn_of hf.box (hf.flat hfl)
  obtain⟨l,hl,hS⟩:=scan_all hb
  have b1:=hb.xl; have b2:=hb.xh; have b3:=hb.yl; have b4:=hb.yh
  simp only[cond_true]
  rw[hl]
  refine⟨l,rfl,hS.dist,fun q hq=>?_,fun c hc q h1 h2 h3 h4=>?_,by have:=hS.len; omega⟩
  ·have:=((hS.mem q).1 hq).1
   grind [InB,Near]
  ·refine (hS.mem q).2 ?_
   have:=hf.box.inn c hc
   unfold InB
   omega
 | false =>
  obtain⟨l,hl,hd,hm,hlen⟩:=far_all h hf.list
  simp only[cond_false]
  rw[hl]
  refine⟨l,rfl,hd,fun q hq=>?_,fun c hc q h1 h2 h3 h4=>(hm q).2 ⟨c,hc,h1,h2,h3,h4⟩,by omega⟩
  obtain⟨c,hc,hb⟩:=(hm q).1 hq
  have:=(h.cell c hc).1
  grind [By2,Near]
theorem validR_eq (x y:Int):me x y=some (jj x y):=by
 unfold me jj
 grind
theorem stepR_loop {t:Tree} {p:List Cell} (h:Fit t p) (hs:Sz t) {f:Bl} (hf:FieldOk p f) {N:List Point} (hN:NearOk p N) :
  ∃ out l,ba (gM t f N) bp (false,0,[])=some (out,l)/\(out=true↔∃ q∈N,kE t p q.X q.Y≠0/\jj q.X q.Y=false)/\(∀ c,c∈l↔(⟨c.X,c.Y⟩:Point)∈N/\c.S=kE t p c.X c.Y/\c.S≠0)/\l.Pairwise Dist/\l.length<=400000:=by
 have hlen:=hN.len
 obtain⟨r,hr,hq⟩:=bX (b:=gM t f N) (n:=N.length) (s:=(false,0,[]))
  (fun i s=>s.2.1=(i:Int)/\(s.1=true↔∃ j < i,∃ q,N[j]?=some q/\kE t p q.X q.Y≠0/\jj q.X q.Y=false)/\(∀ c,c∈s.2.2↔(∃ j < i,N[j]?=some (⟨c.X,c.Y⟩:Point))/\c.S=kE t p c.X c.Y/\c.S≠0)/\s.2.2.Pairwise Dist/\s.2.2.length<=i)
  (fun r=>(r.1=true↔∃ q∈N,kE t p q.X q.Y≠0/\jj q.X q.Y=false)/\(∀ c,c∈r.2↔(⟨c.X,c.Y⟩:Point)∈N/\c.S=kE t p c.X c.Y/\c.S≠0)/\r.2.Pairwise Dist/\r.2.length<=400000) (by omega)
  ⟨rfl,⟨(fun h=>by cases h),fun⟨j,hj,_⟩=>by omega⟩,fun c=>⟨(fun hc=>by simp at hc),fun⟨⟨j,hj,_⟩,_⟩=>by omega⟩,List.Pairwise.nil,by simp⟩
  (fun i s hi ⟨h1,h2,h3,h4,h5⟩=>by
   obtain⟨out,a,l⟩:=s
   dsimp only at h1 h2 h3 h4 h5
   subst h1
   have hx:N[i]?=some N[i]:=List.getElem?_eq_getElem hi
   obtain⟨w,hb⟩:∃ w,gM t f N (out,(i:Int),l)=w:=⟨_,rfl⟩
   rw[hb]
   unfold gM at hb
   dsimp only at hb
   rw[bh,decide_eq_true hi,cond_true,bl,hx,bJ (by omega)] at hb
   simp only[aX] at hb
   rw[nextR_eq h hs hf (hN.inn _ (List.getElem_mem hi))] at hb
   simp only[aX] at hb
   by_cases hn:kE t p N[i].X N[i].Y=0
   ·have e:neB (kE t p N[i].X N[i].Y) 0=false:=by simpa [neB] using hn
    grind
   ·have e:neB (kE t p N[i].X N[i].Y) 0=true:=by simpa [neB] using hn
    rw[e,validR_eq] at hb
    simp only[cond_true] at hb
    rw[app_in (by omega)] at hb
    simp only[aX,cR,cy] at hb
    refine .inl ⟨_,hb.symm,?_⟩
    have hcore:(∀ c,c∈l++[(⟨N[i].X,N[i].Y,kE t p N[i].X N[i].Y⟩:Cell)]↔(∃ j < i+1,N[j]?=some (⟨c.X,c.Y⟩:Point))/\c.S=kE t p c.X c.Y/\c.S≠0)/\(l++[(⟨N[i].X,N[i].Y,kE t p N[i].X N[i].Y⟩:Cell)]).Pairwise Dist:=by
     refine⟨fun c=>?_,?_⟩
     ·rw[List.mem_append,List.mem_singleton,h3 c]
      constructor
      ·rintro (⟨⟨j,hj,hq⟩,h'⟩ | rfl)
       ·grind
       ·exact⟨⟨i,by omega,hx⟩,rfl,hn⟩
      ·rintro⟨⟨j,hj,hq⟩,h',h''⟩
       rcases Nat.lt_succ_iff_lt_or_eq.1 hj with hj | rfl
       ·grind
       ·right
        rw[hx] at hq
        have hq':=Option.some.inj hq
        rw[hq']
        cases c
        simp_all
     ·refine List.pairwise_append.2 ⟨h4,List.pairwise_singleton _ _,fun d hd e he=>?_⟩
      rw[List.mem_singleton] at he
      subst he
      rintro⟨e1,e2⟩
      dsimp only at e1 e2
      obtain⟨⟨j,hj,hq⟩,_⟩:=(h3 d).1 hd
      obtain⟨hjl,hje⟩:=List.getElem?_eq_some_iff.1 hq
      have:=List.pairwise_iff_getElem.1 hN.dist j i hjl hi hj
      simp_all
    grind)
  (fun s ⟨h1,h2,h3,h4,h5⟩=>by
   obtain⟨out,a,l⟩:=s
   dsimp only at h1 h2 h3 h4 h5
   subst h1
   refine⟨(out,l),?_,?_,fun c=>?_,h4,by dsimp only; omega⟩
   ·simp[gM,bh]
   ·grind [List.mem_iff_getElem?]
   grind [List.mem_iff_getElem?])
 grind
theorem stepR_eq {t:Tree} {p:List Cell} (hs:Sz t) (hp:p.length < 1099511627776):(jY t p≠0/\jA t p=some ([],jY t p)) \/ (jY t p=0/\∃ r,jA t p=some r/\Stp t p r):=by
 unfold jA
 rw[fits_eq hs hp]
 simp only[aX]
 by_cases h0:jY t p=0
 ·have h:=oP h0
  obtain⟨f,hf,hF⟩:=states_eq (fit_pat h0)
  obtain⟨N,hN,hNO⟩:=near_eq h.pat hF
  obtain⟨out,l,hl,h1,h2,h3,h4⟩:=stepR_loop h hs hF hNO
  have e:neB (jY t p) 0=false:=by simpa [neB] using h0
  rw[e,hf]
  simp only[cond_false,aX]
  rw[hN]
  simp only[aX]
  rw[hl]
  simp only[aX]
  have hall:∀ x z,kE t p x z≠0->(⟨x,z⟩:Point)∈N:=fun x z hn=>by
   obtain⟨c,hc,o,ho,e1,e2⟩:=newS_near h hn
   have:=hood_in h.ok ho
   exact hNO.all c hc ⟨x,z⟩ (by dsimp only; omega) (by dsimp only; omega) (by dsimp only; omega) (by dsimp only; omega)
  refine .inr ⟨h0,?_⟩
  cases out with
  | true =>
   obtain⟨q,_,hq⟩:=h1.1 rfl
   exact⟨_,rfl,.inl ⟨⟨_,_,hq⟩,rfl⟩⟩
  | false =>
   have hno:¬ Out t p:=fun⟨x,z,hn,hpl⟩=>by
    grind
   have hC:Canon t p (jy [] l):=⟨nf _ _ List.Pairwise.nil (by simpa using h3),fun c=>by
    grind [kD]⟩
   have hlen:b8 (jy [] l)=b8 l:=by
    have:=(kD l []).length_eq
    unfold b8
    simp_all
   simp only[cond_false]
   cases hg:gtB (b8 l) 5000 with
   | true =>
    refine⟨_,rfl,.inr ⟨hno,_,hC,?_⟩⟩
    rw[hlen,hg]
    rfl
   | false =>
    simp only[cond_false]
    have hfr:=fromR_eq (l:=l) (by omega) (fun c hc=>by
     obtain⟨_,e1,e2⟩:=(h2 c).1 hc
     have hv:=(newS_eq h hs c.X c.Y).2
     have h8:=h.ok.s8
     grind) h3
    rw[hfr]
    simp only[aX]
    exact⟨_,rfl,.inr ⟨hno,_,hC,rfl⟩⟩
 ·have:neB (jY t p) 0=true:=by simpa [neB] using h0
  simp_all
end Go.Proofs.YtjlckgeecihpbaaGreatDoor
namespace Go.Proofs.YtjlckgeecihpbaaGreatDoor
open Go.AM Go.Proofs
theorem stp_pat {t:Tree} {p:List Cell} {r:List Cell×Int} (h:Fit t p) (hs:Sz t) (hr:Stp t p r) (h0:r.2=0):Fit t r.1:=by
 rcases hr with ⟨_,rfl⟩ | ⟨hno,y,hy,rfl⟩
 ·cases h0
 ·cases hg:gtB (b8 y) 5000 with
  | true=>rw[hg] at h0; cases h0
  | false =>
   simp only[cond_false]
   have hl:=of_decide_eq_false hg
   unfold b8 at hl
   have hc:∀ c∈y,(-1048576<=c.X/\c.X<=1048576/\-1048576<=c.Y/\c.Y<=1048576)/\1<=c.S/\c.S < t.States:=fun c hc=>by
    obtain⟨e1,e2⟩:=(hy.mem c).1 hc
    have hv:=(newS_eq h hs c.X c.Y).2
    refine⟨?_,by omega,by omega⟩
    rw[<- nj]
    cases hpl:jj c.X c.Y with
    | true=>rfl
    | false=>exact absurd ⟨c.X,c.Y,by rw[<- e1]; exact e2,hpl⟩ hno
   have h8:=h.ok.s8
   exact⟨h.ok,h.zero,⟨by omega,fun c hc'=>⟨(hc c hc').1,by have:=(hc c hc').2; omega⟩,hy.sorted⟩,fun c hc'=>(hc c hc').2.2⟩
theorem anyB_all {α:Type} {f:α->Bool}:∀ {l:List α} {i:Nat},(∀ x∈l,f x=false)->fR (fun _ x=>f x) l i=false
 | [],_,_=>rfl
 | x::l,i,h=>by
  unfold fR
  rw[h x (by simp),anyB_all fun y hy=>h y (List.mem_cons_of_mem _ hy)]
  rfl
theorem fitE_of {t:Tree} {p:List Cell} (h:Fit t p) (hq:eV t=true):jY t p=0:=by
 unfold jY
 have h1:lO p=true:=by
  unfold lO
  have hl:=h.pat.len
  have e:leB (b8 p) 5000=true:=decide_eq_true (by unfold b8; omega)
  rw[e,Bool.true_and]
  have:fR (badC p) p 0=false:=k7 fun j x hx=>by
   have hc:=h.pat.cell x (List.mem_of_getElem? hx)
   have hpl:=(nj x.X x.Y).2 hc.1
   unfold badC
   have e1:ltB x.S 1=false:=decide_eq_false (by omega)
   have e2:geB x.S 8=false:=decide_eq_false (by omega)
   rw[hpl,e1,e2,Nat.zero_add]
   cases j with
   | zero=>rfl
   | succ j =>
    obtain⟨y,hy⟩:=nh hx
    simp only[hy]
    have h1:=bq hx
    obtain⟨_,e3⟩:=List.getElem?_eq_some_iff.1 hx
    obtain⟨_,e4⟩:=List.getElem?_eq_some_iff.1 hy
    have:=List.pairwise_iff_getElem.1 h.pat.sorted j (j+1) (by omega) h1 (by omega)
    rw[e3,e4] at this
    rw[this]
    rfl
  rw[this]
  rfl
 have h2:fR (fun _ (c:Cell)=>geB c.S t.States) p 0=false:=anyB_all fun c hc=>decide_eq_false (by have:=h.small c hc; omega)
 rw[hq,h1,h2]
 rfl
theorem fitE_quiet {t:Tree} {p:List Cell} (h:jY t p=0):eV t=true:=by
 unfold jY at h
 cases hq:eV t with
 | false=>rw[hq] at h; simp at h
 | true=>rfl
theorem order_ne {a b:Int} (h:a≠b):∃ v,eZ a b=some v/\v≠0:=by
 unfold eZ ltB gtB
 by_cases h1:a < b
 ·simp[h1]
 ·have:a > b:=by omega
  simp[h1,this]
theorem order_self (a:Int):eZ a a=some 0:=by
 unfold eZ ltB gtB
 simp
theorem same_eq {a b:List Cell} (ha:a.length<=5000) (hb:b.length<=5000):jI a b=some (decide (a=b)):=by
 have hmain:∃ v,kd a b=some v/\(v=0↔a=b):=by
  obtain⟨t,ht,hq⟩:=bX (b:=fh a b) (n:=min a.length b.length) (s:=0) (fun i s=>s=(i:Int)/\a.take i=b.take i)
   (fun t=>(∃ v,t=.inl v/\v≠0/\a≠b) \/ (t=.inr ()/\a.take (min a.length b.length)=b.take (min a.length b.length))) (by omega)
   ⟨rfl,rfl⟩
   (fun i s hi ⟨h1,h2⟩=>by
    subst h1
    have hxa:a[i]?=some (a[i]'(by omega)):=List.getElem?_eq_getElem (by omega)
    have hxb:b[i]?=some (b[i]'(by omega)):=List.getElem?_eq_getElem (by omega)
    obtain⟨w,hw⟩:∃ w,fh a b (i:Int)=w:=⟨_,rfl⟩
    rw[hw]
    unfold fh at hw
    dsimp only at hw
    rw[bh,bh,decide_eq_true (by omega),decide_eq_true (by omega),bl,bl,hxa,hxb,bJ (by omega)] at hw
    simp only[cond_true,aX] at hw
    have hne:∀ {v:Int} {x y:Int},x≠y->(∀ (e:a=b),x=y)->eZ x y=some v->v≠0->(∃ v',(Sum.inl v:Int ⊕ Unit)=.inl v'/\v'≠0/\a≠b):=fun hxy hab _ hv=>⟨_,rfl,hv,fun e=>hxy (hab e)⟩
    have hab:a=b->(a[i]'(by omega))=(b[i]'(by omega)):=fun e=>by
     subst e; rfl
    by_cases hY:(a[i]'(by omega)).Y=(b[i]'(by omega)).Y
    ·have e1:neB (a[i]'(by omega)).Y (b[i]'(by omega)).Y=false:=by simpa [neB] using hY
     rw[e1] at hw
     simp only[cond_false] at hw
     by_cases hX:(a[i]'(by omega)).X=(b[i]'(by omega)).X
     ·have e2:neB (a[i]'(by omega)).X (b[i]'(by omega)).X=false:=by simpa [neB] using hX
      rw[e2] at hw
      simp only[cond_false] at hw
      by_cases hS:(a[i]'(by omega)).S=(b[i]'(by omega)).S
      ·have e3:neB (a[i]'(by omega)).S (b[i]'(by omega)).S=false:=by simpa [neB] using hS
       rw[e3] at hw
       simp only[cond_false] at hw
       refine .inl ⟨_,hw.symm,rfl,?_⟩
       rw[List.take_add_one,List.take_add_one,h2,hxa,hxb]
       congr 2
       revert hX hY hS
       generalize (a[i]'(by omega))=u
       generalize (b[i]'(by omega))=v
       intro hX hY hS
       cases u; cases v
       simp_all
      ·have e3:neB (a[i]'(by omega)).S (b[i]'(by omega)).S=true:=by simpa [neB] using hS
       rw[e3] at hw
       obtain⟨v,hv,hv0⟩:=order_ne hS
       rw[hv] at hw
       exact .inr ⟨_,hw.symm,.inl ⟨v,rfl,hv0,fun e=>hS (by rw[hab e])⟩⟩
     ·have e2:neB (a[i]'(by omega)).X (b[i]'(by omega)).X=true:=by simpa [neB] using hX
      rw[e2] at hw
      obtain⟨v,hv,hv0⟩:=order_ne hX
      rw[hv] at hw
      exact .inr ⟨_,hw.symm,.inl ⟨v,rfl,hv0,fun e=>hX (by rw[hab e])⟩⟩
    ·have e1:neB (a[i]'(by omega)).Y (b[i]'(by omega)).Y=true:=by simpa [neB] using hY
     rw[e1] at hw
     obtain⟨v,hv,hv0⟩:=order_ne hY
     rw[hv] at hw
     exact .inr ⟨_,hw.symm,.inl ⟨v,rfl,hv0,fun e=>hY (by rw[hab e])⟩⟩)
   (fun s ⟨h1,h2⟩=>by
    subst h1
    refine⟨_,?_,.inr ⟨rfl,h2⟩⟩
    unfold fh
    dsimp only
    rw[bh,bh]
    by_cases hab:min a.length b.length < a.length
    ·have:¬ min a.length b.length < b.length:=by omega
     rw[decide_eq_true hab,decide_eq_false this]
     rfl
    ·rw[decide_eq_false hab]
     rfl)
  unfold kd
  rw[ht]
  rcases hq with ⟨v,rfl,hv,hab⟩ | ⟨rfl,htk⟩
  ·exact⟨v,rfl,⟨fun h=>absurd h hv,fun h=>absurd h hab⟩⟩
  ·by_cases hlen:a.length=b.length
   ·have e:a=b:=by
     rw[hlen,Nat.min_self,List.take_length] at htk
     rw[<- hlen,List.take_length] at htk
     exact htk
    refine⟨0,?_,⟨fun _=>e,fun _=>rfl⟩⟩
    simp only[aX]
    unfold b8
    rw[hlen,order_self]
    rfl
   ·obtain⟨v,hv,hv0⟩:=order_ne (a:=b8 a) (b:=b8 b) (by unfold b8; omega)
    refine⟨v,?_,⟨fun h=>absurd h hv0,fun h=>absurd (by rw[h]) hlen⟩⟩
    simp only[aX,hv]
 obtain⟨v,hv,hiff⟩:=hmain
 unfold jI
 rw[hv]
 simp only[aX]
 congr 1
 unfold eqB
 by_cases h:a=b
 ·rw[decide_eq_true h,hiff.2 h]; rfl
 ·rw[decide_eq_false h]
  have:v≠0:=fun e=>h (hiff.1 e)
  simpa using this
end Go.Proofs.YtjlckgeecihpbaaGreatDoor
