/- Plain laws: states of places behind a symmetry; the evolution of a rule that has it. -/
import Derived.Test.YtffohfmfehjbmaaGreatDoorPsx1
import Derived.Test.YtffohfmfehjbmaaGreatDoorSwx2
namespace Go.Proofs.YtffohfmfehjbmaaGreatDoor
open Go.AM Go.Proofs
def invK (k:Nat):Nat:=if k=1 then 3 else if k=3 then 1 else k
theorem k8 {k:Nat} (h:k < 8):k=0 \/ k=1 \/ k=2 \/ k=3 \/ k=4 \/ k=5 \/ k=6 \/ k=7:=by omega
theorem apK_inv {k:Nat} (hk:k < 8) (p:Point):apK (invK k) (apK k p)=p/\apK k (apK (invK k) p)=p:=by
 cases p
 rcases k8 hk with rfl | rfl | rfl | rfl | rfl | rfl | rfl | rfl<;>simp[invK,apK]
theorem apK_add (k:Nat) (a b c d:Int):apK k ⟨a+c,b+d⟩=⟨(apK k ⟨a,b⟩).X+(apK k ⟨c,d⟩).X,(apK k ⟨a,b⟩).Y+(apK k ⟨c,d⟩).Y⟩:=by
 unfold apK
 split<;>simp only[Point.mk.injEq,and_true,true_and]<;>omega
def trF (k:Nat) (S:Int->Int->Int):Int->Int->Int:=fun x y=>S (apK (invK k) ⟨x,y⟩).X (apK (invK k) ⟨x,y⟩).Y
theorem trF_sh {k:Nat} (hk:k < 8) (a b:Int) (S:Int->Int->Int):trF k (shF a b S)=shF (apK k ⟨a,b⟩).X (apK k ⟨a,b⟩).Y (trF k S):=by
 funext x y
 unfold trF shF
 have h:=apK_add (invK k) (x - (apK k ⟨a,b⟩).X) (y - (apK k ⟨a,b⟩).Y) (apK k ⟨a,b⟩).X (apK k ⟨a,b⟩).Y
 rw[show (⟨(apK k ⟨a,b⟩).X,(apK k ⟨a,b⟩).Y⟩:Point)=apK k ⟨a,b⟩ from rfl,(apK_inv hk _).1,Int.sub_add_cancel,Int.sub_add_cancel] at h
 rw[h]
 dsimp only
 congr 1<;>omega
section
variable {n L:Nat} {t:Tree} {u:DD (L+1)}
def InS (n:Nat) (S:Int->Int->Int):Prop:=∀ x y,0<=S x y/\S x y < n
theorem newF_ev (T:TD n L t u) {S:Int->Int->Int} (hS:InS n S) (x y:Int):newF t S x y=evD (L+1) u (t.Hood.map fun p=>(S (x+p.X) (y+p.Y)).toNat):=by
 obtain⟨i,hi,hr⟩:=T.rep
 have hL:=T.hL
 have hnd:=T.tok.nodes
 unfold newF
 rw[show aL .i64 (aB t.Nodes) 1=(i:Int) from by
  have:aB t.Nodes=(i:Int)+1:=by unfold aB; omega
  rw[this,isub_in (by omega)]
  omega]
 have h:=walk_ev (l:=t.Hood.map fun p=>(S (x+p.X) (y+p.Y)).toNat) hr T.reg ⟨by rw[List.length_map,hL],fun s hs=>by
  obtain⟨p,_,rfl⟩:=List.mem_map.1 hs
  have:=hS (x+p.X) (y+p.Y)
  omega⟩
 rw[List.map_map,show (t.Hood.map ((fun s:Nat=>(s:Int)) ∘ fun p=>(S (x+p.X) (y+p.Y)).toNat))=t.Hood.map fun p=>S (x+p.X) (y+p.Y) from List.map_congr_left fun p _=>by
  have:=hS (x+p.X) (y+p.Y)
  show (((S (x+p.X) (y+p.Y)).toNat:Nat):Int)=_
  omega] at h
 rw[h]
 rfl
theorem newF_in (T:TD n L t u) {S:Int->Int->Int} (hS:InS n S):InS n (newF t S):=fun x y=>by
 have hn2:=T.tok.n2
 rw[newF_ev T hS]
 exact evD_in (by omega) T.reg ⟨by rw[List.length_map,T.hL],fun s hs=>by
  obtain⟨p,_,rfl⟩:=List.mem_map.1 hs
  have:=hS (x+p.X) (y+p.Y)
  omega⟩
theorem trF_in {k:Nat} {S:Int->Int->Int} (hS:InS n S):InS n (trF k S):=fun _ _=>hS _ _
theorem newF_tr (T:TD n L t u) {k:Nat} (hk:k < 8) (hi:Inv n L t u k) {S:Int->Int->Int} (hS:InS n S):newF t (trF k S)=trF k (newF t S):=by
 funext x y
 obtain⟨a,ha⟩:∃ a,a=apK (invK k) ⟨x,y⟩:=⟨_,rfl⟩
 obtain⟨c,hc⟩:∃ c:Point->Nat,c=fun p=>(S (a.X+p.X) (a.Y+p.Y)).toNat:=⟨_,rfl⟩
 have hcn:∀ p,c p < n:=fun p=>by
  have:=hS (a.X+p.X) (a.Y+p.Y)
  rw[hc]
  dsimp only
  omega
 have h1:newF t (trF k S) x y=evD (L+1) u (t.Hood.map fun p=>c (apK (invK k) p)):=by
  rw[newF_ev T (trF_in hS)]
  congr 1
  refine List.map_congr_left fun p _=>?_
  rw[hc]
  unfold trF
  rw[apK_add,<- ha]
 have h2:=hi.sem (fun p=>c (apK (invK k) p)) fun p=>hcn _
 rw[h1,h2]
 show _=newF t S (apK (invK k) ⟨x,y⟩).X (apK (invK k) ⟨x,y⟩).Y
 rw[newF_ev T hS,<- ha]
 congr 1
 refine List.map_congr_left fun p _=>?_
 rw[(apK_inv hk p).1,hc]
theorem itF_tr (T:TD n L t u) {k:Nat} (hk:k < 8) (hi:Inv n L t u k):∀ (m:Nat) {S:Int->Int->Int},InS n S->itF t m (trF k S)=trF k (itF t m S)
 | 0,_,_=>rfl
 | m+1,S,hS=>by
  show itF t m (newF t (trF k S))=trF k (itF t m (newF t S))
  rw[newF_tr T hk hi hS,itF_tr T hk hi m (newF_in T hS)]
end
def turnC (k:Nat) (c:Cell):Cell:=⟨(apK k ⟨c.X,c.Y⟩).X,(apK k ⟨c.X,c.Y⟩).Y,c.S⟩
structure Lst (S:Int->Int->Int) (l:List Cell):Prop where
 len:l.length<=5000
 st:∀ c∈l,1<=c.S/\c.S < 8
 sorted:l.Pairwise fun a b=>befC a b=true
 get:getS l=S
theorem Pat.lst {p:List Cell} (h:Pat p):Lst (getS p) p:=⟨h.len,fun c hc=>(h.cell c hc).2,h.sorted,rfl⟩
section
variable {S:Int->Int->Int} {l l':List Cell}
theorem Lst.pat (h:Lst S l) (hr:InR l):Pat l:=⟨h.len,fun c hc=>⟨(place_iff _ _).1 (hr c hc),h.st c hc⟩,h.sorted⟩
theorem Lst.mem (h:Lst S l) (c:Cell):c∈l↔S c.X c.Y=c.S/\c.S≠0:=by
 rw[<- h.get]
 constructor
 ·intro hc
  have:=h.st c hc
  exact⟨getS_of h.sorted hc,by omega⟩
 ·rintro⟨h1,h2⟩
  obtain⟨d,hd,e1,e2,e3⟩:=getS_mem (by rw[h1]; exact h2)
  have:d=c:=by
   cases c; cases d
   simp_all
  rw[<- this]
  exact hd
theorem Lst.uniq (h:Lst S l) (h':Lst S l'):l=l':=sorted_ext h.sorted h'.sorted fun c=>by rw[h.mem,h'.mem]
theorem Lst.sh (h:Lst S l) (a b:Int):Lst (shF a b S) (shL a b l):=⟨by unfold shL; rw[List.length_map]; exact h.len,fun c hc=>by
 obtain⟨d,hd,rfl⟩:=List.mem_map.1 hc
 exact h.st d hd,sh_sorted h.sorted,by rw[getS_sh,h.get]⟩
def tnL (k:Nat) (l:List Cell):List Cell:=isort cf_pattern_order (l.map (turnC k))
theorem tn_dist (k:Nat) (h:l.Pairwise fun a b=>befC a b=true):(l.map (turnC k)).Pairwise Dist:=by
 rw[List.pairwise_map]
 refine h.imp fun{c d} hcd hxy=>?_
 obtain⟨e1,e2⟩:=hxy
 have:apK k ⟨c.X,c.Y⟩=apK k ⟨d.X,d.Y⟩:=by
  unfold turnC at e1 e2
  dsimp only at e1 e2
  generalize apK k ⟨c.X,c.Y⟩=a at e1 e2 ⊢
  generalize apK k ⟨d.X,d.Y⟩=b at e1 e2 ⊢
  cases a; cases b
  simp_all
 have:=apK_inj k this
 simp only[Point.mk.injEq] at this
 rw[befC_iff] at hcd
 omega
theorem tn_mem (k:Nat) (c:Cell):c∈tnL k l↔∃ d∈l,turnC k d=c:=by
 unfold tnL
 rw[(cw (l.map (turnC k))).mem_iff,List.mem_map]
theorem Lst.tn (h:Lst S l) {k:Nat} (hk:k < 8):Lst (trF k S) (tnL k l):=by
 have hs:=isort_sorted (tn_dist k h.sorted)
 have hst:∀ c∈tnL k l,1<=c.S/\c.S < 8:=fun c hc=>by
  obtain⟨d,hd,rfl⟩:=(tn_mem k c).1 hc
  exact h.st d hd
 refine⟨by unfold tnL; rw[(cw (l.map (turnC k))).length_eq,List.length_map]; exact h.len,hst,hs,?_⟩
 funext x y
 by_cases h0:getS (tnL k l) x y=0
 ·rw[h0]
  apply Classical.byContradiction
  intro hne
  have hd:=(h.mem ⟨(apK (invK k) ⟨x,y⟩).X,(apK (invK k) ⟨x,y⟩).Y,trF k S x y⟩).2 ⟨rfl,fun e=>hne e.symm⟩
  have hm:=(tn_mem k _).2 ⟨_,hd,rfl⟩
  have hg:=getS_of hs hm
  have h1:=hst _ hm
  have hx:=(apK_inv hk ⟨x,y⟩).2
  unfold turnC at hg h1
  dsimp only at hg h1
  rw[show (⟨(apK (invK k) ⟨x,y⟩).X,(apK (invK k) ⟨x,y⟩).Y⟩:Point)=apK (invK k) ⟨x,y⟩ from rfl,hx] at hg
  dsimp only at hg
  have h2:getS (tnL k l) x y=trF k S x y:=hg
  omega
 ·obtain⟨c,hc,e1,e2,e3⟩:=getS_mem h0
  obtain⟨d,hd,rfl⟩:=(tn_mem k c).1 hc
  have hx:apK k ⟨d.X,d.Y⟩=⟨x,y⟩:=by
   unfold turnC at e1 e2
   dsimp only at e1 e2
   rw[<- e1,<- e2]
  rw[e3]
  unfold trF
  rw[<- hx,(apK_inv hk _).1]
  exact ((h.mem d).1 hd).1.symm
theorem tn_sh (h:Lst S l) {k:Nat} (hk:k < 8) (a b:Int):tnL k (shL a b l)=shL (apK k ⟨a,b⟩).X (apK k ⟨a,b⟩).Y (tnL k l):=by
 have h1:=(h.sh a b).tn hk
 rw[trF_sh hk] at h1
 exact h1.uniq ((h.tn hk).sh _ _)
end
end Go.Proofs.YtffohfmfehjbmaaGreatDoor
namespace Go.Proofs.YtffohfmfehjbmaaGreatDoor
open Go.AM Go.Proofs
theorem step_lst {t:Tree} {q l:List Cell} (hs:Sz t) (hq:fitE t q=0) (h:Lst (newF t (getS q)) l):stepS t q=([],5) \/ stepS t q=(l,0):=by
 by_cases hin:InR l
 ·right
  exact stepS_to hs hq (h.pat hin) h.get
 ·left
  have hl:=(fit_of hq).pat.len
  rcases (stepS_eq hs (q:=q) (by omega)).2 with ⟨h0,_⟩ | ⟨_,h1⟩
  ·exact absurd hq h0
  ·rcases h1 with ⟨_,e⟩ | ⟨hno,_⟩
   ·exact e
   ·exfalso
    apply hin
    intro c hc
    cases hp:placeB c.X c.Y with
    | true=>rfl
    | false =>
     exfalso
     apply hno
     refine⟨c.X,c.Y,?_,hp⟩
     obtain⟨e1,e2⟩:=(h.mem c).1 hc
     rw[newS_newF,e1]
     exact e2
theorem iter_lst {t:Tree} (hs:Sz t):∀ (N:Nat) (q:List Cell),fitE t q=0->(∀ j,1<=j->j<=N->∃ l,Lst (itF t j (getS q)) l)->iterS t N q=([],5) \/ ∃ y,iterS t N q=(y,0)
 | 0,q,_,_=>.inr ⟨q,rfl⟩
 | N+1,q,hq,h=>by
  obtain⟨l,hl⟩:=h 1 (by omega) (by omega)
  have e:iterS t (N+1) q=bif neB (stepS t q).2 0 then ([],(stepS t q).2) else iterS t N (stepS t q).1:=rfl
  rw[e]
  rcases step_lst hs hq hl with e1 | e1
  ·rw[e1]
   exact .inl rfl
  ·have hf:=stepS_fit hs hq (by rw[e1])
   rw[e1] at hf ⊢
   refine iter_lst hs N l hf fun j h1 h2=>?_
   obtain⟨l',hl'⟩:=h (j+1) (by omega) (by omega)
   refine⟨l',?_⟩
   have e2:itF t (j+1) (getS q)=itF t j (newF t (getS q)):=rfl
   have e3:getS l=newF t (getS q):=hl.get
   rw[e3,<- e2]
   exact hl'
section
variable {t:Tree} {p:List Cell} {m:Motion} {P:Nat}
theorem Per.itP (h:Per t p m P) (hs:Sz t):itF t P (getS p)=shF m.DX m.DY (getS p):=by
 rw[<- (iterS_fit hs _ _ _ h.fit h.here).2,getS_sh]
theorem Per.itPs (h:Per t p m P) (hs:Sz t):∀ q:Nat,itF t (P*q) (getS p)=shF ((q:Int)*m.DX) ((q:Int)*m.DY) (getS p)
 | 0=>by
  funext x y
  show getS p x y=getS p (x - (0:Int)*m.DX) (y - (0:Int)*m.DY)
  rw[Int.zero_mul,Int.zero_mul,Int.sub_zero,Int.sub_zero]
 | q+1=>by
  have e:∀ a:Int,(q:Int)*a+a=((q+1:Nat):Int)*a:=fun a=>by rw[show ((q+1:Nat):Int)=(q:Int)+1 by omega,Int.add_mul,Int.one_mul]
  rw[Nat.mul_succ,itF_add,h.itPs hs q,itF_sh,h.itP hs,shF_add,e,e]
def phL (t:Tree) (p:List Cell) (P j:Nat):List Cell:=(iterS t (j % P) p).1
theorem Per.ph (h:Per t p m P) (hs:Sz t) (j:Nat):iterS t (j % P) p=(phL t p P j,0)/\fitE t (phL t p P j)=0/\getS (phL t p P j)=itF t (j % P) (getS p)/\phL t p P j≠[]:=by
 have hpos:=h.pos
 have hlt:j % P < P:=Nat.mod_lt _ (by omega)
 have hy:∃ y,iterS t (j % P) p=(y,0):=by
  rcases Nat.eq_zero_or_pos (j % P) with h0 | h0
  ·exact⟨p,by rw[h0]; rfl⟩
  ·obtain⟨y,hy,_⟩:=h.before _ h0 hlt
   exact⟨y,hy⟩
 obtain⟨y,hy⟩:=hy
 have e:phL t p P j=y:=by unfold phL; rw[hy]
 obtain⟨h1,h2⟩:=iterS_fit hs _ _ _ h.fit hy
 rw[e]
 refine⟨hy,h1,h2,fun h0=>?_⟩
 have hadd:=iterS_add t (j % P) (P - j % P) p y hy
 rw[show j % P+(P - j % P)=P by omega,h.here,h0] at hadd
 rw[h0] at h1
 rw[iterS_nil hs h1] at hadd
 simp only[Prod.mk.injEq,and_true] at hadd
 exact shL_ne h.ne hadd
theorem Per.at (h:Per t p m P) (hs:Sz t) (j:Nat):itF t j (getS p)=shF (((j / P:Nat):Int)*m.DX) (((j / P:Nat):Int)*m.DY) (getS (phL t p P j)):=by
 have e:itF t (P*(j / P)+j % P) (getS p)=shF (((j / P:Nat):Int)*m.DX) (((j / P:Nat):Int)*m.DY) (getS (phL t p P j)):=by
  rw[itF_add,h.itPs hs,itF_sh,(h.ph hs j).2.2.1]
 rwa [Nat.div_add_mod] at e
def genL (t:Tree) (p:List Cell) (m:Motion) (P j:Nat):List Cell:=shL (((j / P:Nat):Int)*m.DX) (((j / P:Nat):Int)*m.DY) (phL t p P j)
theorem Per.gen (h:Per t p m P) (hs:Sz t) (j:Nat):Lst (itF t j (getS p)) (genL t p m P j):=by
 rw[h.at hs j]
 exact ((fit_of (h.ph hs j).2.1).pat.lst).sh _ _
end
def corX (l:List Cell):Int:=lowX l (hdC l).X
def corY (l:List Cell):Int:=(hdC l).Y
def homL (l:List Cell):List Cell:=shL (-corX l) (-corY l) l
theorem lowX_sh (a b:Int):∀ (l:List Cell) (x:Int),lowX (shL a b l) (x+a)=lowX l x+a
 | [],_=>rfl
 | c::l,x=>by
  have e:ez (x+a) (shC a b c).X=ez x c.X+a:=by
   unfold ez shC
   dsimp only
   split<;>split<;>omega
  show lowX (shL a b l) (ez (x+a) (shC a b c).X)=lowX l (ez x c.X)+a
  rw[e,lowX_sh a b l]
theorem hd_sh {l:List Cell} (h:l≠[]) (a b:Int):hdC (shL a b l)=shC a b (hdC l):=by
 cases l with
 | nil=>exact absurd rfl h
 | cons c l=>rfl
theorem cor_sh {l:List Cell} (h:l≠[]) (a b:Int):corX (shL a b l)=corX l+a/\corY (shL a b l)=corY l+b:=by
 unfold corX corY
 rw[hd_sh h]
 exact⟨lowX_sh a b l _,rfl⟩
theorem hom_sh (a b:Int) (l:List Cell):homL (shL a b l)=homL l:=by
 by_cases h:l=[]
 ·rw[h]; rfl
 ·obtain⟨h1,h2⟩:=cor_sh h a b
  unfold homL
  rw[h1,h2,shL_add]
  congr 1<;>omega
theorem lowX_le:∀ (l:List Cell) (a:Int),lowX l a<=a/\(∀ c∈l,lowX l a<=c.X)/\(lowX l a=a \/ ∃ c∈l,lowX l a=c.X)
 | [],a=>⟨Int.le_refl _,fun c hc=>by simp at hc,.inl rfl⟩
 | c::l,a=>by
  obtain⟨h1,h2,h3⟩:=lowX_le l (ez a c.X)
  have e:lowX (c::l) a=lowX l (ez a c.X):=rfl
  have i:=imin_is a c.X
  rw[e]
  refine⟨by omega,fun d hd=>?_,?_⟩
  ·rcases List.mem_cons.1 hd with rfl | hd
   ·omega
   ·exact h2 d hd
  ·rcases h3 with h3 | ⟨d,hd,h3⟩
   ·rcases i.1 with i1 | i1
    ·exact .inl (by omega)
    ·exact .inr ⟨c,by simp,by omega⟩
   ·exact .inr ⟨d,by simp[hd],h3⟩
theorem cor_is {l:List Cell} (h:l≠[]) (hs:l.Pairwise fun a b=>befC a b=true):(∀ c∈l,corX l<=c.X/\corY l<=c.Y)/\(∃ c∈l,corX l=c.X)/\∃ c∈l,corY l=c.Y:=by
 cases l with
 | nil=>exact absurd rfl h
 | cons c0 q =>
  obtain⟨h1,h2,h3⟩:=lowX_le (c0::q) c0.X
  have hY:∀ c∈c0::q,c0.Y<=c.Y:=fun c hc=>by
   rcases List.mem_cons.1 hc with rfl | hc
   ·exact Int.le_refl _
   ·have:=(befC_iff _ _).1 ((List.pairwise_cons.1 hs).1 c hc)
    omega
  refine⟨fun c hc=>⟨h2 c hc,hY c hc⟩,?_,c0,by simp,rfl⟩
  rcases h3 with h3 | h3
  ·exact⟨c0,by simp,h3⟩
  ·exact h3
end Go.Proofs.YtffohfmfehjbmaaGreatDoor
namespace Go.Proofs.YtffohfmfehjbmaaGreatDoor
open Go.AM Go.Proofs
def Wd (w:Int) (l:List Cell):Prop:=∀ c∈l,∀ d∈l,c.X - d.X<=w/\c.Y - d.Y<=w
section
variable {w:Int} {l:List Cell}
theorem Wd.tn (h:Wd w l) {k:Nat} (hk:k < 8):Wd w (tnL k l):=fun c hc d hd=>by
 obtain⟨c',hc',rfl⟩:=(tn_mem k c).1 hc
 obtain⟨d',hd',rfl⟩:=(tn_mem k d).1 hd
 have h1:=h c' hc' d' hd'
 have h2:=h d' hd' c' hc'
 rcases k8 hk with rfl | rfl | rfl | rfl | rfl | rfl | rfl | rfl<;>simp only[turnC,apK]<;>omega
theorem hom_in (hne:l≠[]) (hs:l.Pairwise fun a b=>befC a b=true) (h:Wd w l) (hw:w<=1048576):InR (homL l):=fun c hc=>by
 obtain⟨d,hd,rfl⟩:=List.mem_map.1 hc
 obtain⟨h1,⟨e,he,h2⟩,f,hf,h3⟩:=cor_is hne hs
 have a1:=h1 d hd
 have a2:=h d hd e he
 have a3:=h d hd f hf
 rw[place_iff]
 unfold shC
 dsimp only
 omega
theorem tn_ne (h:l≠[]) (k:Nat):tnL k l≠[]:=fun e=>by
 cases l with
 | nil=>exact h rfl
 | cons c l =>
  have:=(tn_mem (l:=c::l) k (turnC k c)).2 ⟨c,by simp,rfl⟩
  rw[e] at this
  cases this
theorem tn_in {k:Nat} (hk:k < 8) (h:InR l):InR (tnL k l):=fun c hc=>by
 obtain⟨d,hd,rfl⟩:=(tn_mem k c).1 hc
 have:=(place_iff _ _).1 (h d hd)
 rw[place_iff]
 rcases k8 hk with rfl | rfl | rfl | rfl | rfl | rfl | rfl | rfl<;>simp only[turnC,apK]<;>omega
end
section
variable {t:Tree} {p:List Cell} {m:Motion} {P:Nat}
theorem Per.wide (h:Per t p m P) (hs:Sz t) {w:Int} (hw:Wd w p) (j:Nat):Wd (w+4*P) (phL t p P j):=fun c hc d hd=>by
 have hpos:=h.pos
 have hlt:j % P < P:=Nat.mod_lt _ (by omega)
 have hn:=iterS_near hs _ _ _ h.fit (h.ph hs j).1
 obtain⟨c',hc',a1⟩:=hn c hc
 obtain⟨d',hd',a2⟩:=hn d hd
 have:=hw c' hc' d' hd'
 omega
theorem Per.pat (h:Per t p m P) (hs:Sz t) (j:Nat):Pat (phL t p P j):=(fit_of (h.ph hs j).2.1).pat
theorem Per.tn (h:Per t p m P) (hs:Sz t) (j:Nat) {k:Nat} (hk:k < 8):Pat (tnL k (phL t p P j)):=by
 have hp:=h.pat hs j
 exact (hp.lst.tn hk).pat (tn_in hk (inR_pat hp))
theorem apK_mul (k:Nat) (q a b:Int):apK k ⟨q*a,q*b⟩=⟨q*(apK k ⟨a,b⟩).X,q*(apK k ⟨a,b⟩).Y⟩:=by
 unfold apK
 split<;>simp only[Int.mul_neg]
def tgL (t:Tree) (p:List Cell) (m:Motion) (P k j:Nat):List Cell:=tnL k (genL t p m P j)
theorem Per.tg (h:Per t p m P) (hs:Sz t) (j:Nat) {k:Nat} (hk:k < 8):tgL t p m P k j=shL (((j / P:Nat):Int)*(apK k ⟨m.DX,m.DY⟩).X) (((j / P:Nat):Int)*(apK k ⟨m.DX,m.DY⟩).Y) (tnL k (phL t p P j)):=by
 unfold tgL genL
 rw[tn_sh (h.pat hs j).lst hk,apK_mul]
theorem Per.tg_cor (h:Per t p m P) (hs:Sz t) (j:Nat) {k:Nat} (hk:k < 8) :
  corX (tgL t p m P k j)=corX (tnL k (phL t p P j))+((j / P:Nat):Int)*(apK k ⟨m.DX,m.DY⟩).X/\corY (tgL t p m P k j)=corY (tnL k (phL t p P j))+((j / P:Nat):Int)*(apK k ⟨m.DX,m.DY⟩).Y:=by
 rw[h.tg hs j hk]
 exact cor_sh (tn_ne (h.ph hs j).2.2.2 k) _ _
theorem Per.tg_hom (h:Per t p m P) (hs:Sz t) (j:Nat) {k:Nat} (hk:k < 8):homL (tgL t p m P k j)=homL (tnL k (phL t p P j)):=by
 rw[h.tg hs j hk,hom_sh]
theorem Per.tg_lst (h:Per t p m P) (hs:Sz t) (j:Nat) {k:Nat} (hk:k < 8):Lst (trF k (itF t j (getS p))) (tgL t p m P k j):=(h.gen hs j).tn hk
def shotL (t:Tree) (p:List Cell) (P k j:Nat) (x y:Int):List Cell:=shL x y (homL (tnL k (phL t p P j)))
theorem Per.shot (h:Per t p m P) (hs:Sz t) (j:Nat) {k:Nat} (hk:k < 8) (x y:Int) :
  shotL t p P k j x y=shL (x - corX (tgL t p m P k j)) (y - corY (tgL t p m P k j)) (tgL t p m P k j):=by
 unfold shotL
 rw[<- h.tg_hom hs j hk]
 unfold homL
 rw[shL_add]
 rfl
theorem Per.tg_next (h:Per t p m P) (hs:Sz t) (j q:Nat) {k:Nat} (hk:k < 8) :
  corX (tgL t p m P k (j+P*q))=corX (tgL t p m P k j)+(q:Int)*(apK k ⟨m.DX,m.DY⟩).X/\corY (tgL t p m P k (j+P*q))=corY (tgL t p m P k j)+(q:Int)*(apK k ⟨m.DX,m.DY⟩).Y:=by
 have hpos:=h.pos
 obtain⟨a1,a2⟩:=h.tg_cor hs (j+P*q) hk
 obtain⟨b1,b2⟩:=h.tg_cor hs j hk
 have e1:phL t p P (j+P*q)=phL t p P j:=by unfold phL; rw[Nat.add_mul_mod_self_left]
 have e2:(j+P*q) / P=j / P+q:=Nat.add_mul_div_left j q (by omega)
 have e3:∀ a:Int,((j / P+q:Nat):Int)*a=((j / P:Nat):Int)*a+(q:Int)*a:=fun a=>by
  rw[show ((j / P+q:Nat):Int)=((j / P:Nat):Int)+(q:Int) by omega,Int.add_mul]
 rw[e1,e2,e3] at a1 a2
 omega
theorem shot_mod (t:Tree) (p:List Cell) (P k j:Nat) (x y:Int):shotL t p P k (j % P) x y=shotL t p P k j x y:=by
 unfold shotL phL
 rw[Nat.mod_mod]
section
variable {n L:Nat} {u:DD (L+1)} (T:TD n L t u)
include T
theorem Per.run (h:Per t p m P) (hs:Sz t) {k:Nat} (hk:k < 8) (hi:Inv n L t u k) (j N:Nat) (a b:Int) (hf:fitE t (shL a b (tgL t p m P k j))=0) :
  iterS t N (shL a b (tgL t p m P k j))=([],5) \/ iterS t N (shL a b (tgL t p m P k j))=(shL a b (tgL t p m P k (j+N)),0):=by
 have hIn:InS n (itF t j (getS p)):=fun x y=>by
  have hg:=getS_in (fit_of (h.ph hs j).2.1) (x - ((j / P:Nat):Int)*m.DX) (y - ((j / P:Nat):Int)*m.DY)
  have hst:=T.tok.st
  rw[h.at hs j]
  unfold shF
  omega
 have hF:∀ i,Lst (itF t i (getS (shL a b (tgL t p m P k j)))) (shL a b (tgL t p m P k (j+i))):=fun i=>by
  have e:itF t i (getS (shL a b (tgL t p m P k j)))=shF a b (trF k (itF t (j+i) (getS p))):=by
   rw[getS_sh,(h.tg_lst hs j hk).get,itF_sh,itF_tr T hk hi i hIn,itF_add]
  rw[e]
  exact (h.tg_lst hs (j+i) hk).sh a b
 rcases iter_lst hs N _ hf fun i _ _=>⟨_,hF i⟩ with e | ⟨y,hy⟩
 ·exact .inl e
 ·right
  obtain⟨h1,h2⟩:=iterS_fit hs _ _ _ hf hy
  have hl:=(fit_of h1).pat.lst
  rw[h2] at hl
  rw[hy,hl.uniq (hF N)]
end
end
end Go.Proofs.YtffohfmfehjbmaaGreatDoor
