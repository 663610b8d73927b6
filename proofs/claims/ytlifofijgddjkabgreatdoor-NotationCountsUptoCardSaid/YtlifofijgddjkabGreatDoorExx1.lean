/- Plain laws: a thing with a position fixed; the thing of some positions, in their own order. -/
import Derived.Test.YtlifofijgddjkabGreatDoorSwx3
namespace Go.Proofs.YtlifofijgddjkabGreatDoor
open Go.AM Go.Proofs
theorem fixD_reg {n M s:Nat} (hs:s < n):∀ {L:Nat} {u:DD L},Reg n L u->Reg n L (fixD M s L u)
 | 0,_,h=>h
 | L+1,u,h=>by
  unfold fixD
  split
  ·refine⟨by rw[DD.kids_of,List.length_replicate]; exact h.1,fun d hd=>?_⟩
   rw[DD.kids_of] at hd
   obtain rfl:=List.eq_of_mem_replicate hd
   rw[map_getD (fixD M s L) u.kids (by rw[h.1]; exact hs) (DD.dflt L)]
   exact fixD_reg hs (reg_kid h hs).2
  ·refine⟨by rw[DD.kids_of,List.length_map]; exact h.1,fun d hd=>?_⟩
   rw[DD.kids_of] at hd
   obtain⟨d',hd',rfl⟩:=List.mem_map.1 hd
   exact fixD_reg hs (h.2 d' hd')
def tg (n L:Nat):(m:Nat)->List Nat->DD (L+1)->DD m
 | 0,_,u=>(evD (L+1) u (List.replicate (L+1) 0):Int)
 | m+1,o,u=>DD.of ((List.range n).map fun s=>tg n L m o.tail (fixD (L+1 - o.headD 0) s (L+1) u))
theorem tg_kids {n L m:Nat} {o:List Nat} {u:DD (L+1)}:(tg n L (m+1) o u).kids=(List.range n).map fun s=>tg n L m o.tail (fixD (L+1 - o.headD 0) s (L+1) u):=rfl
theorem zeros_sts {n m:Nat} (hn:1<=n):Sts n m (List.replicate m 0):=⟨List.length_replicate,fun s hs=>by
 grind⟩
theorem tg_reg {n L:Nat} (hn:1<=n):∀ (m:Nat) (o:List Nat) (u:DD (L+1)),Reg n (L+1) u->Reg n m (tg n L m o u)
 | 0,_,_,h=>evD_in hn h (zeros_sts hn)
 | m+1,o,u,h=>⟨by unfold tg; rw[DD.kids_of,List.length_map,List.length_range],fun d hd=>by
  unfold tg at hd
  rw[DD.kids_of] at hd
  obtain⟨s,hs,rfl⟩:=List.mem_map.1 hd
  exact tg_reg hn m o.tail _ (fixD_reg (List.mem_range.1 hs) h)⟩
def place:List Nat->List Nat->List Nat->List Nat
 | k::o,s::l,b=>(place o l b).set k s
 | _,_,b=>b
end Go.Proofs.YtlifofijgddjkabGreatDoor
namespace Go.Proofs.YtlifofijgddjkabGreatDoor
open Go.AM Go.Proofs
section
variable {n n' L L':Nat} {t t':Tree} {u:DD (L+1)} {u':DD (L'+1)}
end
end Go.Proofs.YtlifofijgddjkabGreatDoor
namespace Go.Proofs.YtlifofijgddjkabGreatDoor
open Go.AM Go.Proofs
structure Spl (out:List Point) (x:Point) (pre suf:List Point):Prop where
 eq:out=pre++suf
 lo:∀ y∈pre,befP y x=true
 hi:∀ y,suf.head?=some y->befP y x=false
end Go.Proofs.YtlifofijgddjkabGreatDoor
namespace Go.Proofs.YtlifofijgddjkabGreatDoor
open Go.AM Go.Proofs
abbrev tr (S:Int) (Hd:List Point) {L:Nat} (u:DD (L+1)):Tree:=⟨S,Hd,ser (post (L+1) u [])⟩
structure RE (n:Nat) (S:Int) (Hd:List Point) (L:Nat) (u:DD (L+1)):Prop where
 hL:L+1=Hd.length
 hd:hoodOk Hd=true
 tok:TOk n (tr S Hd u)
 rep:∃ j,j+1=(ser (post (L+1) u [])).length/\Rep (ser (post (L+1) u [])) (L+1) (j:Nat) u
 reg:Reg n (L+1) u
section
variable {n:Nat} {S:Int} {Hd:List Point} {L:Nat} {u u':DD (L+1)}
structure EI (n:Nat) (S:Int) (Hd:List Point) (L:Nat) (ord:List Nat) (keys:List Tree) (out:List Node):Prop where
 len:keys.length=out.length
 good:Good n out
 ent:∀ (j:Nat) f x,keys[j]?=some f->out[j]?=some x->∃ (m:Nat) (u:DD (L+1)),x.Level=(m:Int)+1/\f=tr S Hd u/\RE n S Hd L u/\Rep out (m+1) (j:Nat) (tg n L (m+1) (ord.drop (ord.length - (m+1))) u)
variable {ord:List Nat} {keys:List Tree} {out:List Node} {m i:Nat}
structure KI (n:Nat) (S:Int) (Hd:List Point) (L:Nat) (ord:List Nat) (out:List Node) (u:DD (L+1)) (m i k0 s:Nat) (keys1:List Tree) (out1:List Node) (l:List Int):Prop where
 ei:EI n S Hd L ord keys1 out1
 ext:∃ ws,out1=out++ws
 len:out1.length<=out.length+s*cntN n m
 ll:l.length=s
 rep:∀ (j:Nat) k',l[j]?=some k'->Rep out1 m k' (tg n L m (ord.drop (i+1)) (fixD (L+1 - k0) j (L+1) u))
theorem EI.push {k0:Nat} {keys1:List Tree} {out1:List Node} {l:List Int} (K:KI n S Hd L ord out u m i k0 n keys1 out1 l) (R:RE n S Hd L u) (hi:i+(m+1)=ord.length) (hk:ord[i]?=some k0) :
  EI n S Hd L ord (keys1++[tr S Hd u]) (out1++[⟨(m:Int)+1,l⟩])/\Rep (out1++[⟨(m:Int)+1,l⟩]) (m+1) (out1.length:Nat) (tg n L (m+1) (ord.drop i) u):=by
 have hn2:=R.tok.n2
 have hdrop:ord.drop i=k0::ord.drop (i+1):=by
  grind [List.drop_eq_getElem_cons]
 have hget:∀ (j:Nat) k' d,l[j]?=some k'->(tg n L (m+1) (ord.drop i) u).kids[j]?=some d->d=tg n L m (ord.drop (i+1)) (fixD (L+1 - k0) j (L+1) u):=fun j k' d h1 h2=>by
  grind [tg_kids]
 have hrep:Rep (out1++[⟨(m:Int)+1,l⟩]) (m+1) (out1.length:Nat) (tg n L (m+1) (ord.drop i) u):=by
  refine⟨⟨(m:Int)+1,l⟩,by rw[idx_nat,List.getElem?_append_right (Nat.le_refl _),Nat.sub_self]; rfl,rfl,?_,fun j k' d h1 h2=>?_⟩
  ·rw[tg_kids,List.length_map,List.length_range]
   exact K.ll
  ·rw[hget j k' d h1 h2]
   exact (K.rep j k' h1).app
 have hg:=K.ei.good
 refine⟨⟨by rw[List.length_append,List.length_append,K.ei.len]; rfl,⟨fun j x hx=>?_,fun j x hx=>?_,fun j x hx=>?_,fun j x hx=>?_⟩,fun j f x hf hx=>?_⟩,hrep⟩
 all_goals rcases Nat.lt_or_ge j out1.length with hlt | hge
 ·rw[List.getElem?_append_left hlt] at hx
  exact hg.lev j x hx
 ·grind
 ·rw[List.getElem?_append_left hlt] at hx
  exact hg.len j x hx
 ·rw[List.getElem?_append_right hge] at hx
  obtain⟨_,hx⟩:=List.getElem?_eq_some_iff.1 hx
  simp at hx
  rw[<- hx]
  exact K.ll
 ·rw[List.getElem?_append_left hlt] at hx
  intro h1 k' hk'
  obtain⟨a1,a2,y,a3,a4⟩:=hg.kid j x hx h1 k' hk'
  grind
 ·rw[List.getElem?_append_right hge] at hx
  obtain⟨_,hx⟩:=List.getElem?_eq_some_iff.1 hx
  simp at hx
  intro h1 k' hk'
  rw[<- hx] at h1 hk' ⊢
  dsimp only at h1 hk' ⊢
  obtain⟨p,hp⟩:=List.mem_iff_getElem?.1 hk'
  have hr:=K.rep p k' hp
  obtain⟨m',rfl⟩:∃ m',m=m'+1:=⟨m - 1,by omega⟩
  obtain⟨y,y1,y2,_⟩:=hr
  obtain⟨b1,b2,b3⟩:=idx_lt y1
  grind
 ·rw[List.getElem?_append_left hlt] at hx
  exact hg.st j x hx
 ·rw[List.getElem?_append_right hge] at hx
  obtain⟨_,hx⟩:=List.getElem?_eq_some_iff.1 hx
  simp at hx
  intro h1 k' hk'
  rw[<- hx] at h1 hk'
  dsimp only at h1 hk'
  obtain rfl:m=0:=by omega
  obtain⟨p,hp⟩:=List.mem_iff_getElem?.1 hk'
  have hpn:p < n:=by
   have:=(List.getElem?_eq_some_iff.1 hp).1
   rw[K.ll] at this
   exact this
  have hr:k'=tg n L 0 (ord.drop (i+1)) (fixD (L+1 - k0) p (L+1) u):=K.rep p k' hp
  rw[hr]
  exact tg_reg (by omega) 0 _ _ (fixD_reg hpn R.reg)
 ·rw[List.getElem?_append_left hlt] at hx
  rw[List.getElem?_append_left (by rw[K.ei.len]; exact hlt)] at hf
  obtain⟨m',u',a1,a2,a3,a4⟩:=K.ei.ent j f x hf hx
  exact⟨m',u',a1,a2,a3,a4.app⟩
 ·rw[List.getElem?_append_right hge] at hx
  rw[List.getElem?_append_right (by rw[K.ei.len]; exact hge)] at hf
  obtain⟨c1,hx⟩:=List.getElem?_eq_some_iff.1 hx
  obtain⟨_,hf⟩:=List.getElem?_eq_some_iff.1 hf
  simp at hx hf c1
  refine⟨m,u,by rw[<- hx],hf.symm,R,?_⟩
  grind
end
end Go.Proofs.YtlifofijgddjkabGreatDoor
namespace Go.Proofs.YtlifofijgddjkabGreatDoor
open Go.AM Go.Proofs
def allL (n:Nat):Nat->List (List Nat)
 | 0=>[[]]
 | m+1=>(List.range n).flatMap fun s=>(allL n m).map (s::·)
theorem mem_allL {n:Nat}:∀ {m:Nat} {l:List Nat},l∈allL n m↔Sts n m l
 | 0,l=>by
  constructor
  ·intro h
   obtain rfl:=List.mem_singleton.1 h
   exact⟨rfl,fun s hs=>by cases hs⟩
  ·intro h
   rw[List.eq_nil_of_length_eq_zero h.1]
   exact List.mem_singleton.2 rfl
 | m+1,l=>by
  constructor
  ·intro h
   obtain⟨s,hs,h⟩:=List.mem_flatMap.1 h
   obtain⟨l',hl',rfl⟩:=List.mem_map.1 h
   exact (mem_allL.1 hl').of_cons (List.mem_range.1 hs)
  ·intro h
   cases l with
   | nil=>have:=h.1; simp at this
   | cons s l=>exact List.mem_flatMap.2 ⟨s,List.mem_range.2 h.cons.1,List.mem_map.2 ⟨l,mem_allL.2 h.cons.2,rfl⟩⟩
def valN (t:Tree) (l:List Nat):Option Int:=walkV t (l.map fun s:Nat=>(s:Int)) ((t.Nodes.length - 1:Nat):Int)
def chk (t:Tree) (k:Nat):Bool:=t.Hood.all (fun p=>t.Hood.contains (apK k p)) && (allL t.States.toNat t.Hood.length).all fun l=>decide (valN t l=valN t ((t.Hood.map fun p=>t.Hood.idxOf (apK k p)).map fun i=>l.getD i 0))
section
variable {n L:Nat} {t:Tree} {u:DD (L+1)}
theorem TD.val (T:TD n L t u) {l:List Nat} (hl:Sts n (L+1) l):valN t l=some (evD (L+1) u l):=by
 obtain⟨i,hi,hr⟩:=T.rep
 unfold valN
 rw[show t.Nodes.length - 1=i by omega]
 exact walk_ev hr T.reg hl
theorem chk_iff (T:TD n L t u) {k:Nat}:chk t k=true↔Inv n L t u k:=by
 have hst:=T.tok.st
 have hn2:=T.tok.n2
 have hL:=T.hL
 have hnd:=sorted_nodup (hood_sorted (tok_hood T.ok))
 unfold chk
 rw[show t.States.toNat=n by omega,<- hL,Bool.and_eq_true,List.all_eq_true,List.all_eq_true]
 have hsts:∀ c:Point->Nat,(∀ p,c p < n)->Sts n (L+1) (t.Hood.map c):=fun c hc=>⟨by rw[List.length_map,hL],fun s hs=>by
  obtain⟨p,_,rfl⟩:=List.mem_map.1 hs
  exact hc p⟩
 constructor
 ·rintro⟨h1,h2⟩
  have hood:∀ p∈t.Hood,apK k p∈t.Hood:=fun p hp=>by simpa using h1 p hp
  refine⟨hood,fun c hc=>?_⟩
  have h:=of_decide_eq_true (h2 (t.Hood.map c) (mem_allL.2 (hsts c hc)))
  have e:((t.Hood.map fun p=>t.Hood.idxOf (apK k p)).map fun i=>(t.Hood.map c).getD i 0)=t.Hood.map fun p=>c (apK k p):=by
   rw[List.map_map]
   refine List.map_congr_left fun p hp=>?_
   have hlt:=List.idxOf_lt_length_iff.2 (hood p hp)
   show (t.Hood.map c).getD (t.Hood.idxOf (apK k p)) 0=c (apK k p)
   rw[List.getD_eq_getElem?_getD,List.getElem?_map,List.getElem?_eq_getElem hlt,List.getElem_idxOf hlt]
   rfl
  rw[e,T.val (hsts c hc),T.val (hsts (fun p=>c (apK k p)) fun p=>hc _)] at h
  exact Option.some.inj h
 ·intro hi
  refine⟨fun p hp=>by simpa using hi.hood p hp,fun l hl=>decide_eq_true ?_⟩
  have hl':=mem_allL.1 hl
  obtain⟨c,hc⟩:∃ c:Point->Nat,c=fun p=>l.getD (t.Hood.idxOf p) 0:=⟨_,rfl⟩
  have hcn:∀ p,c p < n:=fun p=>by
   rw[hc]
   dsimp only
   rw[List.getD_eq_getElem?_getD]
   cases hg:l[t.Hood.idxOf p]? with
   | none=>show (0:Nat) < n; omega
   | some x=>exact hl'.2 x (List.mem_of_getElem? hg)
  have hcl:t.Hood.map c=l:=by
   apply List.ext_getElem?
   intro i
   rw[List.getElem?_map]
   have hll:=hl'.1
   rcases Nat.lt_or_ge i t.Hood.length with h | h
   ·have hx:t.Hood.idxOf t.Hood[i]=i:=(List.getElem_inj hnd).1 (List.getElem_idxOf (List.idxOf_lt_length_iff.2 (List.getElem_mem h)))
    rw[List.getElem?_eq_getElem h,Option.map_some,hc]
    dsimp only
    rw[hx,List.getD_eq_getElem?_getD,List.getElem?_eq_getElem (by omega)]
    rfl
   ·rw[List.getElem?_eq_none h,List.getElem?_eq_none (by omega)]
    rfl
  have e:((t.Hood.map fun p=>t.Hood.idxOf (apK k p)).map fun i=>l.getD i 0)=t.Hood.map fun p=>c (apK k p):=by
   rw[List.map_map,hc]
   rfl
  have h:=hi.sem c hcn
  rw[e,T.val (hsts (fun p=>c (apK k p)) fun p=>hcn _),<- h,hcl,T.val hl']
theorem syms_chk (hok:treeOk t=true) (h9:t.Hood.length<=9):m_notation_Syms t=some (selL (chk t) 8):=by
 obtain⟨n,L,u,T⟩:=td_of hok
 have hL:=T.hL
 exact syms_is T (cnt9 T.tok.n8 (by omega)) _ fun k _=>chk_iff T
end
end Go.Proofs.YtlifofijgddjkabGreatDoor
