/- Plain laws: the state that a rule's tree leads to, also where some of the states are fixed. -/
import Derived.Test.YtjlckgeecihpbaaGreatDoorVax1
import Derived.Test.YtjlckgeecihpbaaGreatDoorUcx2
namespace Go.Proofs.YtjlckgeecihpbaaGreatDoor
open Go.AM Go.Proofs
def evD:(m:Nat)->DD m->List Int->Option Int
 | 0,u,_=>some (show Int from u)
 | _+1,_,[]=>none
 | m+1,u,s::L=>((DD.kids u)[s.toNat]?).bind fun d=>evD m d L
theorem rep_ev {n:Nat} {t:Tree}:∀ {m:Nat} {k:Int} {u:DD m} {L:List Int},Rep t.Nodes m k u->Reg n m u->L.length=m->(∀ s∈L,0<=s/\s < (n:Int))->fE t L k=evD m u L
 | 0,k,u,L,h,_,hl,_=>by
  obtain rfl:L=[]:=List.eq_nil_of_length_eq_zero hl
  exact congrArg some (show k=u from h)
 | m+1,k,u,[],_,_,hl,_=>by simp at hl
 | m+1,k,u,s::L,⟨x,h1,_,h3,h4⟩,hr,hl,hs=>by
  obtain⟨s0,s1⟩:=hs s (by simp)
  have hn:=hr.1
  have hx:x.Next[s.toNat]?=some (x.Next[s.toNat]'(by omega)):=List.getElem?_eq_getElem _
  have hu:u.kids[s.toNat]?=some (u.kids[s.toNat]'(by omega)):=List.getElem?_eq_getElem _
  rw[fE,h1,evD,hu]
  simp only[aX]
  rw[gx _ s0,hx]
  exact rep_ev (h4 _ _ _ hx hu) (hr.2 _ (List.getElem_mem _)) (by simpa using hl) fun y hy=>hs y (by simp[hy])
theorem ev_fix {n M s:Nat} (hM:1<=M):∀ {m:Nat} {u:DD m} {L:List Int},Reg n m u->L.length=m->(∀ s∈L,0<=s/\s < (n:Int))->(M<=m->L[m - M]?=some (s:Int))->evD m (k8 M s m u) L=evD m u L
 | 0,_,_,_,_,_,_=>rfl
 | m+1,u,[],_,hl,_,_=>by simp at hl
 | m+1,u,a::L,hr,hl,hs,hp=>by
  obtain⟨a0,a1⟩:=hs a (by simp)
  have hn:=hr.1
  have hu:u.kids[a.toNat]?=some (u.kids[a.toNat]'(by omega)):=List.getElem?_eq_getElem _
  have hrd:=hr.2 _ (List.getElem_mem (l:=u.kids) (n:=a.toNat) (by omega))
  generalize u.kids[a.toNat]'(by omega)=d at hu hrd
  have hsL:∀ y∈L,0<=y/\y < (n:Int):=fun y hy=>hs y (by simp[hy])
  have hlL:L.length=m:=by simpa using hl
  rw[evD,evD,hu,aX]
  by_cases hm:m+1=M
  ·have ha:a=(s:Int):=by
    have:=hp (by omega)
    rw[hm,Nat.sub_self] at this
    simpa using this
   have hk:(k8 M s (m+1) u).kids[a.toNat]?=some (k8 M s m d):=by
    rw[fixD_at hm,List.getElem?_replicate,if_pos (by omega),List.getD_eq_getElem?_getD,List.getElem?_map,show s=a.toNat by omega,hu]
    rfl
   rw[hk,aX]
   exact ev_fix hM hrd hlL hsL fun h=>by omega
  ·have hk:(k8 M s (m+1) u).kids[a.toNat]?=some (k8 M s m d):=by
    rw[fixD_off hm,List.getElem?_map,hu]
    rfl
   rw[hk,aX]
   refine ev_fix hM hrd hlL hsL fun h=>?_
   have:=hp (by omega)
   rwa [show m+1 - M=(m - M)+1 by omega,List.getElem?_cons_succ] at this
section
variable {n b:Nat} {S:Int} {Hd:List Point} {L:Nat} {u:DD (L+1)}
theorem ev_fixI (R:RD n S Hd L u) {in_:List SV} {Ls:List Int} (hl:in_.length=Hd.length) (hv:∀ v∈in_,VOk n b v) (hb:1<=b) (hLl:Ls.length=Hd.length) (hLs:∀ s∈Ls,0<=s/\s < (n:Int))
  (hc:∀ (k:Nat) v,in_[k]?=some v->isE v.2=true->Ls[k]?=some v.1):∀ k,k<=Hd.length->evD (L+1) (fixI Hd.length in_ u k) Ls=evD (L+1) u Ls
 | 0,_=>rfl
 | k+1,hk=>by
  have ih:=ev_fixI R hl hv hb hLl hLs hc k (by omega)
  have RR:=fixI_rd R hl hv hb k (by omega)
  have hg:in_[k]?=some (in_.getD k (0,[])):=by rw[List.getD_eq_getElem?_getD,List.getElem?_eq_getElem (by omega)]; rfl
  unfold fixI
  cases he:isE (in_.getD k (0,[])).2 with
  | false=>exact ih
  | true =>
   rw[cond_true,<- ih]
   have hLk:=hc k _ hg he
   have h0:=hLs _ (List.mem_of_getElem? hLk)
   obtain⟨j,_,hr⟩:=RR.rep
   have hLL:=R.hL
   refine ev_fix (n:=n) (by omega) (hr.reg RR.tok.good) (by omega) hLs fun h=>?_
   rw[show L+1 - (Hd.length - k)=k by omega,hLk,Int.toNat_of_nonneg h0.1]
theorem walk_trS (R:RD n S Hd L u) {in_:List SV} {Ls:List Int} (hl:in_.length=Hd.length) (hv:∀ v∈in_,VOk n b v) (hb:1<=b) (hLl:Ls.length=Hd.length) (hLs:∀ s∈Ls,0<=s/\s < (n:Int))
  (hc:∀ (k:Nat) v,in_[k]?=some v->isE v.2=true->Ls[k]?=some v.1) :
  fE ⟨S,Hd,trS Hd.length u in_⟩ Ls (((trS Hd.length u in_).length - 1:Nat):Int)=evD (L+1) u Ls:=by
 have RR:=fixI_rd R hl hv hb Hd.length (Nat.le_refl _)
 obtain⟨j,hj,hr⟩:=RR.rep
 have hLL:=R.hL
 rw[show (trS Hd.length u in_).length - 1=j by unfold trS; omega,rep_ev (t:=⟨S,Hd,trS Hd.length u in_⟩) (n:=n) (m:=L+1) (u:=fixI Hd.length in_ u Hd.length) hr (hr.reg RR.tok.good) (by omega) hLs]
 exact ev_fixI R hl hv hb hLl hLs hc Hd.length (Nat.le_refl _)
end
end Go.Proofs.YtjlckgeecihpbaaGreatDoor
namespace Go.Proofs.YtjlckgeecihpbaaGreatDoor
open Go.AM Go.Proofs
section
variable {n b:Nat} {S:Int} {Hd:List Point} {L:Nat} {u:DD (L+1)}
def pU (Hd:List Point) (O:Int->Int->Nat) (x y:Int):List Int:=Hd.map fun d=>((O (x+d.X) (y+d.Y):Nat):Int)
def newC (u:DD (L+1)) (Hd:List Point) (O:Int->Int->Nat) (x y:Int):Nat:=((evD (L+1) u (pU Hd O x y)).getD 0).toNat
def FD (n b:Nat) (A:Val) (V:Nat) (X Y:Int) (W H:Nat) (vals:List SV) (O:Int->Int->Nat):Prop:=∀ x y,VOk n b (atS X Y W H vals x y)/\O x y < n/\Den A b (atS X Y W H vals x y) (O x y)/\Vrs V (atS X Y W H vals x y).2
variable {A:Val} {V:Nat} {X Y:Int} {W H:Nat} {vals:List SV} {O:Int->Int->Nat}
theorem FD.agree {A':Val} {V':Nat} (h:FD n b A V X Y W H vals O) (hA:∀ k,k<=V->A' k=A k) (hV:V<=V'):FD n b A' V' X Y W H vals O:=fun x y =>
 let ⟨h1,h2,h3,h4⟩:=h x y
 ⟨h1,h2,h3.agree h4 hA,h4.mono hV⟩
theorem cell_sem (R:RD n S Hd L u) (B:SB n b) (hV:V<=900000) (F:FD n b A V X Y W H vals O) (px py:Int) (cs0:List (List Int)) :
  ∃ (V':Nat) (A':Val) (ds:List (List Int)),(eO b Hd.length (inS X Y W H vals Hd px py) (trS Hd.length u (inS X Y W H vals Hd px py)) ((V:Int),cs0,[])).1=(V':Int)/\V<=V'/\(∀ k,k<=V->A' k=A k) /\
   (eO b Hd.length (inS X Y W H vals Hd px py) (trS Hd.length u (inS X Y W H vals Hd px py)) ((V:Int),cs0,[])).2.1=cs0++ds/\Sat A' ds/\(∀ d∈ds,kA V' d)/\(∀ k,V < k->k<=V'->Det A' ds k)/\newC u Hd O px py < n /\
   Den A' b ((eO b Hd.length (inS X Y W H vals Hd px py) (trS Hd.length u (inS X Y W H vals Hd px py)) ((V:Int),cs0,[])).2.2.getLastD (0,[])) (newC u Hd O px py)/\Vrs V' ((eO b Hd.length (inS X Y W H vals Hd px py) (trS Hd.length u (inS X Y W H vals Hd px py)) ((V:Int),cs0,[])).2.2.getLastD (0,[])).2:=by
 have hl:(inS X Y W H vals Hd px py).length=Hd.length:=by unfold inS; rw[List.length_map]
 have hget:∀ (k:Nat) v,(inS X Y W H vals Hd px py)[k]?=some v->∃ d:Point,v=atS X Y W H vals (px+d.X) (py+d.Y)/\(pU Hd O px py)[k]?=some ((O (px+d.X) (py+d.Y):Nat):Int):=fun k v hk=>by
  unfold inS at hk
  rw[List.getElem?_map] at hk
  cases hd:Hd[k]? with
  | none=>rw[hd] at hk; cases hk
  | some d =>
   rw[hd] at hk
   exact⟨d,(Option.some.inj hk).symm,by unfold pU; rw[List.getElem?_map,hd]; rfl⟩
 have hv:∀ v∈inS X Y W H vals Hd px py,VOk n b v:=fun v hv'=>by
  obtain⟨k,hk⟩:=List.mem_iff_getElem?.1 hv'
  obtain⟨d,rfl,_⟩:=hget k v hk
  exact (F _ _).1
 have hin:Ins n b V A (inS X Y W H vals Hd px py) (pU Hd O px py):=fun k v hk=>by
  obtain⟨d,rfl,h2⟩:=hget k v hk
  obtain⟨_,f2,f3,f4⟩:=F (px+d.X) (py+d.Y)
  exact⟨_,f2,h2,f3,f4⟩
 have hLl:(pU Hd O px py).length=Hd.length:=by unfold pU; rw[List.length_map]
 have hLs:∀ s∈pU Hd O px py,0<=s/\s < (n:Int):=fun s hs=>by
  unfold pU at hs
  obtain⟨d,_,rfl⟩:=List.mem_map.1 hs
  have:=(F (px+d.X) (py+d.Y)).2.1
  omega
 have b1:=B.b1
 have hc:∀ (k:Nat) v,(inS X Y W H vals Hd px py)[k]?=some v->isE v.2=true->(pU Hd O px py)[k]?=some v.1:=fun k v hk he=>by
  obtain⟨d,rfl,h2⟩:=hget k v hk
  rcases (F (px+d.X) (py+d.Y)).2.2.1 with ⟨_,e⟩ | ⟨e,_⟩
  ·rw[h2,e]
  ·rw[mh he] at e
   simp at e
   omega
 have WTT:=wt_fix R B hl hv
 have hw:=walk_trS R hl hv b1 hLl hLs hc
 obtain⟨i,x,e1,e2,e3⟩:=(fixI_rd R hl hv b1 Hd.length (Nat.le_refl _)).tok.root
 obtain⟨V',A',ds,c,q1,q2,q3,q4,q5,q6,q7,q8,q9,q10,q11⟩:=tree_sem (R:=⟨S,Hd,trS Hd.length u (inS X Y W H vals Hd px py)⟩) WTT B.pw hin hLl hV ⟨x,by
  dsimp only [trS] at e1 e2 ⊢
  rwa [show (ser (post (L+1) (fixI Hd.length (inS X Y W H vals Hd px py) u Hd.length) [])).length - 1=i from by omega],e3⟩ cs0
 dsimp only at q1 q4 q9 q10 q11
 rw[hw] at q9
 have hn:newC u Hd O px py=c:=by
  unfold newC
  rw[q9]
  exact Int.toNat_natCast c
 rw[hn]
 exact⟨V',A',ds,q1,q2,q3,q4,q5,q6,q7,q8,q10,q11⟩
structure NS (n b:Nat) (V:Nat) (A:Val) (cs0:List (List Int)) (X' Y':Int) (W':Nat) (O':Int->Int->Nat) (i:Nat) (st:FS) (V':Nat) (A':Val) (ds:List (List Int)):Prop where
 v:st.1=(V':Int)
 le:V<=V'
 agr:∀ k,k<=V->A' k=A k
 cs:st.2.1=cs0++ds
 sat:Sat A' ds
 lits:∀ d∈ds,kA V' d
 det:∀ k,V < k->k<=V'->Det A' ds k
 len:st.2.2.length=i
 val:∀ (j:Nat) v,st.2.2[j]?=some v->O' (X'+(j % W':Nat)) (Y'+(j / W':Nat)) < n/\Den A' b v (O' (X'+(j % W':Nat)) (Y'+(j / W':Nat)))/\Vrs V' v.2
theorem next_sem (R:RD n S Hd L u) (B:SB n b) (F:FD n b A V X Y W H vals O) {X' Y':Int} {W' m:Nat} {cs0:List (List Int)} (hm:(fD b Hd.length (inS X Y W H vals Hd) (trS Hd.length u) X' Y' W' ((V:Int),cs0,[]) m).1<=65536):∀ i,i<=m->∃ V' A' ds,
  NS n b V A cs0 X' Y' W' (newC u Hd O) i (fD b Hd.length (inS X Y W H vals Hd) (trS Hd.length u) X' Y' W' ((V:Int),cs0,[]) i) V' A' ds
 | 0,_=>⟨V,A,[],rfl,Nat.le_refl _,fun _ _=>rfl,(List.append_nil _).symm,(fun d hd=>by cases hd),(fun d hd=>by cases hd),(fun k h1 h2=>by omega),rfl,(fun j v hv=>by simp[fD] at hv)⟩
 | i+1,hi=>by
  obtain⟨V',A',ds,N⟩:=next_sem R B F hm i (by omega)
  have hmono:=(nl b Hd.length (inS X Y W H vals Hd) (trS Hd.length u) X' Y' W' ((V:Int),cs0,[]) i (m - i)).1
  rw[show i+(m - i)=m by omega] at hmono
  have hv:=N.v
  have F':=F.agree N.agr N.le
  obtain⟨V2,A2,ds2,q1,q2,q3,q4,q5,q6,q7,q8,q9,q10⟩:=cell_sem R B (A:=A') (V:=V') (by omega) F' (X'+(i % W':Nat)) (Y'+(i / W':Nat)) (cs0++ds)
  rw[fD]
  generalize fD b Hd.length (inS X Y W H vals Hd) (trS Hd.length u) X' Y' W' ((V:Int),cs0,[]) i=st at N hv hmono ⊢
  obtain⟨v,c,vs⟩:=st
  obtain⟨n1,n2,n3,n4,n5,n6,n7,n8,n9⟩:=N
  dsimp only at n1 n4 n8 n9
  subst n1 n4
  refine⟨V2,A2,ds++ds2,q1,Nat.le_trans n2 q2,fun k hk=>by rw[q3 k (by omega),n3 k hk],?_,?_,?_,?_,?_,?_⟩
  ·show (eO _ _ _ _ _).2.1=_
   rw[q4,List.append_assoc]
  ·exact Sat.app.2 ⟨(Sat.agree n6 q3).2 n5,q5⟩
  ·intro d hd
   rcases List.mem_append.1 hd with hd | hd
   ·exact (n6 d hd).mono q2
   ·exact q6 d hd
  ·intro k h1 h2
   rcases Nat.lt_or_ge V' k with h3 | h3
   ·exact (q7 k h3 h2).app'
   ·exact ((n7 k h1 h3).agree fun j hj=>q3 j (by omega)).app
  ·show (vs++[_]).length=_
   rw[List.length_append,n8]
   rfl
  ·intro j v hj
   change (vs++[_])[j]?=some v at hj
   rw[List.getElem?_append] at hj
   split at hj
   ·obtain⟨h1,h2,h3⟩:=n9 j v hj
    exact⟨h1,h2.agree h3 q3,h3.mono q2⟩
   ·rename_i hjl
    have hj0:j - vs.length=0:=by
     have:=(List.getElem?_eq_some_iff.1 hj).1
     simp only[List.length_singleton] at this
     omega
    rw[hj0] at hj
    obtain rfl:j=i:=by omega
    rw[<- Option.some.inj hj]
    exact⟨q8,q9,q10⟩
end
end Go.Proofs.YtjlckgeecihpbaaGreatDoor
namespace Go.Proofs.YtjlckgeecihpbaaGreatDoor
open Go.AM Go.Proofs
section
variable {n b:Nat} {S:Int} {Hd:List Point} {L:Nat} {u:DD (L+1)} {A:Val} {V:Nat} {X Y:Int} {W H r:Nat} {vals:List SV} {O:Int->Int->Nat}
theorem FD.out (hb:1<=b) (F:FD n b A V X Y W H vals O) {x y:Int} (h:inB X Y W H x y=false):O x y=0:=by
 have h1:=(F x y).2.2.1
 unfold atS at h1
 rw[h,cond_false] at h1
 rcases h1 with ⟨_,h1⟩ | ⟨h1,_⟩
 ·exact (Int.ofNat_inj.1 h1).symm
 ·simp at h1
  omega
theorem next_fd (hb:1<=b) (hn:2<=n) (F:FD n b A V X Y W H vals O) (hp:∀ d∈Hd,-(r:Int)<=d.X/\d.X<=r/\-(r:Int)<=d.Y/\d.Y<=r) (hq:evD (L+1) u (List.replicate Hd.length 0)=some 0)
  {cs0 ds:List (List Int)} {st:FS} {V':Nat} {A':Val} (N:NS n b V A cs0 (X - r) (Y - r) (W+2*r) (newC u Hd O) ((W+2*r)*(H+2*r)) st V' A' ds) (hvv:∀ v∈st.2.2,VOk n b v) :
  FD n b A' V' (X - r) (Y - r) (W+2*r) (H+2*r) st.2.2 (newC u Hd O):=fun x y=>by
 have hok:VOk n b (atS (X - r) (Y - r) (W+2*r) (H+2*r) st.2.2 x y):=atS_ok (by omega) N.len hvv x y
 cases hin:inB (X - r) (Y - r) (W+2*r) (H+2*r) x y with
 | true =>
  obtain⟨i1,i2,i3,i4⟩:=gy.1 hin
  obtain⟨a,ha⟩:∃ a:Nat,x=X - r+a:=⟨(x - (X - r)).toNat,by omega⟩
  obtain⟨c,hc⟩:∃ c:Nat,y=Y - r+c:=⟨(y - (Y - r)).toNat,by omega⟩
  have ha':a < W+2*r:=by omega
  have hc':c < H+2*r:=by omega
  have hj:=pI hc' ha'
  have hat:atS (X - r) (Y - r) (W+2*r) (H+2*r) st.2.2 x y=st.2.2.getD (c*(W+2*r)+a) (0,[]):=by
   unfold atS
   rw[hin,cond_true,show (y - (Y - r)).toNat=c by omega,show (x - (X - r)).toNat=a by omega]
  have hg:st.2.2[c*(W+2*r)+a]?=some (st.2.2.getD (c*(W+2*r)+a) (0,[])):=by
   rw[List.getD_eq_getElem?_getD,List.getElem?_eq_getElem (by rw[N.len]; exact hj)]
   rfl
  have hv:=N.val _ _ hg
  rw[Nat.mul_comm c,Nat.mul_add_mod,Nat.mod_eq_of_lt ha',Nat.mul_add_div (by omega),Nat.div_eq_of_lt ha',Nat.add_zero,Nat.mul_comm _ c,<- ha,<- hc,<- hat] at hv
  exact⟨hok,hv⟩
 | false =>
  have h0:newC u Hd O x y=0:=by
   have hs:pU Hd O x y=List.replicate Hd.length 0:=by
    refine List.eq_replicate_iff.2 ⟨by unfold pU; rw[List.length_map],fun s hs=>?_⟩
    unfold pU at hs
    obtain⟨d,hd,rfl⟩:=List.mem_map.1 hs
    obtain⟨p1,p2,p3,p4⟩:=hp d hd
    rw[F.out hb]
    ·rfl
    ·rw[<- Bool.not_eq_true]
     intro h
     obtain⟨i1,i2,i3,i4⟩:=gy.1 h
     rw[gy.2 ⟨by omega,by omega,by omega,by omega⟩] at hin
     cases hin
   unfold newC
   rw[hs,hq]
   rfl
  rw[h0]
  unfold atS
  rw[hin,cond_false]
  refine⟨by unfold atS at hok; rwa [hin,cond_false] at hok,by omega,.inl ⟨rfl,rfl⟩,fun z hz=>by cases hz⟩
def sgC (u:DD (L+1)) (Hd:List Point) (O:Int->Int->Nat):Nat->Int->Int->Nat
 | 0=>O
 | g+1=>newC u Hd (sgC u Hd O g)
def iO (b w h r:Nat) (Hd:List Point) (u:DD (L+1)) (F0:FS):Nat->FS
 | 0=>F0
 | g+1 =>
  let F:=iO b w h r Hd u F0 g
  fD b Hd.length (inS (gX r g) (gX r g) (gW w r g) (gW h r g) F.2.2 Hd) (trS Hd.length u) (gX r (g+1)) (gX r (g+1)) (gW w r (g+1)) (F.1,F.2.1,[]) (gW w r (g+1)*gW h r (g+1))
structure GS (n b:Nat) (V:Nat) (A:Val) (cs0:List (List Int)) (X Y:Int) (W H:Nat) (O:Int->Int->Nat) (st:FS) (V':Nat) (A':Val) (ds:List (List Int)):Prop where
 v:st.1=(V':Int)
 le:V<=V'
 agr:∀ k,k<=V->A' k=A k
 cs:st.2.1=cs0++ds
 sat:Sat A' ds
 lits:∀ d∈ds,kA V' d
 det:∀ k,V < k->k<=V'->Det A' ds k
 fd:FD n b A' V' X Y W H st.2.2 O
theorem gen_sem {w h G:Nat} {F0:FS} (R:RD n S Hd L u) (B:SB n b) (hp:∀ d∈Hd,-(r:Int)<=d.X/\d.X<=r/\-(r:Int)<=d.Y/\d.Y<=r) (hq:evD (L+1) u (List.replicate Hd.length 0)=some 0) (h0:F0.1=(V:Int)) (F:FD n b A V 0 0 w h F0.2.2 O)
  (hG:(iO b w h r Hd u F0 G).1<=65536) (hmono:∀ g,g<=G->(iO b w h r Hd u F0 g).1<=(iO b w h r Hd u F0 G).1) (hvv:∀ g,g<=G->∀ v∈(iO b w h r Hd u F0 g).2.2,VOk n b v):∀ g,g<=G->∃ V' A' ds,
  GS n b V A F0.2.1 (gX r g) (gX r g) (gW w r g) (gW h r g) (sgC u Hd O g) (iO b w h r Hd u F0 g) V' A' ds
 | 0,_=>⟨V,A,[],h0,Nat.le_refl _,fun _ _=>rfl,(List.append_nil _).symm,(fun d hd=>by cases hd),(fun d hd=>by cases hd),(fun k h1 h2=>by omega),by
   have e1:gX r 0=0:=by unfold gX; simp
   have e2:∀ w,gW w r 0=w:=fun w=>by unfold gW; simp
   rw[e1,e2,e2]
   exact F⟩
 | g+1,hg=>by
  obtain⟨V1,A1,ds1,N⟩:=gen_sem R B hp hq h0 F hG hmono hvv g (by omega)
  have hm:=hmono (g+1) hg
  have hok:=hvv (g+1) hg
  rw[iO] at hm hok ⊢
  have hv:=N.v
  rw[hv] at hm hok ⊢
  obtain⟨V2,A2,ds2,M⟩:=next_sem R B N.fd (X':=gX r (g+1)) (Y':=gX r (g+1)) (W':=gW w r (g+1)) (m:=gW w r (g+1)*gW h r (g+1)) (cs0:=(iO b w h r Hd u F0 g).2.1) (by omega) _ (Nat.le_refl _)
  have M':=M
  rw[gX_succ,gW_succ,gW_succ] at M' hok
  have hfd:=next_fd B.b1 B.n2 N.fd hp hq M' hok
  refine⟨V2,A2,ds1++ds2,M.v,Nat.le_trans N.le M.le,fun k hk=>by have:=N.le; rw[M.agr k (by omega),N.agr k hk],?_,?_,?_,?_,?_⟩
  ·rw[M.cs,N.cs,List.append_assoc]
  ·exact Sat.app.2 ⟨(Sat.agree N.lits M.agr).2 N.sat,M.sat⟩
  ·intro d hd
   rcases List.mem_append.1 hd with hd | hd
   ·exact (N.lits d hd).mono M.le
   ·exact M.lits d hd
  ·intro k h1 h2
   rcases Nat.lt_or_ge V1 k with h3 | h3
   ·exact (M.det k h3 h2).app'
   ·exact ((N.det k h1 h3).agree fun j hj=>M.agr j (by omega)).app
  ·rw[gX_succ,gW_succ,gW_succ]
   exact hfd
end
end Go.Proofs.YtjlckgeecihpbaaGreatDoor
namespace Go.Proofs.YtjlckgeecihpbaaGreatDoor
open Go.AM Go.Proofs
theorem same_sat {A:Val} {V:Nat} (hV:V<=1000000):∀ {x y:List Int},Vrs V x->Vrs V y->x.length=y.length->(Sat A (md x y)↔∀ (j:Nat) a c,x[j]?=some a->y[j]?=some c->A a.natAbs=A c.natAbs)
 | [],y,_,_,_=>⟨fun _ j a c h=>by simp at h,fun _ d hd=>by cases hd⟩
 | a::x,[],_,_,h=>by simp at h
 | a::x,c::y,hx,hy,hl=>by
  have ha:=hx a (by simp)
  have hc:=hy c (by simp)
  have ih:=same_sat (A:=A) hV (x:=x) (y:=y) (fun z hz=>hx z (by simp[hz])) (fun z hz=>hy z (by simp[hz])) (by simpa using hl)
  have h1:iz A [cz .i64 a,c]=(!A a.natAbs || A c.natAbs):=by
   show (mR A _ || (mR A _ || false))=_
   rw[iN hV ha,mb A ha.1,m9 A hc.1,Bool.or_false]
  have h2:iz A [a,cz .i64 c]=(A a.natAbs || !A c.natAbs):=by
   show (mR A _ || (mR A _ || false))=_
   rw[iN hV hc,mb A hc.1,m9 A ha.1,Bool.or_false]
  rw[md]
  constructor
  ·intro h
   have g1:=h _ (List.mem_cons_self)
   have g2:=h _ (List.mem_cons_of_mem _ List.mem_cons_self)
   have g3:=ih.1 fun d hd=>h d (List.mem_cons_of_mem _ (List.mem_cons_of_mem _ hd))
   rw[h1] at g1
   rw[h2] at g2
   intro j p q hp hq
   cases j with
   | zero =>
    simp only[List.getElem?_cons_zero,Option.some.injEq] at hp hq
    subst hp hq
    revert g1 g2
    cases A a.natAbs<;>cases A c.natAbs<;>simp
   | succ j=>exact g3 j p q (by simpa using hp) (by simpa using hq)
  ·intro h d hd
   have h0:=h 0 a c rfl rfl
   rcases List.mem_cons.1 hd with rfl | hd
   ·rw[h1,h0]; cases A c.natAbs<;>rfl
   rcases List.mem_cons.1 hd with rfl | hd
   ·rw[h2,h0]; cases A c.natAbs<;>rfl
   exact ih.2 (fun j p q hp hq=>h (j+1) p q (by simpa using hp) (by simpa using hq)) d hd
section
variable {n b:Nat} {A:Val} {V:Nat}
theorem same_den (hV:V<=1000000) (B:SB n b) {x y:List Int} {c d:Nat} (hx:Vrs V x) (hy:Vrs V y) (lx:x.length=b) (ly:y.length=b) (hc:mP A x c) (hd:mP A y d) (cn:c < n) (dn:d < n):Sat A (md x y)↔c=d:=by
 have hp:=B.pw
 rw[same_sat hV hx hy (by omega)]
 constructor
 ·intro h
  refine hc.inj lx B.b3 (by omega) (by omega) fun j a ha=>?_
  have hj:=bq ha
  have hy':y[j]?=some y[j]:=List.getElem?_eq_getElem (by omega)
  rw[h j a _ ha hy',hd j _ hy']
 ·rintro rfl j a e ha he
  rw[hc j a ha,hd j e he]
theorem fix_den (hV:V<=1000000) (B:SB n b) {x:List Int} {c d:Nat} (hx:Vrs V x) (lx:x.length=b) (hc:mP A x c) (cn:c < n) (dn:d < n):Sat A (fixS x (d:Int))↔c=d:=by
 have hp:=B.pw
 rw[fix_sat hV hx]
 exact⟨fun h=>hc.inj lx B.b3 (by omega) (by omega) h,fun h=>h ▸ hc⟩
variable {w h r G:Nat} {x:Bg} {O τ:Int->Int->Nat} {vals:List SV}
theorem eA_sat (hV:V<=1000000) (B:SB n b) (F:FD n b A V 0 0 w h (bw b (w*h)) O) (K:FD n b A V (gX r G) (gX r G) (gW w r G) (gW h r G) vals τ) {i:Nat} (hi:i < gW w r G*gW h r G) (hl:vals.length=gW w r G*gW h r G) (hz:∀ v∈vals,isE v.2=true->v.1=0) :
  Sat A (eA b w h r G x i (vals.getD i (0,[])))↔τ (gX r G+(i % gW w r G:Nat)) (gX r G+(i / gW w r G:Nat))=O (gX r G+(i % gW w r G:Nat) - x.DX) (gX r G+(i / gW w r G:Nat) - x.DY):=by
 have hW:0 < gW w r G:=by
  rcases Nat.eq_zero_or_pos (gW w r G) with h0 | h0
  ·rw[h0,Nat.zero_mul] at hi; omega
  ·exact h0
 have hm:i % gW w r G < gW w r G:=Nat.mod_lt _ hW
 have hd:i / gW w r G < gW h r G:=Nat.div_lt_of_lt_mul hi
 have hn:=B.n2
 have b1:=B.b1
 have q0:=Int.natCast_nonneg (i / gW w r G)
 have q1:=Int.natCast_nonneg (i % gW w r G)
 have hin:inB (gX r G) (gX r G) (gW w r G) (gW h r G) (gX r G+(i % gW w r G:Nat)) (gX r G+(i / gW w r G:Nat))=true:=gy.2 ⟨by omega,by omega,by omega,by omega⟩
 have hat:atS (gX r G) (gX r G) (gW w r G) (gW h r G) vals (gX r G+(i % gW w r G:Nat)) (gX r G+(i / gW w r G:Nat))=vals.getD i (0,[]):=by
  unfold atS
  rw[hin,cond_true]
  congr 1
  rw[show (gX r G+((i / gW w r G:Nat):Int) - gX r G).toNat=i / gW w r G by omega,show (gX r G+((i % gW w r G:Nat):Int) - gX r G).toNat=i % gW w r G by omega,Nat.mul_comm]
  exact Nat.div_add_mod i (gW w r G)
 obtain⟨_,k2,k3,k4⟩:=K (gX r G+(i % gW w r G:Nat)) (gX r G+(i / gW w r G:Nat))
 rw[hat] at k3 k4
 have hmem:vals.getD i (0,[])∈vals:=by
  rw[List.getD_eq_getElem?_getD,List.getElem?_eq_getElem (by omega)]
  exact List.getElem_mem _
 have hz':=hz _ hmem
 generalize vals.getD i (0,[])=v at k3 k4 hz' ⊢
 obtain⟨f1,f2,f3,f4⟩:=F (gX r G+(i % gW w r G:Nat) - x.DX) (gX r G+(i / gW w r G:Nat) - x.DY)
 have hF:=F.out b1 (x:=gX r G+(i % gW w r G:Nat) - x.DX) (y:=gX r G+(i / gW w r G:Nat) - x.DY)
 unfold eA
 dsimp only
 generalize τ (gX r G+(i % gW w r G:Nat)) (gX r G+(i / gW w r G:Nat))=s at k2 k3 ⊢
 generalize gX r G+(i % gW w r G:Nat) - x.DX=px at f1 f2 f3 f4 hF ⊢
 generalize gX r G+(i / gW w r G:Nat) - x.DY=py at f1 f2 f3 f4 hF ⊢
 cases hb:inB 0 0 w h px py with
 | true =>
  have hfl:=p5 b1 hb (b:=b)
  rcases f3 with ⟨e,_⟩ | ⟨_,f3⟩
  ·rw[e] at hfl; simp at hfl; omega
  cases he:isE v.2 with
  | true =>
   have hs:s=0:=by
    rcases k3 with ⟨_,e⟩ | ⟨e,_⟩
    ·have:=hz' he; omega
    ·rw[mh he] at e; simp at e; omega
   rw[cond_true,cond_true]
   exact (fix_den (d:=0) hV B f4 hfl f3 f2 (by omega)).trans (by rw[hs]; exact eq_comm)
  | false =>
   rw[cond_false,cond_true]
   rcases k3 with ⟨e,_⟩ | ⟨kl,k3⟩
   ·rw[e] at he; cases he
   exact same_den hV B k4 f4 kl hfl k3 f3 k2 f2
 | false =>
  rw[hF hb]
  cases he:isE v.2 with
  | true =>
   have hs:s=0:=by
    rcases k3 with ⟨_,e⟩ | ⟨e,_⟩
    ·have:=hz' he; omega
    ·rw[mh he] at e; simp at e; omega
   rw[cond_true,cond_false]
   exact⟨fun _=>hs,fun _ d hd=>by cases hd⟩
  | false =>
   rw[cond_false,cond_false]
   rcases k3 with ⟨e,_⟩ | ⟨kl,k3⟩
   ·rw[e] at he; cases he
   exact fix_den (d:=0) hV B k4 kl k3 k2 (by omega)
end
end Go.Proofs.YtjlckgeecihpbaaGreatDoor
namespace Go.Proofs.YtjlckgeecihpbaaGreatDoor
open Go.AM Go.Proofs
theorem gat_sat {α:Type} {A:Val} {f:Nat->α->List (List Int)} {l:List α}:Sat A (gat f l 0)↔∀ (i:Nat) x,l[i]?=some x->Sat A (f i x):=by
 constructor
 ·intro h i x hx d hd
  exact h d (gT.2 ⟨i,x,hx,by rwa [Nat.zero_add]⟩)
 ·intro h d hd
  obtain⟨i,x,hx,hd'⟩:=gT.1 hd
  rw[Nat.zero_add] at hd'
  exact h i x hx d hd'
section
variable {n b:Nat} {A:Val} {V:Nat} {w h r G:Nat} {x:Bg} {O τ:Int->Int->Nat} {vals:List SV}
theorem cells_at {w h i:Nat} (hi:i < w*h):atS 0 0 w h (bw b (w*h)) ((i % w:Nat):Int) ((i / w:Nat):Int)=(bw b (w*h)).getD i (0,[]):=by
 have hW:0 < w:=by
  rcases Nat.eq_zero_or_pos w with h0 | h0
  ·rw[h0,Nat.zero_mul] at hi; omega
  ·exact h0
 have hm:i % w < w:=Nat.mod_lt _ hW
 have hd:i / w < h:=Nat.div_lt_of_lt_mul hi
 have q0:=Int.natCast_nonneg (i / w)
 have q1:=Int.natCast_nonneg (i % w)
 unfold atS
 rw[gy.2 ⟨by omega,by omega,by omega,by omega⟩,cond_true]
 congr 1
 rw[Int.sub_zero,Int.sub_zero,Int.toNat_natCast,Int.toNat_natCast,Nat.mul_comm]
 exact Nat.div_add_mod i w
theorem eB_sat (hV:V<=1000000) (B:SB n b) (F:FD n b A V 0 0 w h (bw b (w*h)) O) {i:Nat} (hi:i < w*h) :
  Sat A (eB w h r G x i ((bw b (w*h)).getD i (0,[])))↔(inB (gX r G) (gX r G) (gW w r G) (gW h r G) ((i % w:Nat)+x.DX) ((i / w:Nat)+x.DY)=true \/ O (i % w:Nat) (i / w:Nat)=0):=by
 obtain⟨f1,f2,f3,f4⟩:=F (i % w:Nat) (i / w:Nat)
 have hn:=B.n2
 have b1:=B.b1
 have hl:((bw b (w*h)).getD i (0,[])).2.length=b:=by
  have hg:(bw b (w*h))[i]?=some ((bw b (w*h)).getD i (0,[])):=by
   rw[List.getD_eq_getElem?_getD,List.getElem?_eq_getElem (by rw[bW]; exact hi)]
   rfl
  exact (im (n:=n) _ (List.mem_of_getElem? hg)).2
 rw[cells_at hi] at f3 f4
 unfold eB
 cases inB (gX r G) (gX r G) (gW w r G) (gW h r G) ((i % w:Nat)+x.DX) ((i / w:Nat)+x.DY) with
 | true=>exact⟨fun _=>.inl rfl,fun _ d hd=>by cases hd⟩
 | false =>
  rcases f3 with ⟨e,_⟩ | ⟨_,f3⟩
  ·rw[e] at hl; simp at hl; omega
  rw[cond_false]
  exact (fix_den (d:=0) hV B f4 hl f3 f2 (by omega)).trans ⟨.inr,fun hh=>hh.elim (fun e=>by cases e) id⟩
theorem ends_sat (hV:V<=1000000) (B:SB n b) (F:FD n b A V 0 0 w h (bw b (w*h)) O) (K:FD n b A V (gX r G) (gX r G) (gW w r G) (gW h r G) vals τ) (hl:vals.length=gW w r G*gW h r G) (hz:∀ v∈vals,isE v.2=true->v.1=0) :
  (Sat A (gat (eA b w h r G x) vals 0)/\Sat A (gat (eB w h r G x) (bw b (w*h)) 0))↔∀ px py,τ px py=O (px - x.DX) (py - x.DY):=by
 have b1:=B.b1
 rw[gat_sat,gat_sat]
 constructor
 ·rintro⟨h1,h2⟩ px py
  cases hin:inB (gX r G) (gX r G) (gW w r G) (gW h r G) px py with
  | true =>
   obtain⟨i1,i2,i3,i4⟩:=gy.1 hin
   obtain⟨a,ha⟩:∃ a:Nat,px=gX r G+a:=⟨(px - gX r G).toNat,by omega⟩
   obtain⟨c,hc⟩:∃ c:Nat,py=gX r G+c:=⟨(py - gX r G).toNat,by omega⟩
   have ha':a < gW w r G:=by omega
   have hc':c < gW h r G:=by omega
   have hj:=pI hc' ha'
   have hg:vals[c*gW w r G+a]?=some (vals.getD (c*gW w r G+a) (0,[])):=by
    rw[List.getD_eq_getElem?_getD,List.getElem?_eq_getElem (by omega)]
    rfl
   have h3:=(eA_sat (x:=x) hV B F K hj hl hz).1 (h1 _ _ hg)
   rwa [Nat.mul_comm c,Nat.mul_add_mod,Nat.mod_eq_of_lt ha',Nat.mul_add_div (by omega),Nat.div_eq_of_lt ha',Nat.add_zero,<- ha,<- hc] at h3
  | false =>
   rw[K.out b1 hin]
   cases hin2:inB 0 0 w h (px - x.DX) (py - x.DY) with
   | false=>rw[F.out b1 hin2]
   | true =>
    obtain⟨i1,i2,i3,i4⟩:=gy.1 hin2
    obtain⟨a,ha⟩:∃ a:Nat,px - x.DX=a:=⟨(px - x.DX).toNat,by omega⟩
    obtain⟨c,hc⟩:∃ c:Nat,py - x.DY=c:=⟨(py - x.DY).toNat,by omega⟩
    have ha':a < w:=by omega
    have hc':c < h:=by omega
    have hj:=pI hc' ha'
    have hg:(bw b (w*h))[c*w+a]?=some ((bw b (w*h)).getD (c*w+a) (0,[])):=by
     rw[List.getD_eq_getElem?_getD,List.getElem?_eq_getElem (by rw[bW]; exact hj)]
     rfl
    have h3:=(eB_sat (x:=x) (r:=r) (G:=G) hV B F hj).1 (h2 _ _ hg)
    rw[Nat.mul_comm c,Nat.mul_add_mod,Nat.mod_eq_of_lt ha',Nat.mul_add_div (by omega),Nat.div_eq_of_lt ha',Nat.add_zero,<- ha,<- hc,Int.sub_add_cancel,Int.sub_add_cancel,hin] at h3
    rcases h3 with h3 | h3
    ·cases h3
    ·exact h3.symm
 ·intro hh
  refine⟨fun i v hv=>?_,fun i v hv=>?_⟩
  ·have hi:=bq hv
   have hg:v=vals.getD i (0,[]):=by rw[List.getD_eq_getElem?_getD,hv]; rfl
   rw[hg]
   exact (eA_sat (x:=x) hV B F K (by omega) hl hz).2 (hh _ _)
  ·have hi:=bq hv
   rw[bW] at hi
   have hg:v=(bw b (w*h)).getD i (0,[]):=by rw[List.getD_eq_getElem?_getD,hv]; rfl
   rw[hg]
   refine (eB_sat (x:=x) (r:=r) (G:=G) hV B F hi).2 ?_
   cases hin:inB (gX r G) (gX r G) (gW w r G) (gW h r G) ((i % w:Nat)+x.DX) ((i / w:Nat)+x.DY) with
   | true=>exact .inl rfl
   | false =>
    have h3:=hh ((i % w:Nat)+x.DX) ((i / w:Nat)+x.DY)
    rw[K.out b1 hin,Int.add_sub_cancel,Int.add_sub_cancel] at h3
    exact .inr h3.symm
theorem new_zero {L:Nat} {u:DD (L+1)} {Hd:List Point} (hq:evD (L+1) u (List.replicate Hd.length 0)=some 0):newC u Hd (fun _ _=>0)=fun _ _=>0:=by
 funext px py
 have hs:pU Hd (fun _ _=>0) px py=List.replicate Hd.length 0:=List.eq_replicate_iff.2 ⟨by unfold pU; rw[List.length_map],fun s hs=>by
  unfold pU at hs
  obtain⟨d,_,rfl⟩:=List.mem_map.1 hs
  rfl⟩
 unfold newC
 rw[hs,hq]
 rfl
theorem sgC_zero {L:Nat} {u:DD (L+1)} {Hd:List Point} (hq:evD (L+1) u (List.replicate Hd.length 0)=some 0):∀ g,sgC u Hd (fun _ _=>0) g=fun _ _=>0
 | 0=>rfl
 | g+1=>by rw[sgC,sgC_zero hq g,new_zero hq]
theorem FD.const {X Y:Int} {W H:Nat} (hb:1<=b) (hl:vals.length=W*H) (K:FD n b A V X Y W H vals fun _ _=>0):∀ v∈vals,isE v.2=true->v.1=0:=fun v hv he=>by
 obtain⟨i,hi⟩:=List.mem_iff_getElem?.1 hv
 have hlt:=bq hi
 have hW:0 < W:=by
  rcases Nat.eq_zero_or_pos W with h0 | h0
  ·rw[h0,Nat.zero_mul] at hl; omega
  ·exact h0
 have hm:i % W < W:=Nat.mod_lt _ hW
 have hd:i / W < H:=Nat.div_lt_of_lt_mul (by omega)
 have q0:=Int.natCast_nonneg (i / W)
 have q1:=Int.natCast_nonneg (i % W)
 obtain⟨_,_,k3,_⟩:=K (X+(i % W:Nat)) (Y+(i / W:Nat))
 have hat:atS X Y W H vals (X+(i % W:Nat)) (Y+(i / W:Nat))=v:=by
  unfold atS
  rw[gy.2 ⟨by omega,by omega,by omega,by omega⟩,cond_true,show (Y+((i / W:Nat):Int) - Y).toNat=i / W by omega,show (X+((i % W:Nat):Int) - X).toNat=i % W by omega,Nat.mul_comm,Nat.div_add_mod,List.getD_eq_getElem?_getD,hi]
  rfl
 rw[hat] at k3
 rcases k3 with ⟨_,e⟩ | ⟨e,_⟩
 ·exact e
 ·rw[mh he] at e
  simp at e
  omega
end
end Go.Proofs.YtjlckgeecihpbaaGreatDoor
namespace Go.Proofs.YtjlckgeecihpbaaGreatDoor
open Go.AM Go.Proofs
section
variable {n b:Nat} {A:Val} {m:Nat} {cs:Nat->Nat}
def FirstV (n b:Nat) (A:Val) (m:Nat) (cs:Nat->Nat):Prop:=∀ k,k < m->cs k < n/\mP A (d7 ((k:Int)*b) b) (cs k)
theorem vrs_first {k:Nat} (hk:k < m):Vrs (m*b) (d7 ((k:Int)*b) b):=by
 rw[show ((k:Int)*b)=((k*b:Nat):Int) by rw[Int.natCast_mul]]
 refine fresh_vrs.mono ?_
 have:=Nat.mul_le_mul_right b (show k+1<=_ from hk)
 rw[Nat.add_mul,Nat.one_mul] at this
 omega
theorem first_sat (B:SB n b) (hm:m<=16) (hcs:FirstV n b A m cs):Sat A (kv n b m)/\∀ d∈kv n b m,kA (m*b) d:=by
 have hb3:=B.b3
 have hV:m*b<=16*3:=Nat.mul_le_mul hm hb3
 have key:∀ d∈kv n b m,∃ k,k < m/\d∈exC n b (d7 ((k:Int)*b) b):=fun d hd=>by
  unfold kv at hd
  obtain⟨k,v,hv,hd⟩:=gT.1 hd
  have hk:k < m:=by have:=bq hv; rwa [bW] at this
  rw[cells_get hk] at hv
  cases hv
  exact⟨k,hk,hd⟩
 constructor
 ·intro d hd
  obtain⟨k,hk,hd⟩:=key d hd
  obtain⟨h1,h2⟩:=hcs k hk
  exact ex_sat (by omega) hb3 (vrs_first hk) (ev _ _) h1 B.pw h2 d hd
 ·intro d hd
  obtain⟨k,hk,hd⟩:=key d hd
  exact ex_lits (by omega) (vrs_first hk) d hd
def boxC (w h:Nat) (cs:Nat->Nat) (x y:Int):Nat:=if inB 0 0 w h x y=true then cs (y.toNat*w+x.toNat) else 0
theorem first_fd (B:SB n b) {w h:Nat} (hcs:FirstV n b A (w*h) cs):FD n b A (w*h*b) 0 0 w h (bw b (w*h)) (boxC w h cs):=fun x y=>by
 have hn:=B.n2
 have hok:VOk n b (atS 0 0 w h (bw b (w*h)) x y):=atS_ok (by omega) (bW _ _) (fun v hv=>(im v hv).1) x y
 cases hin:inB 0 0 w h x y with
 | true =>
  obtain⟨i1,i2,i3,i4⟩:=gy.1 hin
  have hj:=pI (a:=y.toNat) (c:=x.toNat) (W:=w) (H:=h) (by omega) (by omega)
  have hat:atS 0 0 w h (bw b (w*h)) x y=((0:Int),d7 (((y.toNat*w+x.toNat:Nat):Int)*b) b):=by
   unfold atS
   rw[hin,cond_true,Int.sub_zero,Int.sub_zero,List.getD_eq_getElem?_getD,cells_get hj]
   rfl
  obtain⟨h1,h2⟩:=hcs _ hj
  refine⟨hok,?_⟩
  rw[hat,show boxC w h cs x y=cs (y.toNat*w+x.toNat) from if_pos hin]
  exact⟨h1,.inr ⟨ev _ _,h2⟩,vrs_first hj⟩
 | false =>
  refine⟨hok,?_⟩
  rw[show boxC w h cs x y=0 from if_neg (by rw[hin]; simp)]
  unfold atS
  rw[hin,cond_false]
  exact⟨by omega,.inl ⟨rfl,rfl⟩,fun z hz=>by cases hz⟩
end
section
variable {n b:Nat} {t:Tree} {L:Nat} {u:DD (L+1)}
theorem ev_rule (R:RT n b t (ser (post (L+1) u []))) (D:RD n t.States t.Hood L u) {Ls:List Int} (hl:Ls.length=t.Hood.length) (hs:∀ s∈Ls,0<=s/\s < (n:Int)):evD (L+1) u Ls=fE t Ls (bL .i64 (b8 t.Nodes) 1):=by
 obtain⟨n',b',ns',RW'⟩:=rw_of R.ok
 have en:n'=n:=by
  have e1:=RW'.st
  have e2:=R.st
  omega
 have ens:ns'=ser (post (L+1) u []):=by
  have e1:=RW'.P
  rw[R.P] at e1
  exact ((Tree.mk.inj (Option.some.inj e1)).2.2).symm
 subst en ens
 obtain⟨j,hj,hr⟩:=D.rep
 have hL:=D.hL
 rw[<- RW'.walk Ls hl hs,show (ser (post (L+1) u [])).length - 1=j by omega]
 exact (rep_ev (t:=⟨t.States,t.Hood,ser (post (L+1) u [])⟩) hr (hr.reg D.tok.good) (by omega) hs).symm
theorem ev_quiet (R:RT n b t (ser (post (L+1) u []))) (D:RD n t.States t.Hood L u) (hq:eV t=true):evD (L+1) u (List.replicate t.Hood.length 0)=some 0:=by
 have hn:=R.sb.n2
 rw[ev_rule R D (List.length_replicate) fun s hs=>by rw[(List.mem_replicate.1 hs).2]; omega]
 unfold eV at hq
 rw[Bool.and_eq_true] at hq
 exact eq_of_beq hq.2
end
end Go.Proofs.YtjlckgeecihpbaaGreatDoor
namespace Go.Proofs.YtjlckgeecihpbaaGreatDoor
open Go.AM Go.Proofs
theorem bitB_zero (j:Nat):fZ ((0:Nat):Int) j=false:=by
 have h:ishr .i64 ((0:Nat):Int) (j:Int)=some 0:=by
  unfold ishr
  rw[if_neg (by omega)]
  exact congrArg some (Int.zero_fdiv (2 ^ min (j:Int).toNat IntKind.i64.bits))
 unfold fZ
 rw[h]
 decide
theorem same_lits {V:Nat} (hV:V<=1000000):∀ {x y:List Int},Vrs V x->Vrs V y->∀ d∈md x y,kA V d
 | [],y,_,_,d,hd=>by cases hd
 | a::x,[],_,_,d,hd=>by cases hd
 | a::x,c::y,hx,hy,d,hd=>by
  have ha:=hx a (by simp)
  have hc:=hy c (by simp)
  rw[md,iN hV ha,iN hV hc] at hd
  rcases List.mem_cons.1 hd with rfl | hd
  ·intro z hz
   simp only[List.mem_cons,List.not_mem_nil,or_false] at hz
   rcases hz with rfl | rfl<;>omega
  rcases List.mem_cons.1 hd with rfl | hd
  ·intro z hz
   simp only[List.mem_cons,List.not_mem_nil,or_false] at hz
   rcases hz with rfl | rfl<;>omega
  exact same_lits hV (fun z hz=>hx z (by simp[hz])) (fun z hz=>hy z (by simp[hz])) d hd
section
variable {n b w h r G:Nat} {t:Tree} {x:Bg} {L:Nat} {u:DD (L+1)} {F0:FS}
theorem genA_mono (b w h r:Nat) (Hd:List Point) (u:DD (L+1)) (F0:FS) (g:Nat):∀ k,(iO b w h r Hd u F0 g).1<=(iO b w h r Hd u F0 (g+k)).1
 | 0=>Int.le_refl _
 | k+1=>by
  have ih:=genA_mono b w h r Hd u F0 g k
  have h2:=(nl b Hd.length (inS (gX r (g+k)) (gX r (g+k)) (gW w r (g+k)) (gW h r (g+k)) (iO b w h r Hd u F0 (g+k)).2.2 Hd) (trS Hd.length u) (gX r (g+k+1)) (gX r (g+k+1)) (gW w r (g+k+1)) ((iO b w h r Hd u F0 (g+k)).1,(iO b w h r Hd u F0 (g+k)).2.1,[]) 0 (gW w r (g+k+1)*gW h r (g+k+1))).1
  rw[Nat.zero_add] at h2
  exact Int.le_trans ih h2
theorem genA_vals (K:PK n b w h r G t x u) (h0:F0.2.2=bw b (w*h)):∀ g,(iO b w h r t.Hood u F0 g).2.2.length=gW w r g*gW h r g/\∀ v∈(iO b w h r t.Hood u F0 g).2.2,VOk n b v
 | 0=>by
  rw[iO,h0]
  refine⟨?_,fun v hv=>(im v hv).1⟩
  rw[bW]
  unfold gW
  rw[Nat.zero_mul]
  rfl
 | g+1=>by
  obtain⟨h1,h2⟩:=genA_vals K h0 g
  have:=next_vals (n:=n) (b:=b) (H:=t.Hood.length) (ins:=inS (gX r g) (gX r g) (gW w r g) (gW h r g) (iO b w h r t.Hood u F0 g).2.2 t.Hood) (tr:=trS t.Hood.length u) (X:=gX r (g+1)) (Y:=gX r (g+1)) (W:=gW w r (g+1)) (m:=gW w r (g+1)*gW h r (g+1)) (v:=(iO b w h r t.Hood u F0 g).1) (cs:=(iO b w h r t.Hood u F0 g).2.1) (fun i _=>ins_wt K h1 h2 _ _) _ (Nat.le_refl _)
  exact this
theorem sol_sem (K:PK n b w h r G t x u) (hq:eV t=true) (hp:∀ d∈t.Hood,-(r:Int)<=d.X/\d.X<=r/\-(r:Int)<=d.Y/\d.Y<=r) {A:Val} {cs:Nat->Nat} (hcs:FirstV n b A (w*h) cs) {sy:List (List Int)} (hsy:∀ d∈sy,kA (w*h*b) d)
  (h1:F0.1=((w*h*b:Nat):Int)) (h2:F0.2.1=kv n b (w*h)++sy) (h3:F0.2.2=bw b (w*h)) (hfit:(iO b w h r t.Hood u F0 G).1<=65536):∃ (V':Nat) (A':Val),(iO b w h r t.Hood u F0 G).1=(V':Int)/\w*h*b<=V'/\(∀ k,k<=w*h*b->A' k=A k) /\
   (∀ d∈((iO b w h r t.Hood u F0 G).2.1++gat (eA b w h r G x) (iO b w h r t.Hood u F0 G).2.2 0)++gat (eB w h r G x) (bw b (w*h)) 0,kA V' d) /\
   (∀ k,w*h*b < k->k<=V'->Det A' (((iO b w h r t.Hood u F0 G).2.1++gat (eA b w h r G x) (iO b w h r t.Hood u F0 G).2.2 0)++gat (eB w h r G x) (bw b (w*h)) 0) k) /\
   (Sat A' (((iO b w h r t.Hood u F0 G).2.1++gat (eA b w h r G x) (iO b w h r t.Hood u F0 G).2.2 0)++gat (eB w h r G x) (bw b (w*h)) 0)↔Sat A sy/\∀ px py,sgC u t.Hood (boxC w h cs) G px py=boxC w h cs (px - x.DX) (py - x.DY)):=by
 have B:=K.R.sb
 have b1:=B.b1
 have hev:=ev_quiet K.R K.D hq
 have hmono:∀ g,g<=G->(iO b w h r t.Hood u F0 g).1<=(iO b w h r t.Hood u F0 G).1:=fun g hg=>by
  have:=genA_mono b w h r t.Hood u F0 g (G - g)
  rwa [show g+(G - g)=G by omega] at this
 have hvv:∀ g,g<=G->∀ v∈(iO b w h r t.Hood u F0 g).2.2,VOk n b v:=fun g _=>(genA_vals K h3 g).2
 have hz:∀ v∈(iO b w h r t.Hood u F0 G).2.2,isE v.2=true->v.1=0:=by
  have hc0:FirstV n b (fun _=>false) (w*h) (fun _=>0):=fun k hk=>⟨by have:=B.n2; show 0 < n; omega,fun j y _=>(bitB_zero j).symm⟩
  have F1:=first_fd B hc0
  rw[<- h3] at F1
  have hb0:boxC w h (fun _=>0)=fun _ _=>0:=by
   funext px py
   unfold boxC
   split<;>rfl
  rw[hb0] at F1
  obtain⟨V0,A0,d0,N⟩:=gen_sem K.D B hp hev h1 F1 hfit hmono hvv G (Nat.le_refl _)
  have hfd:=N.fd
  rw[sgC_zero hev] at hfd
  exact hfd.const b1 (genA_vals K h3 G).1
 have F1:=first_fd B hcs
 have F2:=F1
 rw[<- h3] at F2
 obtain⟨V',A',ds,N⟩:=gen_sem K.D B hp hev h1 F2 hfit hmono hvv G (Nat.le_refl _)
 have hl:=(genA_vals K h3 G).1
 have hv:=N.v
 have hcs':=N.cs
 have hfd:=N.fd
 have hVV:V'<=1000000:=by omega
 have F3:=F1.agree N.agr N.le
 obtain⟨f1,f2⟩:=first_sat B K.wh hcs
 generalize iO b w h r t.Hood u F0 G=st at hv hcs' hl hfd hz ⊢
 obtain⟨v,c,vs⟩:=st
 dsimp only at hv hcs' hl hfd hz ⊢
 subst hcs'
 refine⟨V',A',hv,N.le,N.agr,?_,?_,?_⟩
 ·intro d hd
  rcases List.mem_append.1 hd with hd | hd
  ·rcases List.mem_append.1 hd with hd | hd
   ·rcases List.mem_append.1 hd with hd | hd
    ·rw[h2] at hd
     rcases List.mem_append.1 hd with hd | hd
     ·exact (f2 d hd).mono N.le
     ·exact (hsy d hd).mono N.le
    ·exact N.lits d hd
   ·obtain⟨i,y,hy,hd⟩:=gT.1 hd
    rw[Nat.zero_add] at hd
    have hi:=bq hy
    have hW:0 < gW w r G:=by
     rcases Nat.eq_zero_or_pos (gW w r G) with h0 | h0
     ·rw[h0,Nat.zero_mul] at hl; omega
     ·exact h0
    have hm:i % gW w r G < gW w r G:=Nat.mod_lt _ hW
    have hdv:i / gW w r G < gW h r G:=Nat.div_lt_of_lt_mul (by omega)
    have q0:=Int.natCast_nonneg (i / gW w r G)
    have q1:=Int.natCast_nonneg (i % gW w r G)
    obtain⟨_,_,_,k4⟩:=hfd (gX r G+(i % gW w r G:Nat)) (gX r G+(i / gW w r G:Nat))
    have hat:atS (gX r G) (gX r G) (gW w r G) (gW h r G) vs (gX r G+(i % gW w r G:Nat)) (gX r G+(i / gW w r G:Nat))=y:=by
     unfold atS
     rw[gy.2 ⟨by omega,by omega,by omega,by omega⟩,cond_true,show (gX r G+((i / gW w r G:Nat):Int) - gX r G).toNat=i / gW w r G by omega,show (gX r G+((i % gW w r G:Nat):Int) - gX r G).toNat=i % gW w r G by omega,Nat.mul_comm,Nat.div_add_mod,List.getD_eq_getElem?_getD,hy]
     rfl
    rw[hat] at k4
    have k5:=(F3 (gX r G+(i % gW w r G:Nat) - x.DX) (gX r G+(i / gW w r G:Nat) - x.DY)).2.2.2
    unfold eA at hd
    dsimp only at hd
    revert hd
    cases isE y.2<;>cases inB 0 0 w h (gX r G+(i % gW w r G:Nat) - x.DX) (gX r G+(i / gW w r G:Nat) - x.DY)<;>simp only[cond_true,cond_false]<;>intro hd
    ·exact fix_lits hVV k4 _ d hd
    ·exact same_lits hVV k4 k5 d hd
    ·cases hd
    ·exact fix_lits hVV k5 _ d hd
  ·obtain⟨i,y,hy,hd⟩:=gT.1 hd
   rw[Nat.zero_add] at hd
   have hi:=bq hy
   rw[bW] at hi
   rw[cells_get hi] at hy
   cases hy
   have hvr:=(vrs_first (b:=b) hi).mono N.le
   unfold eB at hd
   revert hd
   cases inB (gX r G) (gX r G) (gW w r G) (gW h r G) ((i % w:Nat)+x.DX) ((i / w:Nat)+x.DY)<;>simp only[cond_true,cond_false]<;>intro hd
   ·exact fix_lits hVV hvr _ d hd
   ·cases hd
 ·exact fun k k1 k2=>(((N.det k k1 k2).app').app).app
 ·rw[Sat.app,Sat.app,Sat.app,h2,Sat.app,Sat.agree f2 N.agr,Sat.agree hsy N.agr,and_assoc,ends_sat (x:=x) hVV B F3 hfd hl hz]
  exact⟨fun⟨⟨⟨_,a⟩,_⟩,c⟩=>⟨a,c⟩,fun⟨a,c⟩=>⟨⟨⟨f1,a⟩,N.sat⟩,c⟩⟩
end
end Go.Proofs.YtjlckgeecihpbaaGreatDoor
namespace Go.Proofs.YtjlckgeecihpbaaGreatDoor
open Go.AM Go.Proofs
section
variable {n b w h:Nat} {A:Val} {V:Nat} {O:Int->Int->Nat}
theorem sym_sat (hV:V<=1000000) (B:SB n b) (F:FD n b A V 0 0 w h (bw b (w*h)) O) {qx qy:Nat->Int} (hq:∀ i,i < w*h->inB 0 0 w h (qx i) (qy i)=true) :
  (Sat A (gat (fun i v=>md v.2 (atS 0 0 w h (bw b (w*h)) (qx i) (qy i)).2) (bw b (w*h)) 0)↔∀ i:Nat,i < w*h->O (i % w:Nat) (i / w:Nat)=O (qx i) (qy i)) /\
   ∀ d∈gat (fun i v=>md v.2 (atS 0 0 w h (bw b (w*h)) (qx i) (qy i)).2) (bw b (w*h)) 0,kA V d:=by
 have b1:=B.b1
 have key:∀ (i:Nat) v,(bw b (w*h))[i]?=some v->i < w*h/\v.2.length=b/\mP A v.2 (O (i % w:Nat) (i / w:Nat))/\Vrs V v.2/\O (i % w:Nat) (i / w:Nat) < n:=fun i v hv=>by
  have hi:=bq hv
  rw[bW] at hi
  have hl:=(im (n:=n) v (List.mem_of_getElem? hv)).2
  obtain⟨_,f2,f3,f4⟩:=F (i % w:Nat) (i / w:Nat)
  rw[cells_at hi,List.getD_eq_getElem?_getD,hv,Option.getD_some] at f3 f4
  rcases f3 with ⟨e,_⟩ | ⟨_,f3⟩
  ·rw[e] at hl; simp at hl; omega
  exact⟨hi,hl,f3,f4,f2⟩
 have keyq:∀ i,i < w*h->(atS 0 0 w h (bw b (w*h)) (qx i) (qy i)).2.length=b/\mP A (atS 0 0 w h (bw b (w*h)) (qx i) (qy i)).2 (O (qx i) (qy i))/\Vrs V (atS 0 0 w h (bw b (w*h)) (qx i) (qy i)).2/\O (qx i) (qy i) < n:=fun i hi=>by
  have hl:=p5 b1 (hq i hi) (b:=b)
  obtain⟨_,f2,f3,f4⟩:=F (qx i) (qy i)
  rcases f3 with ⟨e,_⟩ | ⟨_,f3⟩
  ·rw[e] at hl; simp at hl; omega
  exact⟨hl,f3,f4,f2⟩
 refine⟨?_,fun d hd=>?_⟩
 ·rw[gat_sat]
  constructor
  ·intro hh i hi
   have hlt:i < (bw b (w*h)).length:=by rw[bW]; exact hi
   have hv:(bw b (w*h))[i]?=some (bw b (w*h))[i]:=List.getElem?_eq_getElem hlt
   obtain⟨_,k1,k2,k3,k4⟩:=key i _ hv
   obtain⟨l1,l2,l3,l4⟩:=keyq i hi
   exact (same_den hV B k3 l3 k1 l1 k2 l2 k4 l4).1 (hh i _ hv)
  ·intro hh i v hv
   obtain⟨hi,k1,k2,k3,k4⟩:=key i v hv
   obtain⟨l1,l2,l3,l4⟩:=keyq i hi
   exact (same_den hV B k3 l3 k1 l1 k2 l2 k4 l4).2 (hh i hi)
 ·obtain⟨i,v,hv,hd⟩:=gT.1 hd
  rw[Nat.zero_add] at hd
  obtain⟨hi,_,_,k3,_⟩:=key i v hv
  exact same_lits hV k3 (keyq i hi).2.2.1 d hd
end
section
variable {n b:Nat} {t:Tree} {L:Nat} {u:DD (L+1)} {p:List Cell} {O:Int->Int->Nat}
theorem newC_is (R:RT n b t (ser (post (L+1) u []))) (D:RD n t.States t.Hood L u) (hσ:∀ x y,((O x y:Nat):Int)=dc p x y) (hn:∀ x y,O x y < n) (x y:Int):newC u t.Hood O x y=(kE t p x y).toNat:=by
 have hs:pU t.Hood O x y=t.Hood.map fun o=>dc p (x+o.X) (y+o.Y):=by
  unfold pU
  exact List.map_congr_left fun d _=>hσ _ _
 unfold newC kE
 rw[ev_rule R D (by unfold pU; rw[List.length_map]) fun s hs'=>by
  unfold pU at hs'
  obtain⟨d,_,rfl⟩:=List.mem_map.1 hs'
  have:=hn (x+d.X) (y+d.Y)
  omega]
 rw[hs]
end
end Go.Proofs.YtjlckgeecihpbaaGreatDoor
