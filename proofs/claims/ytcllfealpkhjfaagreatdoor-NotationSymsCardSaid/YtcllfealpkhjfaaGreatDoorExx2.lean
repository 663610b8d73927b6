/- Plain laws: the reference's nodes of a rule whose positions are taken in another order. -/
import Derived.Test.YtcllfealpkhjfaaGreatDoorExx1
namespace Go.Proofs.YtcllfealpkhjfaaGreatDoor
open Go.AM Go.Proofs
theorem walk_ev {n:Nat} {t:Tree}:∀ {m:Nat} {k:Int} {u:DD m} {l:List Nat},Rep t.Nodes m k u->Reg n m u->Sts n m l->walkV t (l.map fun s:Nat=>(s:Int)) k=some (evD m u l)
 | 0,k,u,l,h,_,hl=>by
  obtain rfl:l=[]:=List.eq_nil_of_length_eq_zero hl.1
  exact congrArg some (show k=u from h)
 | m+1,k,u,[],_,_,hl=>by
  have:=hl.1
  simp at this
 | m+1,k,u,s::l,⟨x,h1,_,h3,h4⟩,hr,hl=>by
  have hs:=hl.cons
  obtain⟨e1,r1⟩:=reg_kid hr hs.1
  have hx:x.Next[s]?=some (x.Next[s]'(by have:=hr.1; omega)):=List.getElem?_eq_getElem _
  rw[List.map_cons,walkV,h1]
  simp only[some_bind]
  rw[idx_nat,hx]
  exact walk_ev (h4 s _ _ hx e1) r1 hs.2
theorem fixR_is {n:Nat} {t:Tree} (hok:treeOk t=true) (h:TOk n t) {L i:Nat} {u:DD (L+1)} (hi:i+1=t.Nodes.length) (hL:L+1=t.Hood.length) (hr:Rep t.Nodes (L+1) i u) {k s:Nat} (hk:k < t.Hood.length) (hs:s < n) :
  m_R13_Fix t (k:Int) (s:Int)=some (⟨t.States,t.Hood,ser (post (L+1) (fixD (t.Hood.length - k) s (L+1) u) [])⟩,0):=by
 have h25:=h.h25
 have hn:=h.n8
 have hnd:=h.nodes
 have hst:=h.st
 have c1:ltB (k:Int) 0=false:=decide_eq_false (by omega)
 have c2:geB (k:Int) (aT t.Hood)=false:=decide_eq_false (by unfold aT; omega)
 have c3:ltB (s:Int) 0=false:=decide_eq_false (by omega)
 have c4:geB (s:Int) t.States=false:=decide_eq_false (by omega)
 have hc:=h.chg (M:=t.Hood.length - k) hs
 have hcok:=tok_ok hc (show hoodOk t.Hood=true from tok_hood hok)
 have hr1:=rep_fix (M:=t.Hood.length - k) (s:=s) (fun i x hx=>by rw[h.good.len i x hx]; exact hs) hr
 unfold m_R13_Fix
 rw[treeR_eq (sz_of h),hok]
 simp only[some_bind,bB,Bool.not_true,cond_false,c1,c2,c3,c4]
 rw[fix13_loop h.good hst (by omega) (by omega) (by omega) hk hs]
 simp only[some_bind]
 rw[(reduce_is hcok hc (t:=⟨t.States,t.Hood,t.Nodes.map (chgN (t.Hood.length - k) s)⟩) (by simpa using hi) hL hr1).2]
 rfl
abbrev tr (S:Int) (Hd:List Point) {L:Nat} (u:DD (L+1)):Tree:=⟨S,Hd,ser (post (L+1) u [])⟩
structure RE (n:Nat) (S:Int) (Hd:List Point) (L:Nat) (u:DD (L+1)):Prop where
 hL:L+1=Hd.length
 hd:hoodOk Hd=true
 tok:TOk n (tr S Hd u)
 rep:∃ j,j+1=(ser (post (L+1) u [])).length/\Rep (ser (post (L+1) u [])) (L+1) (j:Nat) u
 reg:Reg n (L+1) u
section
variable {n:Nat} {S:Int} {Hd:List Point} {L:Nat} {u u':DD (L+1)}
theorem RE.fix (R:RE n S Hd L u) {k s:Nat} (hk:k < L+1) (hs:s < n):RE n S Hd L (fixD (L+1 - k) s (L+1) u)/\m_R13_Fix (tr S Hd u) (k:Int) (s:Int)=some (tr S Hd (fixD (L+1 - k) s (L+1) u),0):=by
 obtain⟨j,hj,hr⟩:=R.rep
 have hL:=R.hL
 have hok:=tok_ok R.tok R.hd
 have hf:=fixR_is hok R.tok hj R.hL hr (k:=k) (by show k < Hd.length; omega) hs
 have hc:=R.tok.chg (M:=L+1 - k) hs
 have hr1:=rep_fix (M:=L+1 - k) (s:=s) (fun i x hx=>by rw[R.tok.good.len i x hx]; exact hs) hr
 have hz:=hc.red R.hL hr1
 refine⟨⟨R.hL,R.hd,hz.1,hz.2,fixD_reg hs R.reg⟩,?_⟩
 rw[show (tr S Hd u).Hood.length=L+1 from hL.symm] at hf
 exact hf
theorem RE.same (R:RE n S Hd L u) (R':RE n S Hd L u'):m_R12_Same (tr S Hd u) (tr S Hd u')=some (decide (u=u')):=by
 have h25:Hd.length<=25:=R.tok.h25
 have hnd:(ser (post (L+1) u [])).length<=4096:=R.tok.nodes
 have hn:=R.tok.n8
 rw[sameR_eq (by show Hd.length < _; omega) (by show (ser (post (L+1) u [])).length < _; omega) (fun x hx=>by
  obtain⟨i,hi⟩:=List.mem_iff_getElem?.1 hx
  have:=R.tok.good.len i x hi
  omega)]
 congr 1
 by_cases h:u=u'
 ·rw[decide_eq_true h,decide_eq_true (by rw[h])]
 ·rw[decide_eq_false h,decide_eq_false fun e=>h (ser_inj R.reg R'.reg (by injection e))]
structure EI (n:Nat) (S:Int) (Hd:List Point) (L:Nat) (ord:List Nat) (keys:List Tree) (out:List Node):Prop where
 len:keys.length=out.length
 good:Good n out
 ent:∀ (j:Nat) f x,keys[j]?=some f->out[j]?=some x->∃ (m:Nat) (u:DD (L+1)),x.Level=(m:Int)+1/\f=tr S Hd u/\RE n S Hd L u/\Rep out (m+1) (j:Nat) (tg n L (m+1) (ord.drop (ord.length - (m+1))) u)
def oI (ord:List Nat):List Int:=ord.map fun s:Nat=>(s:Int)
theorem oI_len (ord:List Nat):aT (oI ord)=(ord.length:Int):=by simp[aT,oI]
abbrev Rcv:=Tree->List Int->Int->List Tree->List Node->Option (Int×List Tree×List Node)
def EX (n:Nat) (S:Int) (Hd:List Point) (L:Nat) (ord:List Nat) (rcv:Rcv) (m:Nat):Prop :=
 ∀ (i:Nat) (u:DD (L+1)) (keys:List Tree) (out:List Node),i+m=ord.length->RE n S Hd L u->EI n S Hd L ord keys out->out.length+cntN n m<=100000000 ->
  ∃ k keys' out',rcv (tr S Hd u) (oI ord) (i:Int) keys out=some (k,keys',out')/\EI n S Hd L ord keys' out'/\(∃ ws,out'=out++ws)/\out'.length<=out.length+cntN n m/\Rep out' m k (tg n L m (ord.drop i) u)
variable {ord:List Nat} {keys:List Tree} {out:List Node} {m i:Nat}
theorem zero_val (R:RE n S Hd L u) (ho:ord.length=L+1):m_R12_Value (tr S Hd u) (List.replicate ((ord.length:Int)).toNat 0)=some (evD (L+1) u (List.replicate (L+1) 0)):=by
 obtain⟨j,hj,hr⟩:=R.rep
 have h25:Hd.length<=25:=R.tok.h25
 have hL:=R.hL
 have hnd:(ser (post (L+1) u [])).length<=4096:=R.tok.nodes
 have hn2:=R.tok.n2
 rw[valueR_eq (by simp; omega),show bc .i64 (aT (ser (post (L+1) u []))) 1=(j:Int) from by
  have:aT (ser (post (L+1) u []))=(j:Int)+1:=by unfold aT; omega
  rw[this,isub_in (by omega)]
  omega]
 have h:=walk_ev (t:=tr S Hd u) (l:=List.replicate (L+1) 0) hr R.reg (zeros_sts (by omega))
 rw[List.map_replicate] at h
 rw[show ((ord.length:Int)).toNat=L+1 by omega]
 exact h
theorem ex_zero (ho:ord.length=L+1) (rcv:Rcv):EX n S Hd L ord (mb_R13_expand_o_o_o rcv) 0:=fun i u keys out hi R E hb=>by
 refine⟨evD (L+1) u (List.replicate (L+1) 0),keys,out,?_,E,⟨[],(List.append_nil _).symm⟩,by omega,rfl⟩
 unfold mb_R13_expand_o_o_o
 rw[show eqB (i:Int) (aT (oI ord))=true from by rw[oI_len]; simp[eqB]; omega,cond_true]
 have h:=zero_val R ho
 rw[oI_len,show mkL 8 (ord.length:Int) (ord.length:Int) (0:Nat)=some (List.replicate ((ord.length:Int)).toNat 0) from if_pos ⟨by omega,by omega,by have:=R.hL; have:Hd.length<=25:=R.tok.h25; omega⟩]
 simp only[some_bind]
 rw[h]
 rfl
theorem lev_sub (hi:i+(m+1)=ord.length) (h1000:ord.length<=1000):bc .i64 (aT (oI ord)) (i:Int)=(m:Int)+1:=by
 rw[oI_len,isub_in (by omega)]
 omega
theorem find_is (E:EI n S Hd L ord keys out) (R:RE n S Hd L u) (hi:i+(m+1)=ord.length) (h1000:ord.length<=1000) (hb:out.length<=100000000) :
  ∃ o,aY (b_R13_expand_o_o_o_1 (tr S Hd u) (oI ord) (i:Int) keys out) ba 0=some o/\(o=.inr () \/ ∃ k:Nat,o=.inl ((k:Int),keys,out)/\Rep out (m+1) (k:Nat) (tg n L (m+1) (ord.drop i) u)):=by
 refine loop_iv (b:=b_R13_expand_o_o_o_1 (tr S Hd u) (oI ord) (i:Int) keys out) (n:=out.length) (s:=0) (fun k st=>st=(k:Int)) (fun o=>o=.inr () \/ ∃ k:Nat,o=.inl ((k:Int),keys,out)/\Rep out (m+1) (k:Nat) (tg n L (m+1) (ord.drop i) u)) (by omega) rfl
  (fun k st hk e=>?_) (fun st e=>?_)
 ·subst e
  have hx:out[k]?=some out[k]:=List.getElem?_eq_getElem hk
  have hf:keys[k]?=some (keys[k]'(by rw[E.len]; exact hk)):=List.getElem?_eq_getElem _
  generalize out[k]=x at hx
  generalize keys[k]'(by rw[E.len]; exact hk)=f at hf
  obtain⟨m',u',e1,rfl,R',hrep⟩:=E.ent k f x hf hx
  unfold b_R13_expand_o_o_o_1
  dsimp only
  rw[ltB_nat,decide_eq_true hk,cond_true,idx_nat,hx]
  simp only[some_bind]
  rw[lev_sub hi h1000,up_nat (by omega)]
  by_cases hm:m'=m
  ·subst hm
   rw[show eqB x.Level ((m':Int)+1)=true from by rw[e1]; simp[eqB],cond_true,idx_nat,hf]
   simp only[some_bind]
   rw[R'.same R]
   simp only[some_bind]
   by_cases hu:u'=u
   ·subst hu
    rw[decide_eq_true rfl]
    refine .inr ⟨_,rfl,.inr ⟨k,rfl,?_⟩⟩
    rw[show ord.length - (m'+1)=i by omega] at hrep
    exact hrep
   ·rw[decide_eq_false hu]
    exact .inl ⟨_,rfl,rfl⟩
  ·rw[show eqB x.Level ((m:Int)+1)=false from by rw[e1]; simp[eqB]; omega]
   exact .inl ⟨_,rfl,rfl⟩
 ·subst e
  unfold b_R13_expand_o_o_o_1
  dsimp only
  rw[ltB_nat,decide_eq_false (Nat.lt_irrefl _),cond_false]
  exact⟨_,rfl,.inl rfl⟩
structure KI (n:Nat) (S:Int) (Hd:List Point) (L:Nat) (ord:List Nat) (out:List Node) (u:DD (L+1)) (m i k0 s:Nat) (keys1:List Tree) (out1:List Node) (l:List Int):Prop where
 ei:EI n S Hd L ord keys1 out1
 ext:∃ ws,out1=out++ws
 len:out1.length<=out.length+s*cntN n m
 ll:l.length=s
 rep:∀ (j:Nat) k',l[j]?=some k'->Rep out1 m k' (tg n L m (ord.drop (i+1)) (fixD (L+1 - k0) j (L+1) u))
theorem KI.step {rcv:Rcv} {k0 s:Nat} {keys1:List Tree} {out1:List Node} {l:List Int} (h:EX n S Hd L ord rcv m) (K:KI n S Hd L ord out u m i k0 s keys1 out1 l) (R:RE n S Hd L u) (hi:i+(m+1)=ord.length) (hk0:k0 < L+1) (hs:s < n) (hb:out.length+cntN n (m+1)<=100000000) :
  ∃ k keys2 out2,rcv (tr S Hd (fixD (L+1 - k0) s (L+1) u)) (oI ord) ((i+1:Nat):Int) keys1 out1=some (k,keys2,out2)/\KI n S Hd L ord out u m i k0 (s+1) keys2 out2 (l++[k]):=by
 have hmul:(s+1)*cntN n m<=n*cntN n m:=Nat.mul_le_mul_right _ hs
 rw[Nat.succ_mul] at hmul
 have hc:cntN n (m+1)=n*cntN n m+1:=rfl
 have hlen:=K.len
 obtain⟨k,keys2,out2,e1,e2,⟨ws,e3⟩,e4,e5⟩:=h (i+1) _ keys1 out1 (by omega) (R.fix hk0 hs).1 K.ei (by omega)
 obtain⟨ws0,e0⟩:=K.ext
 refine⟨k,keys2,out2,e1,e2,⟨ws0++ws,by rw[e3,e0,List.append_assoc]⟩,by rw[Nat.succ_mul]; omega,by rw[List.length_append,K.ll]; rfl,fun j k' hj=>?_⟩
 rcases Nat.lt_or_ge j l.length with hlt | hge
 ·rw[List.getElem?_append_left hlt] at hj
  have:=K.rep j k' hj
  rw[e3]
  exact this.app
 ·rw[List.getElem?_append_right hge] at hj
  have:j - l.length=0:=by
   have:=(List.getElem?_eq_some_iff.1 hj).1
   simp at this
   omega
  rw[this] at hj
  cases hj
  rw[show j=s by have:=K.ll; omega]
  exact e5
theorem kids_is {rcv:Rcv} {k0:Nat} (h:EX n S Hd L ord rcv m) (E:EI n S Hd L ord keys out) (R:RE n S Hd L u) (hi:i+(m+1)=ord.length) (h1000:ord.length<=1000) (hk:ord[i]?=some k0) (hk0:k0 < L+1) (hb:out.length+cntN n (m+1)<=100000000) :
  ∃ r:List Tree×List Node×List Int,aY (b_R13_expand_o_o_o_2 rcv (tr S Hd u) (oI ord) (i:Int) out) ba (0,keys,out,[])=some r/\KI n S Hd L ord out u m i k0 n r.1 r.2.1 r.2.2:=by
 have hn8:=R.tok.n8
 have hst:S=(n:Int):=R.tok.st
 refine loop_iv (b:=b_R13_expand_o_o_o_2 rcv (tr S Hd u) (oI ord) (i:Int) out) (n:=n) (s:=(0,keys,out,[])) (fun s st=>∃ keys1 out1 l,st=((s:Int),keys1,out1,l)/\KI n S Hd L ord out u m i k0 s keys1 out1 l) (fun r=>KI n S Hd L ord out u m i k0 n r.1 r.2.1 r.2.2) (by omega)
  ⟨keys,out,[],rfl,E,⟨[],(List.append_nil _).symm⟩,by omega,rfl,fun j k' hj=>by simp at hj⟩ (fun s st hs ⟨keys1,out1,l,e,K⟩=>?_) (fun st ⟨keys1,out1,l,e,K⟩=>?_)
 ·subst e
  obtain⟨k,keys2,out2,e1,K2⟩:=K.step h R hi hk0 hs hb
  have hll:=K.ll
  unfold b_R13_expand_o_o_o_2
  dsimp only
  rw[show ltB (s:Int) S=true from decide_eq_true (by omega),cond_true,idx_nat,show (oI ord)[i]?=some (k0:Int) from by unfold oI; rw[List.getElem?_map,hk]; rfl]
  simp only[some_bind]
  rw[(R.fix hk0 hs).2]
  simp only[some_bind]
  rw[up_nat (by omega),e1]
  simp only[some_bind]
  rw[app8 (by omega),up_nat (by omega)]
  exact .inl ⟨_,rfl,keys2,out2,l++[k],rfl,K2⟩
 ·subst e
  unfold b_R13_expand_o_o_o_2
  dsimp only
  rw[show ltB (n:Int) S=false from decide_eq_false (by omega),cond_false]
  exact⟨_,rfl,K⟩
theorem EI.push {k0:Nat} {keys1:List Tree} {out1:List Node} {l:List Int} (K:KI n S Hd L ord out u m i k0 n keys1 out1 l) (R:RE n S Hd L u) (hi:i+(m+1)=ord.length) (hk:ord[i]?=some k0) :
  EI n S Hd L ord (keys1++[tr S Hd u]) (out1++[⟨(m:Int)+1,l⟩])/\Rep (out1++[⟨(m:Int)+1,l⟩]) (m+1) (out1.length:Nat) (tg n L (m+1) (ord.drop i) u):=by
 have hn2:=R.tok.n2
 have hdrop:ord.drop i=k0::ord.drop (i+1):=by
  have hlt:=(List.getElem?_eq_some_iff.1 hk).1
  rw[List.drop_eq_getElem_cons hlt]
  rw[List.getElem?_eq_getElem hlt] at hk
  rw[Option.some.inj hk]
 have hget:∀ (j:Nat) k' d,l[j]?=some k'->(tg n L (m+1) (ord.drop i) u).kids[j]?=some d->d=tg n L m (ord.drop (i+1)) (fixD (L+1 - k0) j (L+1) u):=fun j k' d h1 h2=>by
  rw[tg_kids,hdrop,List.getElem?_map] at h2
  have hj:j < n:=by
   have:=(List.getElem?_eq_some_iff.1 h1).1
   rw[K.ll] at this
   exact this
  rw[List.getElem?_range hj] at h2
  cases h2
  rfl
 have hrep:Rep (out1++[⟨(m:Int)+1,l⟩]) (m+1) (out1.length:Nat) (tg n L (m+1) (ord.drop i) u):=by
  refine⟨⟨(m:Int)+1,l⟩,by rw[idx_nat,List.getElem?_append_right (Nat.le_refl _),Nat.sub_self]; rfl,rfl,?_,fun j k' d h1 h2=>?_⟩
  ·rw[tg_kids,List.length_map,List.length_range]
   exact K.ll
  ·rw[hget j k' d h1 h2]
   exact (K.rep j k' h1).app
 have hg:=K.ei.good
 refine⟨⟨by rw[List.length_append,List.length_append,K.ei.len]; rfl,⟨fun j x hx=>?_,fun j x hx=>?_,fun j x hx=>?_,fun j x hx=>?_⟩,fun j f x hf hx=>?_⟩,hrep⟩
 all_goals rcases Nat.lt_or_ge j out1.length with hlt | hge
 ·rw[List.getElem?_append_left hlt] at hx
  exact hg.lev j x hx
 ·rw[List.getElem?_append_right hge] at hx
  obtain⟨_,hx⟩:=List.getElem?_eq_some_iff.1 hx
  simp at hx
  rw[<- hx]
  show (1:Int)<=(m:Int)+1
  omega
 ·rw[List.getElem?_append_left hlt] at hx
  exact hg.len j x hx
 ·rw[List.getElem?_append_right hge] at hx
  obtain⟨_,hx⟩:=List.getElem?_eq_some_iff.1 hx
  simp at hx
  rw[<- hx]
  exact K.ll
 ·rw[List.getElem?_append_left hlt] at hx
  intro h1 k' hk'
  obtain⟨a1,a2,y,a3,a4⟩:=hg.kid j x hx h1 k' hk'
  exact⟨a1,a2,y,by rw[List.getElem?_append_left (List.getElem?_eq_some_iff.1 a3).1]; exact a3,a4⟩
 ·rw[List.getElem?_append_right hge] at hx
  obtain⟨_,hx⟩:=List.getElem?_eq_some_iff.1 hx
  simp at hx
  intro h1 k' hk'
  rw[<- hx] at h1 hk' ⊢
  dsimp only at h1 hk' ⊢
  obtain⟨p,hp⟩:=List.mem_iff_getElem?.1 hk'
  have hr:=K.rep p k' hp
  obtain⟨m',rfl⟩:∃ m',m=m'+1:=⟨m - 1,by omega⟩
  obtain⟨y,y1,y2,_⟩:=hr
  obtain⟨b1,b2,b3⟩:=idx_lt y1
  exact⟨b1,by omega,y,by rw[List.getElem?_append_left (by omega)]; exact b3,by rw[y2]; omega⟩
 ·rw[List.getElem?_append_left hlt] at hx
  exact hg.st j x hx
 ·rw[List.getElem?_append_right hge] at hx
  obtain⟨_,hx⟩:=List.getElem?_eq_some_iff.1 hx
  simp at hx
  intro h1 k' hk'
  rw[<- hx] at h1 hk'
  dsimp only at h1 hk'
  obtain rfl:m=0:=by omega
  obtain⟨p,hp⟩:=List.mem_iff_getElem?.1 hk'
  have hpn:p < n:=by
   have:=(List.getElem?_eq_some_iff.1 hp).1
   rw[K.ll] at this
   exact this
  have hr:k'=tg n L 0 (ord.drop (i+1)) (fixD (L+1 - k0) p (L+1) u):=K.rep p k' hp
  rw[hr]
  exact tg_reg (by omega) 0 _ _ (fixD_reg hpn R.reg)
 ·rw[List.getElem?_append_left hlt] at hx
  rw[List.getElem?_append_left (by rw[K.ei.len]; exact hlt)] at hf
  obtain⟨m',u',a1,a2,a3,a4⟩:=K.ei.ent j f x hf hx
  exact⟨m',u',a1,a2,a3,a4.app⟩
 ·rw[List.getElem?_append_right hge] at hx
  rw[List.getElem?_append_right (by rw[K.ei.len]; exact hge)] at hf
  obtain⟨c1,hx⟩:=List.getElem?_eq_some_iff.1 hx
  obtain⟨_,hf⟩:=List.getElem?_eq_some_iff.1 hf
  simp at hx hf c1
  refine⟨m,u,by rw[<- hx],hf.symm,R,?_⟩
  rw[show ord.length - (m+1)=i by omega,show j=out1.length by omega]
  exact hrep
theorem app56 {l:List Tree} (hl:l.length<=100000000) (x:Tree):appL 56 l [x]=some (l++[x]):=if_pos ⟨by decide,by simp only[List.length_singleton]; omega⟩
theorem app32 {l:List Node} (hl:l.length<=100000000) (x:Node):appL 32 l [x]=some (l++[x]):=if_pos ⟨by decide,by simp only[List.length_singleton]; omega⟩
theorem ex_succ (ho:ord.length=L+1) (hord:∀ k∈ord,k < L+1) {rcv:Rcv} (h:EX n S Hd L ord rcv m):EX n S Hd L ord (mb_R13_expand_o_o_o rcv) (m+1):=fun i u keys out hi R E hb=>by
 have hL:=R.hL
 have h25:Hd.length<=25:=R.tok.h25
 have hk:ord[i]?=some (ord[i]'(by omega)):=List.getElem?_eq_getElem _
 have hk0:=hord (ord[i]'(by omega)) (List.getElem_mem _)
 generalize ord[i]'(by omega)=k0 at hk hk0
 have hc:cntN n (m+1)=n*cntN n m+1:=rfl
 obtain⟨o,h1,h2⟩:=find_is E R hi (by omega) (by omega)
 unfold mb_R13_expand_o_o_o
 rw[show eqB (i:Int) (aT (oI ord))=false from by rw[oI_len]; simp[eqB]; omega,cond_false,h1]
 simp only[some_bind]
 rcases h2 with rfl | ⟨k,rfl,hr⟩
 ·obtain⟨⟨keys1,out1,l⟩,g1,K⟩:=kids_is h E R hi (by omega) hk hk0 hb
  dsimp only at K ⊢
  rw[g1]
  simp only[some_bind]
  have hlen:=K.len
  have hkl:=K.ei.len
  rw[app56 (by omega)]
  simp only[some_bind]
  rw[lev_sub hi (by omega),app32 (by omega)]
  simp only[some_bind]
  obtain⟨p1,p2⟩:=EI.push K R hi hk
  obtain⟨ws,hw⟩:=K.ext
  refine⟨_,_,_,rfl,p1,⟨ws++[⟨(m:Int)+1,l⟩],by rw[hw,List.append_assoc]⟩,by rw[List.length_append,List.length_singleton]; omega,?_⟩
  rw[show bc .i64 (aT out1+1) 1=(out1.length:Int) from by
   unfold aT
   rw[isub_in (by omega)]
   omega]
  exact p2
 ·exact⟨k,keys,out,rfl,E,⟨[],(List.append_nil _).symm⟩,by omega,hr⟩
theorem ex_all (ho:ord.length=L+1) (hord:∀ k∈ord,k < L+1):∀ (m f:Nat),m < f->EX n S Hd L ord (fU mb_R13_expand_o_o_o (fun _ _ _ _ _=>none) f) m
 | _,0,h=>absurd h (by omega)
 | 0,f+1,_=>ex_zero ho _
 | m+1,f+1,h=>ex_succ ho hord (ex_all ho hord m f (by omega))
end
end Go.Proofs.YtcllfealpkhjfaaGreatDoor
namespace Go.Proofs.YtcllfealpkhjfaaGreatDoor
open Go.AM Go.Proofs
section
variable {n:Nat} {S:Int} {Hd:List Point} {L:Nat} {u:DD (L+1)} {ord:List Nat}
theorem EI.nil:EI n S Hd L ord [] []:=⟨rfl,⟨fun j x h=>by simp at h,fun j x h=>by simp at h,fun j x h=>by simp at h,fun j x h=>by simp at h⟩,fun j f x h=>by simp at h⟩
theorem kids0_is {k0:Nat} (ho:ord.length=L+1) (hord:∀ k∈ord,k < L+1) (R:RE n S Hd L u) (hk:ord[0]?=some k0) (hb:cntN n (L+1)<=100000000) :
  ∃ r:List Tree×List Node×List Int,aY (b_R13_expand_o_N_N_2 (tr S Hd u) (oI ord) 0) ba (0,[],[],[])=some r/\KI n S Hd L ord [] u L 0 k0 n r.1 r.2.1 r.2.2:=by
 have hn8:=R.tok.n8
 have hst:S=(n:Int):=R.tok.st
 have hL:=R.hL
 have h25:Hd.length<=25:=R.tok.h25
 have hk0:k0 < L+1:=hord k0 (List.mem_of_getElem? hk)
 have h:EX n S Hd L ord m_R13_expand_o_o_o L:=by
  have h0:=ex_all (n:=n) (S:=S) (Hd:=Hd) ho hord L fg (by unfold fg; omega)
  unfold EX at h0 ⊢
  intro i u keys out a1 a2 a3 a4
  unfold m_R13_expand_o_o_o
  exact h0 i u keys out a1 a2 a3 a4
 refine loop_iv (b:=b_R13_expand_o_N_N_2 (tr S Hd u) (oI ord) 0) (n:=n) (s:=(0,[],[],[])) (fun s st=>∃ keys1 out1 l,st=((s:Int),keys1,out1,l)/\KI n S Hd L ord [] u L 0 k0 s keys1 out1 l) (fun r=>KI n S Hd L ord [] u L 0 k0 n r.1 r.2.1 r.2.2) (by omega)
  ⟨[],[],[],rfl,EI.nil,⟨[],rfl⟩,by simp,rfl,fun j k' hj=>by simp at hj⟩ (fun s st hs ⟨keys1,out1,l,e,K⟩=>?_) (fun st ⟨keys1,out1,l,e,K⟩=>?_)
 ·subst e
  obtain⟨k,keys2,out2,e1,K2⟩:=K.step h R (by omega) hk0 hs (by simpa using hb)
  have hll:=K.ll
  unfold b_R13_expand_o_N_N_2
  dsimp only
  rw[show ltB (s:Int) S=true from decide_eq_true (by omega),cond_true,show idx (oI ord) 0=some (k0:Int) from by
   rw[show (0:Int)=((0:Nat):Int) from rfl,idx_nat]
   unfold oI
   rw[List.getElem?_map,hk]
   rfl]
  simp only[some_bind]
  rw[(R.fix hk0 hs).2]
  simp only[some_bind]
  rw[show bq .i64 0 1=((0+1:Nat):Int) from rfl,e1]
  simp only[some_bind]
  rw[app8 (by omega),up_nat (by omega)]
  exact .inl ⟨_,rfl,keys2,out2,l++[k],rfl,K2⟩
 ·subst e
  unfold b_R13_expand_o_N_N_2
  dsimp only
  rw[show ltB (n:Int) S=false from decide_eq_false (by omega),cond_false]
  exact⟨_,rfl,K⟩
theorem expand_is (ho:ord.length=L+1) (hord:∀ k∈ord,k < L+1) (R:RE n S Hd L u) (hb:cntN n (L+1)<=100000000) :
  ∃ k keys out,m_R13_expand_o_N_N (tr S Hd u) (oI ord) 0=some (k,keys,out)/\Good n out/\out.length<=100000000/\∃ j,j+1=out.length/\Rep out (L+1) (j:Nat) (tg n L (L+1) ord u):=by
 have hL:=R.hL
 have h25:Hd.length<=25:=R.tok.h25
 obtain⟨k0,hk⟩:∃ k0,ord[0]?=some k0:=⟨_,List.getElem?_eq_getElem (by omega)⟩
 obtain⟨⟨keys1,out1,l⟩,g1,K⟩:=kids0_is ho hord R hk hb
 dsimp only at K
 have hlen:=K.len
 have hkl:=K.ei.len
 have hc:cntN n (L+1)=n*cntN n L+1:=rfl
 simp only[List.length_nil,Nat.zero_add] at hlen
 obtain⟨p1,p2⟩:=EI.push K R (by omega) hk
 rw[List.drop_zero] at p2
 refine⟨bc .i64 (aT out1+1) 1,keys1++[tr S Hd u],out1++[⟨(L:Int)+1,l⟩],?_,p1.good,by rw[List.length_append,List.length_singleton]; omega,out1.length,by rw[List.length_append]; rfl,p2⟩
 ·show mb_R13_expand_o_N_N (fU mb_R13_expand_o_N_N (fun _ _ _=>none) 1099511627775) (tr S Hd u) (oI ord) 0=_
  unfold mb_R13_expand_o_N_N
  rw[show eqB 0 (aT (oI ord))=false from by rw[oI_len]; simp[eqB]; omega,cond_false,show aY (b_R13_expand_o_N_N_1 (tr S Hd u) (oI ord) 0) ba ()=some () from rfl]
  simp only[some_bind]
  rw[g1]
  simp only[some_bind]
  rw[app56 (by omega)]
  simp only[some_bind]
  rw[show bc .i64 (aT (oI ord)) 0=(L:Int)+1 from lev_sub (i:=0) (by omega) (by omega),app32 (by omega)]
  rfl
end
section
variable {n L:Nat} {t:Tree} {u:DD (L+1)}
theorem TD.re (T:TD n L t u):RE n t.States t.Hood L u:=by
 obtain⟨i,hi,hr⟩:=T.rep
 obtain⟨h1,h2⟩:=T.tok.red T.hL hr
 exact⟨T.hL,tok_hood T.ok,h1,h2,T.reg⟩
theorem turnedR_is (T:TD n L t u) (hcnt:cntOk n L) {k:Nat} (hk:k < 8):∃ l v,TRI n L (t.Hood.map (apK k)) u l v/\l.Pairwise (fun a b=>befP a b=true) /\
  m_R13_Turn (k:Int) t=some (bif gtB (aT (ser (post (L+1) v []))) 4096 then (⟨0,[],[]⟩,6) else (⟨t.States,l,ser (post (L+1) v [])⟩,0)):=by
 have h25:=T.tok.h25
 have hn2:=T.tok.n2
 have hn8:=T.tok.n8
 have hL:=T.hL
 have hh:=tok_hood T.ok
 obtain⟨_,_,hpt⟩:=hood_pts0 hh
 have hnd:(t.Hood.map (apK k)).Nodup:=by
  have:=sorted_nodup (hood_sorted hh)
  rw[List.nodup_iff_pairwise_ne] at this ⊢
  rw[List.pairwise_map]
  exact this.imp fun{a b} h e=>h (apK_inj k e)
 obtain⟨I,hI⟩:∃ I,I=t.Hood.map (apK k):=⟨_,rfl⟩
 have hIl:I.length=L+1:=by rw[hI,List.length_map,hL]
 rw[<- hI] at hnd ⊢
 obtain⟨l,h1,h2,h3⟩:=sort_is hnd (by omega)
 have hll:l.length=L+1:=by rw[h2.length_eq,hIl]
 obtain⟨ord,hord⟩:∃ ord:List Nat,ord=l.map fun p=>I.idxOf p:=⟨_,rfl⟩
 have ho:ord.length=L+1:=by rw[hord,List.length_map,hll]
 have hlt:∀ k∈ord,k < L+1:=fun j hj=>by
  rw[hord] at hj
  obtain⟨p,hp,rfl⟩:=List.mem_map.1 hj
  rw[<- hIl]
  exact List.idxOf_lt_length_iff.2 (h2.subset hp)
 obtain⟨kk,keys,out,e1,hG,hol,j,hj,hr⟩:=expand_is ho hlt T.re hcnt
 have hreg:=tg_reg (n:=n) (L:=L) (by omega) (L+1) ord u T.reg
 refine⟨l,tg n L (L+1) ord u,⟨h2,hreg,fun c hc=>?_⟩,h3,?_⟩
 ·have hs:Sts n ord.length (l.map c):=⟨by rw[List.length_map,hll,ho],fun s hs=>by
   obtain⟨p,_,rfl⟩:=List.mem_map.1 hs
   exact hc p⟩
  have he:=tg_ev (n:=n) (L:=L) (by omega) ord u (l.map c) T.reg hlt hs
  have hmap:l.map c=ord.map fun i=>c (I.getD i ⟨0,0⟩):=by
   rw[hord,List.map_map]
   refine List.map_congr_left fun p hp=>?_
   have hpI:=List.idxOf_lt_length_iff.2 (h2.subset hp)
   show c p=c (I.getD (I.idxOf p) ⟨0,0⟩)
   rw[List.getD_eq_getElem?_getD,List.getElem?_eq_getElem hpI,Option.getD_some,List.getElem_idxOf hpI]
  have hpl:place ord (l.map c) (List.replicate (L+1) 0)=I.map c:=by
   rw[hmap,place_all (m:=L+1) (List.length_replicate) (fun i hi=>?_)]
   ·apply List.ext_getElem?
    intro i
    rcases Nat.lt_or_ge i (L+1) with h | h
    ·rw[List.getElem?_map,List.getElem?_range h,List.getElem?_map,List.getElem?_eq_getElem (by omega)]
     show some (c (I.getD i ⟨0,0⟩))=some (c I[i])
     rw[List.getD_eq_getElem?_getD,List.getElem?_eq_getElem (by omega)]
     rfl
    ·rw[List.getElem?_eq_none (by simpa using h),List.getElem?_eq_none (by rw[List.length_map]; omega)]
   ·rw[hord]
    have hm:I[i]'(by omega)∈l:=h2.symm.subset (List.getElem_mem _)
    refine List.mem_map.2 ⟨_,hm,?_⟩
    have hlt':=List.idxOf_lt_length_iff.2 (h2.subset hm)
    exact (List.getElem_inj hnd).1 (List.getElem_idxOf hlt')
  rw[hpl] at he
  rw[ho] at he
  exact he
 ·unfold m_R13_Turn
  rw[treeR_eq (sz_of T.tok),T.ok]
  simp only[some_bind,bB,Bool.not_true,cond_false]
  rw[images_is hk (by omega) (fun p hp=>by
   have:=hpt p hp
   exact⟨by omega,by omega⟩),<- hI]
  simp only[some_bind]
  rw[h1]
  simp only[some_bind]
  rw[order_is hnd (by omega) (by omega) (fun p hp=>h2.subset hp),T.reduceR]
  simp only[some_bind]
  have e1':m_R13_expand_o_N_N ⟨t.States,t.Hood,ser (post (L+1) u [])⟩ (l.map fun p=>((I.idxOf p:Nat):Int)) 0=some (kk,keys,out):=by
   rw[show (l.map fun p=>((I.idxOf p:Nat):Int))=oI ord from by
    rw[hord]
    unfold oI
    rw[List.map_map]
    rfl]
   exact e1
  rw[e1']
  simp only[some_bind]
  rw[reduced13_is hG (by omega) (by omega) hj hr (by omega)]
  simp only[some_bind]
  cases gtB (aT (ser (post (L+1) (tg n L (L+1) ord u) []))) 4096<;>rfl
theorem turnR_inv (T:TD n L t u) (hcnt:cntOk n L) {k:Nat} (hk:k < 8):∃ t' e,m_R13_Turn (k:Int) t=some (t',e)/\((Inv n L t u k/\e=0/\m_R13_Equal t' t=some true) \/ (¬Inv n L t u k/\(e=6 \/ (e=0/\m_R13_Equal t' t=some false)))):=by
 obtain⟨l,v,h1,h2,h3⟩:=turnedR_is T hcnt hk
 have hln:=red_len T
 have hn4:=T.tok.nodes
 have hiff:=inv_iff T h1 h2
 by_cases hgt:4096 < (ser (post (L+1) v [])).length
 ·rw[show gtB (aT (ser (post (L+1) v []))) 4096=true from decide_eq_true (by unfold aT; omega)] at h3
  refine⟨_,_,h3,.inr ⟨fun hi=>?_,.inl rfl⟩⟩
  obtain⟨_,rfl⟩:=hiff.1 hi
  omega
 ·rw[show gtB (aT (ser (post (L+1) v []))) 4096=false from decide_eq_false (by unfold aT; omega)] at h3
  have T':=td_turned T h1 h2 (by omega)
  have he:=equalR_is T' T
  dsimp only at he
  rw[decide_eq_true rfl,Bool.true_and] at he
  by_cases hinv:Inv n L t u k
  ·obtain⟨rfl,rfl⟩:=hiff.1 hinv
   rw[decide_eq_true rfl,decide_eq_true rfl] at he
   exact⟨_,_,h3,.inl ⟨hinv,rfl,he⟩⟩
  ·refine⟨_,_,h3,.inr ⟨hinv,.inr ⟨rfl,?_⟩⟩⟩
   rw[he]
   congr 1
   by_cases hl:l=t.Hood
   ·rw[decide_eq_true hl,Bool.true_and]
    exact decide_eq_false fun e=>hinv (hiff.2 ⟨hl,ser_inj h1.reg T.reg e⟩)
   ·rw[decide_eq_false hl]
    rfl
theorem symsR_is (T:TD n L t u) (hcnt:cntOk n L) (f:Nat->Bool) (hf:∀ k,k < 8->(f k=true↔Inv n L t u k)):m_R16_Syms t=some (selL f 8):=by
 unfold m_R16_Syms
 obtain⟨r,hr,rfl⟩:=loop_iv (b:=b_R16_Syms_1 t) (n:=8) (s:=(0,[])) (fun k st=>st=((k:Int),selL f k)) (fun r=>r=selL f 8) (by omega) (by simp[selL])
  (fun k st hk e=>by
   subst e
   have hlen:=selL_len f k
   obtain⟨t',e,h1,h2⟩:=turnR_inv T hcnt hk
   refine .inl ⟨_,?_,rfl⟩
   unfold b_R16_Syms_1
   dsimp only
   rw[show ltB (k:Int) 8=true from decide_eq_true (by omega),cond_true,treeR_eq (sz_of T.tok),T.ok]
   simp only[some_bind,cond_true]
   rw[h1,up_nat (by omega),selL_succ]
   simp only[some_bind]
   rcases h2 with ⟨g1,rfl,g2⟩ | ⟨g1,g2⟩
   ·rw[show eqB 0 0=true from rfl,cond_true,g2,(hf k hk).2 g1]
    simp only[some_bind,cond_true]
    rw[show appL 8 (selL f k) [(k:Int)]=some (selL f k++[(k:Int)]) from app8 (by omega) _]
    rfl
   ·have hfk:f k=false:=by
     cases h:f k with
     | false=>rfl
     | true=>exact absurd ((hf k hk).1 h) g1
    rw[hfk]
    simp only[cond_false,List.append_nil]
    rcases g2 with rfl | ⟨rfl,g3⟩
    ·rfl
    ·rw[show eqB 0 0=true from rfl,cond_true,g3]
     rfl)
  (fun st e=>by
   subst e
   refine⟨_,?_,rfl⟩
   unfold b_R16_Syms_1
   rfl)
 rw[hr]
 rfl
end
end Go.Proofs.YtcllfealpkhjfaaGreatDoor
