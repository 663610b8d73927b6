/- Plain laws: the formula of a grid's predecessors: the reference, and the law. -/
import Derived.Test.YtnkmjlncmlmnbaaGreatDoorUbx2
namespace Go.Proofs.YtnkmjlncmlmnbaaGreatDoor
open Go.AM Go.Proofs
section
variable {n b:Nat} {t:Tree} {ns:List Node} {g:Grid} {w h r:Nat}
end
theorem lt_of_fit {v:Int} {cs:List (List Int)} (h:fitB v cs=true):cs.length < 1099511627776:=by
 have:=fit_len h
 omega
theorem fit_eq {v:Int} {cs:List (List Int)} (h:fitB v cs=true) (hc:∀ c∈cs,c.length < 1099511627776):m_R41_Equal ⟨v,cs⟩ ⟨v,cs⟩=some true:=equal41 _ (lt_of_fit h) hc
end Go.Proofs.YtnkmjlncmlmnbaaGreatDoor
namespace Go.Proofs.YtnkmjlncmlmnbaaGreatDoor
open Go.AM Go.Proofs
theorem gat_mem {α β:Type} {f:Nat->α->List β} {c:β}:∀ {l:List α} {i:Nat},c∈gat f l i->∃ j x,x∈l/\c∈f j x
 | [],_,h=>by cases h
 | x::l,i,h=>by
  rcases List.mem_append.1 h with h | h
  ·exact⟨i,x,by simp,h⟩
  ·obtain⟨j,y,h1,h2⟩:=gat_mem h
   exact⟨j,y,by simp[h1],h2⟩
def CL (cs:List (List Int)):Prop:=∀ c∈cs,c.length<=8
theorem CL.app {a b:List (List Int)} (h1:CL a) (h2:CL b):CL (a++b):=fun c hc=>by
 rcases List.mem_append.1 hc with h | h
 ·exact h1 c h
 ·exact h2 c h
theorem CL.nil:CL []:=fun c h=>by cases h
theorem fix_cl (l:List Int) (c:Int):CL (fixS l c):=fun d hd=>by
 obtain⟨j,x,_,h⟩:=gat_mem hd
 rw[List.mem_singleton.1 h]
 simp
theorem same_cl:∀ x y:List Int,CL (sameS x y)
 | [],y=>CL.nil
 | x::xs,[]=>CL.nil
 | x::xs,y::ys=>fun d hd=>by
  rcases List.mem_cons.1 hd with h | hd
  ·rw[h]; simp
  rcases List.mem_cons.1 hd with h | hd
  ·rw[h]; simp
  exact same_cl xs ys d hd
theorem sel_cl {un own:List Int} (h:un.length<=3) (v:SV):CL (selS un own v):=fun d hd=>by
 obtain⟨j,x,_,hc⟩:=gat_mem hd
 unfold sel1 at hc
 cases he:isE v.2 with
 | true =>
  rw[he,cond_true] at hc
  rw[List.mem_singleton.1 hc,List.length_append]
  simp
  omega
 | false =>
  rw[he,cond_false] at hc
  rcases List.mem_cons.1 hc with e | hc
  ·rw[e,List.length_append]; simp; omega
  ·rw[List.mem_singleton.1 hc,List.length_append]; simp; omega
theorem ex_cl {n b:Nat} (hb:b<=3) {vs:List Int} (h:vs.length=b):CL (exC n b vs):=fun d hd=>by
 unfold exC at hd
 obtain⟨k,_,rfl⟩:=List.mem_map.1 hd
 rw[agS_len]
 omega
theorem cells_cl {n b m:Nat} (hb:b<=3):CL (cellsC n b m):=fun d hd=>by
 obtain⟨j,v,hv,hc⟩:=gat_mem hd
 exact ex_cl hb (cellsV_ok (n:=n) v hv).2 d hc
theorem tree_cl {n b H:Nat} {in_:List SV} {ns:List Node} {v:Int} {cs:List (List Int)} (W:WT n b H in_ ns) (h:CL cs):∀ i,i<=ns.length->CL (treeS b H in_ (ns.take i) (v,cs,[])).2.1
 | 0,_=>h
 | i+1,hi=>by
  have ih:=tree_cl (v:=v) W h i (by omega)
  have hx:ns[i]?=some ns[i]:=List.getElem?_eq_getElem (by omega)
  rw[tree_take b H in_ _ hx]
  generalize ns[i]=x at hx
  have hr:=rds_len W hx
  generalize treeS b H in_ (ns.take i) (v,cs,[])=st at ih
  unfold nodeS
  cases uniB x with
  | true=>exact ih
  | false =>
   refine ih.app fun d hd=>?_
   obtain⟨s,_,_,hc⟩:=gat_mem hd
   exact sel_cl (by rw[agS_len]; exact hr) _ d hc
theorem tree_cl' {n b H:Nat} {in_:List SV} {ns:List Node} {v:Int} {cs:List (List Int)} (W:WT n b H in_ ns) (h:CL cs):CL (treeS b H in_ ns (v,cs,[])).2.1:=by
 have:=tree_cl (v:=v) W h ns.length (Nat.le_refl _)
 rwa [List.take_length] at this
theorem CL.lt {cs:List (List Int)} (h:CL cs):∀ c∈cs,c.length < 1099511627776:=fun c hc=>by have:=h c hc; omega
theorem eqB_self (a:Int):eqB a a=true:=by simp[eqB]
end Go.Proofs.YtnkmjlncmlmnbaaGreatDoor
namespace Go.Proofs.YtnkmjlncmlmnbaaGreatDoor
open Go.AM Go.Proofs
def UniD (M:Nat):(L:Nat)->DD L->Prop
 | 0,_=>True
 | L+1,u=>(L+1=M->∀ d∈u.kids,∀ d'∈u.kids,d=d')/\∀ d∈u.kids,UniD M L d
theorem uni_dflt (M:Nat):∀ L,UniD M L (DD.dflt L)
 | 0=>trivial
 | L+1=>⟨fun _ d hd=>(by cases hd),fun d hd=>(by cases hd)⟩
theorem fixD_at {M s L:Nat} {u:DD (L+1)} (h:L+1=M):(fixD M s (L+1) u).kids=List.replicate u.kids.length ((u.kids.map (fixD M s L)).getD s (DD.dflt L)):=by
 unfold fixD
 rw[if_pos h]
 rfl
theorem fixD_off {M s L:Nat} {u:DD (L+1)} (h:L+1≠M):(fixD M s (L+1) u).kids=u.kids.map (fixD M s L):=by
 unfold fixD
 rw[if_neg h]
 rfl
theorem getD_cases {α:Type} (l:List α) (s:Nat) (d:α):l.getD s d=d \/ l.getD s d∈l:=by
 rw[List.getD_eq_getElem?_getD]
 cases h:l[s]? with
 | none=>exact .inl rfl
 | some x=>exact .inr (List.mem_of_getElem? h)
theorem fixD_uni (M s:Nat):∀ (L:Nat) (u:DD L),UniD M L (fixD M s L u)
 | 0,_=>trivial
 | L+1,u=>by
  by_cases h:L+1=M
  ·refine⟨fun _ d hd d' hd'=>?_,fun d hd=>?_⟩
   ·rw[fixD_at h] at hd hd'
    rw[List.eq_of_mem_replicate hd,List.eq_of_mem_replicate hd']
   ·rw[fixD_at h] at hd
    rw[List.eq_of_mem_replicate hd]
    rcases getD_cases (u.kids.map (fixD M s L)) s (DD.dflt L) with e | e
    ·rw[e]; exact uni_dflt M L
    ·obtain⟨k,_,e2⟩:=List.mem_map.1 e
     rw[<- e2]
     exact fixD_uni M s L k
  ·refine⟨fun e=>absurd e h,fun d hd=>?_⟩
   rw[fixD_off h] at hd
   obtain⟨k,_,e2⟩:=List.mem_map.1 hd
   rw[<- e2]
   exact fixD_uni M s L k
theorem uni_fix (M M' s:Nat):∀ (L:Nat) (u:DD L),UniD M L u->UniD M L (fixD M' s L u)
 | 0,_,_=>trivial
 | L+1,u,⟨h1,h2⟩=>by
  by_cases h:L+1=M'
  ·refine⟨fun _ d hd d' hd'=>?_,fun d hd=>?_⟩
   ·rw[fixD_at h] at hd hd'
    rw[List.eq_of_mem_replicate hd,List.eq_of_mem_replicate hd']
   ·rw[fixD_at h] at hd
    rw[List.eq_of_mem_replicate hd]
    rcases getD_cases (u.kids.map (fixD M' s L)) s (DD.dflt L) with e | e
    ·rw[e]; exact uni_dflt M L
    ·obtain⟨k,hk,e2⟩:=List.mem_map.1 e
     rw[<- e2]
     exact uni_fix M M' s L k (h2 k hk)
  ·refine⟨fun e d hd d' hd'=>?_,fun d hd=>?_⟩
   ·rw[fixD_off h] at hd hd'
    obtain⟨k,hk,e2⟩:=List.mem_map.1 hd
    obtain⟨k',hk',e2'⟩:=List.mem_map.1 hd'
    rw[<- e2,<- e2',h1 e k hk k' hk']
   ·rw[fixD_off h] at hd
    obtain⟨k,hk,e2⟩:=List.mem_map.1 hd
    rw[<- e2]
    exact uni_fix M M' s L k (h2 k hk)
theorem post_uni (M:Nat):∀ (L:Nat) (u:DD L) (s:List ND),UniD M L u->(∀ x∈s,UniD M (x.1+1) x.2)->∀ x∈post L u s,UniD M (x.1+1) x.2
 | 0,_,_,_,hs=>hs
 | L+1,u,s,hu,hs=>by
  unfold post
  split
  ·exact hs
  ·intro x hx
   rcases List.mem_append.1 hx with hx | hx
   ·have:∀ (l:List (DD L)) (s:List ND),(∀ d∈l,UniD M L d)->(∀ x∈s,UniD M (x.1+1) x.2)->∀ x∈l.foldl (fun s d=>post L d s) s,UniD M (x.1+1) x.2:=by
     intro l
     induction l with
     | nil=>intro s _ hs; exact hs
     | cons d l ih =>
      intro s hl hs
      exact ih _ (fun e he=>hl e (by simp[he])) (post_uni M L d s (hl d (by simp)) hs)
    exact this u.kids s hu.2 hs x hx
   ·rw[List.mem_singleton.1 hx]
    exact hu
theorem serNode_uni {us:List ND} {w:ND} (h:∀ d∈w.2.kids,∀ d'∈w.2.kids,d=d'):uniB (serNode us w)=true:=by
 obtain⟨L,u⟩:=w
 have key:∀ l:List Int,(∀ a∈l,∀ c∈l,a=c)->l.all (fun k=>eqB k (l.getD 0 0))=true:=fun l hl=>by
  rw[List.all_eq_true]
  intro k hk
  rcases getD_cases l 0 0 with e | e
  ·cases l with
   | nil=>cases hk
   | cons a l =>
    have:(a::l).getD 0 0=a:=rfl
    rw[this,hl k hk a (by simp)]
    exact eqB_self a
  ·rw[hl k hk _ e]
   exact eqB_self _
 cases L with
 | zero=>exact key u.kids h
 | succ L =>
  refine key _ fun a ha c hc=>?_
  obtain⟨d,hd,rfl⟩:=List.mem_map.1 ha
  obtain⟨d',hd',rfl⟩:=List.mem_map.1 hc
  rw[h d hd d' hd']
theorem serNode_lev (us:List ND) (x:ND):(serNode us x).Level=(x.1:Int)+1:=by
 obtain⟨K,w⟩:=x
 cases K with
 | zero=>rfl
 | succ K=>show (K:Int)+2=((K+1:Nat):Int)+1; omega
theorem ser_uni {M L:Nat} {u:DD (L+1)} (h:UniD M (L+1) u) {x:Node} (hx:x∈ser (post (L+1) u [])) (hM:x.Level=(M:Int)):uniB x=true:=by
 unfold ser at hx
 obtain⟨w,hw,rfl⟩:=List.mem_map.1 hx
 have:=post_uni M (L+1) u [] h (fun y hy=>by cases hy) w hw
 rw[serNode_lev] at hM
 exact serNode_uni (this.1 (by omega))
structure RD (n:Nat) (S:Int) (Hd:List Point) (L:Nat) (u:DD (L+1)):Prop where
 hL:L+1=Hd.length
 hd:hoodOk Hd=true
 tok:TOk n ⟨S,Hd,ser (post (L+1) u [])⟩
 rep:∃ j,j+1=(ser (post (L+1) u [])).length/\Rep (ser (post (L+1) u [])) (L+1) (j:Nat) u
theorem RD.fix {n:Nat} {S:Int} {Hd:List Point} {L:Nat} {u:DD (L+1)} (R:RD n S Hd L u) {k s:Nat} (hk:k < Hd.length) (hs:s < n) :
  RD n S Hd L (fixD (Hd.length - k) s (L+1) u)/\m_reduce_Fix ⟨S,Hd,ser (post (L+1) u [])⟩ (k:Int) (s:Int)=some (⟨S,Hd,ser (post (L+1) (fixD (Hd.length - k) s (L+1) u) [])⟩,0) /\
   m_R13_Fix ⟨S,Hd,ser (post (L+1) u [])⟩ (k:Int) (s:Int)=some (⟨S,Hd,ser (post (L+1) (fixD (Hd.length - k) s (L+1) u) [])⟩,0):=by
 obtain⟨j,hj,hr⟩:=R.rep
 have hok:=tok_ok R.tok R.hd
 have hf:=fix_is hok R.tok hj R.hL hr hk hs
 have hc:=R.tok.chg (M:=Hd.length - k) hs
 have hr1:=rep_fix (M:=Hd.length - k) (s:=s) (fun i x hx=>by rw[R.tok.good.len i x hx]; exact hs) hr
 have hz:=hc.red R.hL hr1
 exact⟨⟨R.hL,R.hd,hz.1,hz.2⟩,hf⟩
theorem rd_of {t:Tree} (hok:treeOk t=true):∃ n b L,∃ u:DD (L+1),RT n b t (ser (post (L+1) u []))/\RD n t.States t.Hood L u:=by
 obtain⟨n,h⟩:=ok_tree hok
 obtain⟨b,B⟩:=sb_of h.n2 h.n8
 obtain⟨L,i,u,hi,hL,hr,_⟩:=h.rep
 obtain⟨h1,h2⟩:=reduce_is hok h hi hL hr
 obtain⟨h3,h4⟩:=h.red hL hr
 exact⟨n,b,L,u,⟨B,h.st,hok,h,h3,h1,h2⟩,hL,tok_hood hok,h3,h4⟩
def fixI (H:Nat) (in_:List SV) {L:Nat} (u:DD (L+1)):Nat->DD (L+1)
 | 0=>u
 | k+1=>bif isE (in_.getD k (0,[])).2 then fixD (H - k) (in_.getD k (0,[])).1.toNat (L+1) (fixI H in_ u k) else fixI H in_ u k
def trS (H:Nat) {L:Nat} (u:DD (L+1)) (in_:List SV):List Node:=ser (post (L+1) (fixI H in_ u H) [])
theorem fixI_rd {n b:Nat} {S:Int} {Hd:List Point} {L:Nat} {u:DD (L+1)} (R:RD n S Hd L u) {in_:List SV} (hl:in_.length=Hd.length) (hv:∀ v∈in_,VOk n b v) (hb:1<=b):∀ k,k<=Hd.length->RD n S Hd L (fixI Hd.length in_ u k)
 | 0,_=>R
 | k+1,hk=>by
  have ih:=fixI_rd R hl hv hb k (by omega)
  unfold fixI
  have hm:=hv (in_.getD k (0,[])) (by
   rw[List.getD_eq_getElem?_getD,List.getElem?_eq_getElem (by omega)]
   exact List.getElem_mem _)
  cases he:isE (in_.getD k (0,[])).2 with
  | false=>exact ih
  | true =>
   rw[cond_true]
   refine (ih.fix (by omega) ?_).1
   rcases hm with ⟨_,h1,h2⟩ | ⟨_,h2⟩
   ·omega
   ·rw[isE_true he] at h2; simp at h2; omega
theorem fixI_uni (H:Nat) (in_:List SV) {L:Nat} (u:DD (L+1)) {k:Nat} (he:isE (in_.getD k (0,[])).2=true):∀ m,k < m->UniD (H - k) (L+1) (fixI H in_ u m)
 | 0,h=>by omega
 | m+1,h=>by
  unfold fixI
  rcases Nat.lt_succ_iff_lt_or_eq.1 h with h | rfl
  ·have ih:=fixI_uni H in_ u he m h
   cases isE (in_.getD m (0,[])).2 with
   | false=>exact ih
   | true=>exact uni_fix _ _ _ _ _ ih
  ·rw[he,cond_true]
   exact fixD_uni _ _ _ _
theorem wt_fix {n b:Nat} {S:Int} {Hd:List Point} {L:Nat} {u:DD (L+1)} (R:RD n S Hd L u) (B:SB n b) {in_:List SV} (hl:in_.length=Hd.length) (hv:∀ v∈in_,VOk n b v):WT n b Hd.length in_ (trS Hd.length u in_):=by
 have h:=(fixI_rd R hl hv B.b1 Hd.length (Nat.le_refl _)).tok
 obtain⟨i,x,e1,e2,_⟩:=h.root
 refine⟨B.n2,B.n8,B.b1,B.b3,h.h25,h.nodes,by unfold trS; dsimp only at e1; omega,h.good,h.lev,hl,hv,fun x hx hu e=>?_⟩
 obtain⟨j,hj⟩:=List.mem_iff_getElem?.1 hx
 have h1:=h.good.lev j x hj
 have h2:=h.lev x hx
 dsimp only at h2
 unfold rdS at e
 have:=ser_uni (M:=Hd.length - (Hd.length - x.Level.toNat)) (fixI_uni Hd.length in_ u (k:=Hd.length - x.Level.toNat) (by rw[e]; rfl) Hd.length (by omega)) hx (by omega)
 rw[this] at hu
 cases hu
end Go.Proofs.YtnkmjlncmlmnbaaGreatDoor
namespace Go.Proofs.YtnkmjlncmlmnbaaGreatDoor
open Go.AM Go.Proofs
def kyI (v:SV):Int:=bif isE v.2 then v.1 else 255
def keyI (in_:List SV):List UInt8:=ofBytes (in_.map kyI)
theorem ky_inj {n b:Nat} {v w:SV} (hn:n<=8) (hb:1<=b) (hv:VOk n b v) (hw:VOk n b w) (h:UInt8.ofNat (kyI v).toNat=UInt8.ofNat (kyI w).toNat):isE v.2=isE w.2/\(isE v.2=true->v.1=w.1):=by
 have e:∀ {a c:Nat},a < 256->c < 256->UInt8.ofNat a=UInt8.ofNat c->a=c:=fun ha hc h=>by
  have:=congrArg UInt8.toNat h
  rw[UInt8.toNat_ofNat',UInt8.toNat_ofNat',Nat.mod_eq_of_lt (by omega),Nat.mod_eq_of_lt (by omega)] at this
  exact this
 have r:∀ u:SV,VOk n b u->isE u.2=true->0<=u.1/\u.1 < 8:=fun u hu he=>by
  rcases hu with ⟨_,h1,h2⟩ | ⟨_,h2⟩
  ·omega
  ·rw[isE_true he] at h2; simp at h2; omega
 unfold kyI at h
 cases hv':isE v.2<;>cases hw':isE w.2<;>rw[hv',hw'] at h<;>simp only[cond_true,cond_false] at h
 ·exact⟨rfl,fun x=>by cases x⟩
 ·have:=r w hw hw'
  have:=e (by decide) (by omega) h
  omega
 ·have:=r v hv hv'
  have:=e (by omega) (by decide) h
  omega
 ·have h1:=r v hv hv'
  have h2:=r w hw hw'
  have:=e (by omega) (by omega) h
  exact⟨rfl,fun _=>by omega⟩
theorem key_tr {n b:Nat} (hn:n<=8) (hb:1<=b) {H L:Nat} (u:DD (L+1)) {in_ jn:List SV} (hl:in_.length=H) (hl':jn.length=H) (hv:∀ v∈in_,VOk n b v) (hw:∀ v∈jn,VOk n b v) (h:keyI in_=keyI jn):∀ k,k<=H->fixI H in_ u k=fixI H jn u k
 | 0,_=>rfl
 | k+1,hk=>by
  have ih:=key_tr hn hb u hl hl' hv hw h k (by omega)
  have e1:in_[k]?=some (in_.getD k (0,[])):=by rw[List.getD_eq_getElem?_getD,List.getElem?_eq_getElem (by omega)]; rfl
  have e2:jn[k]?=some (jn.getD k (0,[])):=by rw[List.getD_eq_getElem?_getD,List.getElem?_eq_getElem (by omega)]; rfl
  have hk':=congrArg (·[k]?) h
  unfold keyI ofBytes at hk'
  rw[List.getElem?_map,List.getElem?_map,List.getElem?_map,List.getElem?_map,e1,e2] at hk'
  obtain⟨h1,h2⟩:=ky_inj hn hb (hv _ (List.mem_of_getElem? e1)) (hw _ (List.mem_of_getElem? e2)) (Option.some.inj hk')
  unfold fixI
  rw[<- h1,ih]
  cases he:isE (in_.getD k (0,[])).2 with
  | false=>rfl
  | true=>rw[h2 he]
def MOkT (n b:Nat) (S:Int) (Hd:List Point) {L:Nat} (u:DD (L+1)) (mp:List (List UInt8×Tree)):Prop :=
 ∀ k t,eb mp k=some t->∀ in_:List SV,in_.length=Hd.length->(∀ v∈in_,VOk n b v)->keyI in_=k->t=⟨S,Hd,trS Hd.length u in_⟩
section
variable {n b:Nat} {S:Int} {Hd:List Point} {L:Nat} {u:DD (L+1)}
theorem fixedP {v:Int} {cs:List (List Int)} {mp:List (List UInt8×Tree)} {in_:List SV} {bb:Int} (R:RD n S Hd L u) (hb:1<=b) (hM:MOkT n b S Hd u mp) (hl:in_.length=Hd.length) (hv:∀ v∈in_,VOk n b v) :
  ∃ mp',m_unroll_builder_fixed_o_o v cs S Hd (ser (post (L+1) u [])) bb mp (in_.map pv)=some (S,Hd,trS Hd.length u in_,mp')/\MOkT n b S Hd u mp':=by
 have h25:=R.tok.h25
 have n8:=R.tok.n8
 dsimp only at h25
 have hkey:bh (b_unroll_builder_fixed_o_o_1 v cs S Hd (ser (post (L+1) u [])) bb mp (in_.map pv)) bm (0,[])=some (in_.map kyI):=by
  have hg:=loop_gat (b:=b_unroll_builder_fixed_o_o_1 v cs S Hd (ser (post (L+1) u [])) bb mp (in_.map pv)) in_ (fun _ v=>[kyI v]) 1 1000 [] (fun _ _=>Nat.le_refl _) (by omega) (by simp; omega)
   (fun i w ac hw hac=>by
    have hi:=getE_lt hw
    have hok:=hv w (List.mem_of_getElem? hw)
    unfold b_unroll_builder_fixed_o_o_1
    dsimp only
    rw[show ltB (i:Int) (bf (in_.map pv))=true from decide_eq_true (by unfold bf; rw[List.length_map]; omega),cond_true,idx_nat,List.getElem?_map,hw,up_nat (by omega)]
    simp only[Option.map_some,some_bind]
    have hk:(bif bW (isE (pv w).vars) then some (255:Int) else some (gt .u8 (pv w).constant))=some (kyI w):=by
     unfold kyI bW pv
     dsimp only
     cases he:isE w.2 with
     | false=>rfl
     | true =>
      simp only[Bool.not_true,cond_true,cond_false]
      congr 1
      unfold gt
      exact IntWalk.u8_in _ (by
       rcases hok with ⟨_,h1,h2⟩ | ⟨_,h2⟩
       ·omega
       ·rw[isE_true he] at h2; simp at h2; omega)
    rw[hk]
    simp only[some_bind]
    rw[appL_ok (by decide) (by decide) (by simp; omega)]
    rfl)
   (fun ac=>by
    unfold b_unroll_builder_fixed_o_o_1
    dsimp only
    rw[show ltB (in_.length:Int) (bf (in_.map pv))=false from decide_eq_false (by unfold bf; rw[List.length_map]; omega)]
    rfl)
  rw[hg,List.nil_append,gat_map]
 have hloop:∀ q,bh (b_unroll_builder_fixed_o_o_2 v cs S Hd (ser (post (L+1) u [])) bb mp (in_.map pv) (in_.map kyI) q) bm (0,S,Hd,ser (post (L+1) u []))=some (S,Hd,trS Hd.length u in_):=fun q=>by
  obtain⟨r,hr,rfl⟩:=loop_iv (b:=b_unroll_builder_fixed_o_o_2 v cs S Hd (ser (post (L+1) u [])) bb mp (in_.map pv) (in_.map kyI) q) (n:=Hd.length) (s:=(0,S,Hd,ser (post (L+1) u []))) (fun k st=>st=((k:Int),S,Hd,ser (post (L+1) (fixI Hd.length in_ u k) []))) (fun r=>r=(S,Hd,trS Hd.length u in_)) (by omega) rfl
   (fun k st hk e=>by
    subst e
    have e1:in_[k]?=some (in_.getD k (0,[])):=by rw[List.getD_eq_getElem?_getD,List.getElem?_eq_getElem (by omega)]; rfl
    have hok:=hv _ (List.mem_of_getElem? e1)
    have rd:=fixI_rd R hl hv hb k (by omega)
    refine .inl ⟨_,?_,rfl⟩
    unfold b_unroll_builder_fixed_o_o_2
    dsimp only
    rw[show ltB (k:Int) (bf (in_.map pv))=true from decide_eq_true (by unfold bf; rw[List.length_map]; omega),cond_true,idx_nat,List.getElem?_map,e1,up_nat (by omega)]
    simp only[Option.map_some,some_bind]
    rw[fixI]
    generalize in_.getD k (0,[])=w at hok
    show (bif isE w.2 then _ else _:Option _).bind _=_
    cases he:isE w.2 with
    | false=>rfl
    | true =>
     simp only[cond_true]
     have hr:0<=w.1/\w.1 < n:=by
      rcases hok with ⟨_,h1,h2⟩ | ⟨_,h2⟩
      ·omega
      ·rw[isE_true he] at h2; simp at h2; omega
     have hfx:=(rd.fix (k:=k) (s:=w.1.toNat) hk (by omega)).2.1
     rw[Int.toNat_of_nonneg hr.1] at hfx
     show (Option.bind (m_reduce_Fix _ (k:Int) w.1) _).bind _=_
     rw[hfx]
     rfl)
   (fun st e=>by
    subst e
    refine⟨_,?_,rfl⟩
    unfold b_unroll_builder_fixed_o_o_2
    dsimp only
    rw[show ltB (Hd.length:Int) (bf (in_.map pv))=false from decide_eq_false (by unfold bf; rw[List.length_map]; omega)]
    rfl)
  exact hr
 unfold m_unroll_builder_fixed_o_o
 rw[hkey]
 simp only[some_bind]
 rw[show kckS (ofBytes (in_.map kyI))=some () from if_pos (by unfold ofBytes; rw[List.length_map,List.length_map]; unfold maxLen; omega)]
 simp only[some_bind]
 rw[show ofBytes (in_.map kyI)=keyI in_ from rfl]
 unfold eu
 cases hg:eb mp (keyI in_) with
 | some t =>
  have:=hM _ t hg in_ hl hv rfl
  subst this
  exact⟨mp,rfl,hM⟩
 | none =>
  simp only[Option.isSome_none,cond_false]
  rw[hloop]
  refine⟨_,rfl,fun k t hk jn hjl hjv hjk=>?_⟩
  rw[mget_mset] at hk
  by_cases he:keyI in_=k
  ·rw[if_pos he] at hk
   cases hk
   unfold trS
   rw[key_tr n8 hb u hl hjl hv hjv (he.trans hjk.symm) Hd.length (Nat.le_refl _)]
  ·rw[if_neg he] at hk
   exact hM k t hk jn hjl hjv hjk
end
end Go.Proofs.YtnkmjlncmlmnbaaGreatDoor
