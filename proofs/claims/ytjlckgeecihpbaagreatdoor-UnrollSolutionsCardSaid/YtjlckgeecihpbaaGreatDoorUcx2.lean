/- Plain laws: trees some of whose positions have states. -/
import Derived.Test.YtjlckgeecihpbaaGreatDoorUcx1
namespace Go.Proofs.YtjlckgeecihpbaaGreatDoor
open Go.AM Go.Proofs
def UniD (M:Nat):(L:Nat)->DD L->Prop
 | 0,_=>True
 | L+1,u=>(L+1=M->∀ d∈u.kids,∀ d'∈u.kids,d=d')/\∀ d∈u.kids,UniD M L d
theorem uni_dflt (M:Nat):∀ L,UniD M L (DD.dflt L)
 | 0=>trivial
 | L+1=>⟨fun _ d hd=>(by cases hd),fun d hd=>(by cases hd)⟩
theorem fixD_at {M s L:Nat} {u:DD (L+1)} (h:L+1=M):(k8 M s (L+1) u).kids=List.replicate u.kids.length ((u.kids.map (k8 M s L)).getD s (DD.dflt L)):=by
 unfold k8
 rw[if_pos h]
 rfl
theorem fixD_off {M s L:Nat} {u:DD (L+1)} (h:L+1≠M):(k8 M s (L+1) u).kids=u.kids.map (k8 M s L):=by
 unfold k8
 rw[if_neg h]
 rfl
theorem getD_cases {α:Type} (l:List α) (s:Nat) (d:α):l.getD s d=d \/ l.getD s d∈l:=by
 rw[List.getD_eq_getElem?_getD]
 cases h:l[s]? with
 | none=>exact .inl rfl
 | some x=>exact .inr (List.mem_of_getElem? h)
theorem fixD_uni (M s:Nat):∀ (L:Nat) (u:DD L),UniD M L (k8 M s L u)
 | 0,_=>trivial
 | L+1,u=>by
  by_cases h:L+1=M
  ·refine⟨fun _ d hd d' hd'=>?_,fun d hd=>?_⟩
   ·rw[fixD_at h] at hd hd'
    rw[List.eq_of_mem_replicate hd,List.eq_of_mem_replicate hd']
   ·rw[fixD_at h] at hd
    rw[List.eq_of_mem_replicate hd]
    rcases getD_cases (u.kids.map (k8 M s L)) s (DD.dflt L) with e | e
    ·rw[e]; exact uni_dflt M L
    ·obtain⟨k,_,e2⟩:=List.mem_map.1 e
     rw[<- e2]
     exact fixD_uni M s L k
  ·refine⟨fun e=>absurd e h,fun d hd=>?_⟩
   rw[fixD_off h] at hd
   obtain⟨k,_,e2⟩:=List.mem_map.1 hd
   rw[<- e2]
   exact fixD_uni M s L k
theorem uni_fix (M M' s:Nat):∀ (L:Nat) (u:DD L),UniD M L u->UniD M L (k8 M' s L u)
 | 0,_,_=>trivial
 | L+1,u,⟨h1,h2⟩=>by
  by_cases h:L+1=M'
  ·refine⟨fun _ d hd d' hd'=>?_,fun d hd=>?_⟩
   ·rw[fixD_at h] at hd hd'
    rw[List.eq_of_mem_replicate hd,List.eq_of_mem_replicate hd']
   ·rw[fixD_at h] at hd
    rw[List.eq_of_mem_replicate hd]
    rcases getD_cases (u.kids.map (k8 M' s L)) s (DD.dflt L) with e | e
    ·rw[e]; exact uni_dflt M L
    ·obtain⟨k,hk,e2⟩:=List.mem_map.1 e
     rw[<- e2]
     exact uni_fix M M' s L k (h2 k hk)
  ·refine⟨fun e d hd d' hd'=>?_,fun d hd=>?_⟩
   ·rw[fixD_off h] at hd hd'
    obtain⟨k,hk,e2⟩:=List.mem_map.1 hd
    obtain⟨k',hk',e2'⟩:=List.mem_map.1 hd'
    rw[<- e2,<- e2',h1 e k hk k' hk']
   ·rw[fixD_off h] at hd
    obtain⟨k,hk,e2⟩:=List.mem_map.1 hd
    rw[<- e2]
    exact uni_fix M M' s L k (h2 k hk)
theorem post_uni (M:Nat):∀ (L:Nat) (u:DD L) (s:List ND),UniD M L u->(∀ x∈s,UniD M (x.1+1) x.2)->∀ x∈post L u s,UniD M (x.1+1) x.2
 | 0,_,_,_,hs=>hs
 | L+1,u,s,hu,hs=>by
  unfold post
  split
  ·exact hs
  ·intro x hx
   rcases List.mem_append.1 hx with hx | hx
   ·have:∀ (l:List (DD L)) (s:List ND),(∀ d∈l,UniD M L d)->(∀ x∈s,UniD M (x.1+1) x.2)->∀ x∈l.foldl (fun s d=>post L d s) s,UniD M (x.1+1) x.2:=by
     intro l
     induction l with
     | nil=>intro s _ hs; exact hs
     | cons d l ih =>
      intro s hl hs
      exact ih _ (fun e he=>hl e (by simp[he])) (post_uni M L d s (hl d (by simp)) hs)
    exact this u.kids s hu.2 hs x hx
   ·rw[List.mem_singleton.1 hx]
    exact hu
theorem serNode_uni {us:List ND} {w:ND} (h:∀ d∈w.2.kids,∀ d'∈w.2.kids,d=d'):uniB (fK us w)=true:=by
 obtain⟨L,u⟩:=w
 have key:∀ l:List Int,(∀ a∈l,∀ c∈l,a=c)->l.all (fun k=>eqB k (l.getD 0 0))=true:=fun l hl=>by
  rw[List.all_eq_true]
  intro k hk
  rcases getD_cases l 0 0 with e | e
  ·cases l with
   | nil=>cases hk
   | cons a l =>
    have:(a::l).getD 0 0=a:=rfl
    rw[this,hl k hk a (by simp)]
    exact eqB_self a
  ·rw[hl k hk _ e]
   exact eqB_self _
 cases L with
 | zero=>exact key u.kids h
 | succ L =>
  refine key _ fun a ha c hc=>?_
  obtain⟨d,hd,rfl⟩:=List.mem_map.1 ha
  obtain⟨d',hd',rfl⟩:=List.mem_map.1 hc
  rw[h d hd d' hd']
theorem serNode_lev (us:List ND) (x:ND):(fK us x).Level=(x.1:Int)+1:=by
 obtain⟨K,w⟩:=x
 cases K with
 | zero=>rfl
 | succ K=>show (K:Int)+2=((K+1:Nat):Int)+1; omega
theorem ser_uni {M L:Nat} {u:DD (L+1)} (h:UniD M (L+1) u) {x:Node} (hx:x∈ser (post (L+1) u [])) (hM:x.Level=(M:Int)):uniB x=true:=by
 unfold ser at hx
 obtain⟨w,hw,rfl⟩:=List.mem_map.1 hx
 have:=post_uni M (L+1) u [] h (fun y hy=>by cases hy) w hw
 rw[serNode_lev] at hM
 exact serNode_uni (this.1 (by omega))
structure RD (n:Nat) (S:Int) (Hd:List Point) (L:Nat) (u:DD (L+1)):Prop where
 hL:L+1=Hd.length
 hd:iB Hd=true
 tok:TOk n ⟨S,Hd,ser (post (L+1) u [])⟩
 rep:∃ j,j+1=(ser (post (L+1) u [])).length/\Rep (ser (post (L+1) u [])) (L+1) (j:Nat) u
theorem RD.fix {n:Nat} {S:Int} {Hd:List Point} {L:Nat} {u:DD (L+1)} (R:RD n S Hd L u) {k s:Nat} (hk:k < Hd.length) (hs:s < n) :
  RD n S Hd L (k8 (Hd.length - k) s (L+1) u)/\iK ⟨S,Hd,ser (post (L+1) u [])⟩ (k:Int) (s:Int)=some (⟨S,Hd,ser (post (L+1) (k8 (Hd.length - k) s (L+1) u) [])⟩,0):=by
 obtain⟨j,hj,hr⟩:=R.rep
 have hok:=tok_ok R.tok R.hd
 have hf:=fix_P hok R.tok hj R.hL hr hk hs
 have hc:=R.tok.chg (M:=Hd.length - k) hs
 have hr1:=rep_fix (M:=Hd.length - k) (s:=s) (fun i x hx=>by rw[R.tok.good.len i x hx]; exact hs) hr
 have hz:=hc.red R.hL hr1
 exact⟨⟨R.hL,R.hd,hz.1,hz.2⟩,hf⟩
theorem rd_of {t:Tree} (hok:gF t=true):∃ n b L,∃ u:DD (L+1),RT n b t (ser (post (L+1) u []))/\RD n t.States t.Hood L u:=by
 obtain⟨n,h⟩:=ok_tree hok
 obtain⟨b,B⟩:=sb_of h.n2 h.n8
 obtain⟨L,i,u,hi,hL,hr,_⟩:=h.rep
 have h1:=reduce_P hok h hi hL hr
 obtain⟨h3,h4⟩:=h.red hL hr
 exact⟨n,b,L,u,⟨B,h.st,hok,h,h3,h1⟩,hL,tok_hood hok,h3,h4⟩
def fixI (H:Nat) (in_:List SV) {L:Nat} (u:DD (L+1)):Nat->DD (L+1)
 | 0=>u
 | k+1=>bif isE (in_.getD k (0,[])).2 then k8 (H - k) (in_.getD k (0,[])).1.toNat (L+1) (fixI H in_ u k) else fixI H in_ u k
def trS (H:Nat) {L:Nat} (u:DD (L+1)) (in_:List SV):List Node:=ser (post (L+1) (fixI H in_ u H) [])
theorem fixI_rd {n b:Nat} {S:Int} {Hd:List Point} {L:Nat} {u:DD (L+1)} (R:RD n S Hd L u) {in_:List SV} (hl:in_.length=Hd.length) (hv:∀ v∈in_,VOk n b v) (hb:1<=b):∀ k,k<=Hd.length->RD n S Hd L (fixI Hd.length in_ u k)
 | 0,_=>R
 | k+1,hk=>by
  have ih:=fixI_rd R hl hv hb k (by omega)
  unfold fixI
  have hm:=hv (in_.getD k (0,[])) (by
   rw[List.getD_eq_getElem?_getD,List.getElem?_eq_getElem (by omega)]
   exact List.getElem_mem _)
  cases he:isE (in_.getD k (0,[])).2 with
  | false=>exact ih
  | true =>
   rw[cond_true]
   refine (ih.fix (by omega) ?_).1
   rcases hm with ⟨_,h1,h2⟩ | ⟨_,h2⟩
   ·omega
   ·rw[mh he] at h2; simp at h2; omega
theorem fixI_uni (H:Nat) (in_:List SV) {L:Nat} (u:DD (L+1)) {k:Nat} (he:isE (in_.getD k (0,[])).2=true):∀ m,k < m->UniD (H - k) (L+1) (fixI H in_ u m)
 | 0,h=>by omega
 | m+1,h=>by
  unfold fixI
  rcases Nat.lt_succ_iff_lt_or_eq.1 h with h | rfl
  ·have ih:=fixI_uni H in_ u he m h
   cases isE (in_.getD m (0,[])).2 with
   | false=>exact ih
   | true=>exact uni_fix _ _ _ _ _ ih
  ·rw[he,cond_true]
   exact fixD_uni _ _ _ _
theorem wt_fix {n b:Nat} {S:Int} {Hd:List Point} {L:Nat} {u:DD (L+1)} (R:RD n S Hd L u) (B:SB n b) {in_:List SV} (hl:in_.length=Hd.length) (hv:∀ v∈in_,VOk n b v):WT n b Hd.length in_ (trS Hd.length u in_):=by
 have h:=(fixI_rd R hl hv B.b1 Hd.length (Nat.le_refl _)).tok
 obtain⟨i,x,e1,e2,_⟩:=h.root
 refine⟨B.n2,B.n8,B.b1,B.b3,h.h25,h.nodes,by unfold trS; dsimp only at e1; omega,h.good,h.lev,hl,hv,fun x hx hu e=>?_⟩
 obtain⟨j,hj⟩:=List.mem_iff_getElem?.1 hx
 have h1:=h.good.lev j x hj
 have h2:=h.lev x hx
 dsimp only at h2
 unfold rdS at e
 have:=ser_uni (M:=Hd.length - (Hd.length - x.Level.toNat)) (fixI_uni Hd.length in_ u (k:=Hd.length - x.Level.toNat) (by rw[e]; rfl) Hd.length (by omega)) hx (by omega)
 rw[this] at hu
 cases hu
end Go.Proofs.YtjlckgeecihpbaaGreatDoor
namespace Go.Proofs.YtjlckgeecihpbaaGreatDoor
open Go.AM Go.Proofs
def kyI (v:SV):Int:=bif isE v.2 then v.1 else 255
def keyI (in_:List SV):List UInt8:=ofBytes (in_.map kyI)
theorem ky_inj {n b:Nat} {v w:SV} (hn:n<=8) (hb:1<=b) (hv:VOk n b v) (hw:VOk n b w) (h:UInt8.ofNat (kyI v).toNat=UInt8.ofNat (kyI w).toNat):isE v.2=isE w.2/\(isE v.2=true->v.1=w.1):=by
 have e:∀ {a c:Nat},a < 256->c < 256->UInt8.ofNat a=UInt8.ofNat c->a=c:=fun ha hc h=>by
  have:=congrArg UInt8.toNat h
  rw[UInt8.toNat_ofNat',UInt8.toNat_ofNat',Nat.mod_eq_of_lt (by omega),Nat.mod_eq_of_lt (by omega)] at this
  exact this
 have r:∀ u:SV,VOk n b u->isE u.2=true->0<=u.1/\u.1 < 8:=fun u hu he=>by
  rcases hu with ⟨_,h1,h2⟩ | ⟨_,h2⟩
  ·omega
  ·rw[mh he] at h2; simp at h2; omega
 unfold kyI at h
 cases hv':isE v.2<;>cases hw':isE w.2<;>rw[hv',hw'] at h<;>simp only[cond_true,cond_false] at h
 ·exact⟨rfl,fun x=>by cases x⟩
 ·have:=r w hw hw'
  have:=e (by decide) (by omega) h
  omega
 ·have:=r v hv hv'
  have:=e (by omega) (by decide) h
  omega
 ·have h1:=r v hv hv'
  have h2:=r w hw hw'
  have:=e (by omega) (by omega) h
  exact⟨rfl,fun _=>by omega⟩
theorem key_tr {n b:Nat} (hn:n<=8) (hb:1<=b) {H L:Nat} (u:DD (L+1)) {in_ jn:List SV} (hl:in_.length=H) (hl':jn.length=H) (hv:∀ v∈in_,VOk n b v) (hw:∀ v∈jn,VOk n b v) (h:keyI in_=keyI jn):∀ k,k<=H->fixI H in_ u k=fixI H jn u k
 | 0,_=>rfl
 | k+1,hk=>by
  have ih:=key_tr hn hb u hl hl' hv hw h k (by omega)
  have e1:in_[k]?=some (in_.getD k (0,[])):=by rw[List.getD_eq_getElem?_getD,List.getElem?_eq_getElem (by omega)]; rfl
  have e2:jn[k]?=some (jn.getD k (0,[])):=by rw[List.getD_eq_getElem?_getD,List.getElem?_eq_getElem (by omega)]; rfl
  have hk':=congrArg (·[k]?) h
  unfold keyI ofBytes at hk'
  rw[List.getElem?_map,List.getElem?_map,List.getElem?_map,List.getElem?_map,e1,e2] at hk'
  obtain⟨h1,h2⟩:=ky_inj hn hb (hv _ (List.mem_of_getElem? e1)) (hw _ (List.mem_of_getElem? e2)) (Option.some.inj hk')
  unfold fixI
  rw[<- h1,ih]
  cases he:isE (in_.getD k (0,[])).2 with
  | false=>rfl
  | true=>rw[h2 he]
def MOkT (n b:Nat) (S:Int) (Hd:List Point) {L:Nat} (u:DD (L+1)) (mp:List (List UInt8×Tree)):Prop :=
 ∀ k t,kX mp k=some t->∀ in_:List SV,in_.length=Hd.length->(∀ v∈in_,VOk n b v)->keyI in_=k->t=⟨S,Hd,trS Hd.length u in_⟩
section
variable {n b:Nat} {S:Int} {Hd:List Point} {L:Nat} {u:DD (L+1)}
theorem fixedP {v:Int} {cs:List (List Int)} {mp:List (List UInt8×Tree)} {in_:List SV} {bb:Int} (R:RD n S Hd L u) (hb:1<=b) (hM:MOkT n b S Hd u mp) (hl:in_.length=Hd.length) (hv:∀ v∈in_,VOk n b v) :
  ∃ mp',cT v cs S Hd (ser (post (L+1) u [])) bb mp (in_.map pv)=some (S,Hd,trS Hd.length u in_,mp')/\MOkT n b S Hd u mp':=by
 have h25:=R.tok.h25
 have n8:=R.tok.n8
 dsimp only at h25
 have hkey:ba (co v cs S Hd (ser (post (L+1) u [])) bb mp (in_.map pv)) bp (0,[])=some (in_.map kyI):=by
  have hg:=nt (b:=co v cs S Hd (ser (post (L+1) u [])) bb mp (in_.map pv)) in_ (fun _ v=>[kyI v]) 1 1000 [] (fun _ _=>Nat.le_refl _) (by omega) (by simp; omega)
   (fun i w ac hw hac=>by
    have hi:=bq hw
    have hok:=hv w (List.mem_of_getElem? hw)
    unfold co
    dsimp only
    rw[show ltB (i:Int) (b8 (in_.map pv))=true from decide_eq_true (by unfold b8; rw[List.length_map]; omega),cond_true,bl,List.getElem?_map,hw,bJ (by omega)]
    simp only[Option.map_some,aX]
    have hk:(bif cy (isE (pv w).vars) then some (255:Int) else some (iconv .u8 (pv w).constant))=some (kyI w):=by
     unfold kyI cy pv
     dsimp only
     cases he:isE w.2 with
     | false=>rfl
     | true =>
      simp only[Bool.not_true,cond_true,cond_false]
      congr 1
      unfold iconv
      exact IntWalk.u8_in _ (by
       rcases hok with ⟨_,h1,h2⟩ | ⟨_,h2⟩
       ·omega
       ·rw[mh he] at h2; simp at h2; omega)
    rw[hk]
    simp only[aX]
    rw[jL (by decide) (by decide) (by simp; omega)]
    rfl)
   (fun ac=>by
    unfold co
    dsimp only
    rw[show ltB (in_.length:Int) (b8 (in_.map pv))=false from decide_eq_false (by unfold b8; rw[List.length_map]; omega)]
    rfl)
  rw[hg,List.nil_append,gat_map]
 have hloop:∀ q,ba (cm v cs S Hd (ser (post (L+1) u [])) bb mp (in_.map pv) (in_.map kyI) q) bp (0,S,Hd,ser (post (L+1) u []))=some (S,Hd,trS Hd.length u in_):=fun q=>by
  obtain⟨r,hr,rfl⟩:=bX (b:=cm v cs S Hd (ser (post (L+1) u [])) bb mp (in_.map pv) (in_.map kyI) q) (n:=Hd.length) (s:=(0,S,Hd,ser (post (L+1) u []))) (fun k st=>st=((k:Int),S,Hd,ser (post (L+1) (fixI Hd.length in_ u k) []))) (fun r=>r=(S,Hd,trS Hd.length u in_)) (by omega) rfl
   (fun k st hk e=>by
    subst e
    have e1:in_[k]?=some (in_.getD k (0,[])):=by rw[List.getD_eq_getElem?_getD,List.getElem?_eq_getElem (by omega)]; rfl
    have hok:=hv _ (List.mem_of_getElem? e1)
    have rd:=fixI_rd R hl hv hb k (by omega)
    refine .inl ⟨_,?_,rfl⟩
    unfold cm
    dsimp only
    rw[show ltB (k:Int) (b8 (in_.map pv))=true from decide_eq_true (by unfold b8; rw[List.length_map]; omega),cond_true,bl,List.getElem?_map,e1,bJ (by omega)]
    simp only[Option.map_some,aX]
    rw[fixI]
    generalize in_.getD k (0,[])=w at hok
    show (bif isE w.2 then _ else _:Option _).bind _=_
    cases he:isE w.2 with
    | false=>rfl
    | true =>
     simp only[cond_true]
     have hr:0<=w.1/\w.1 < n:=by
      rcases hok with ⟨_,h1,h2⟩ | ⟨_,h2⟩
      ·omega
      ·rw[mh he] at h2; simp at h2; omega
     have hfx:=(rd.fix (k:=k) (s:=w.1.toNat) hk (by omega)).2
     rw[Int.toNat_of_nonneg hr.1] at hfx
     show (Option.bind (iK _ (k:Int) w.1) _).bind _=_
     rw[hfx]
     rfl)
   (fun st e=>by
    subst e
    refine⟨_,?_,rfl⟩
    unfold cm
    dsimp only
    rw[show ltB (Hd.length:Int) (b8 (in_.map pv))=false from decide_eq_false (by unfold b8; rw[List.length_map]; omega)]
    rfl)
  exact hr
 unfold cT
 rw[hkey]
 simp only[aX]
 rw[show kckS (ofBytes (in_.map kyI))=some () from if_pos (by unfold ofBytes; rw[List.length_map,List.length_map]; unfold maxLen; omega)]
 simp only[aX]
 rw[show ofBytes (in_.map kyI)=keyI in_ from rfl]
 unfold lP
 cases hg:kX mp (keyI in_) with
 | some t =>
  have:=hM _ t hg in_ hl hv rfl
  subst this
  exact⟨mp,rfl,hM⟩
 | none =>
  simp only[Option.isSome_none,cond_false]
  rw[hloop]
  refine⟨_,rfl,fun k t hk jn hjl hjv hjk=>?_⟩
  rw[mget_mset] at hk
  by_cases he:keyI in_=k
  ·rw[if_pos he] at hk
   cases hk
   unfold trS
   rw[key_tr n8 hb u hl hjl hv hjv (he.trans hjk.symm) Hd.length (Nat.le_refl _)]
  ·rw[if_neg he] at hk
   exact hM k t hk jn hjl hjv hjk
end
end Go.Proofs.YtjlckgeecihpbaaGreatDoor
namespace Go.Proofs.YtjlckgeecihpbaaGreatDoor
open Go.AM Go.Proofs
section
variable {n b:Nat} {t:Tree} {L:Nat} {u:DD (L+1)}
end
end Go.Proofs.YtjlckgeecihpbaaGreatDoor
namespace Go.Proofs.YtjlckgeecihpbaaGreatDoor
open Go.AM Go.Proofs
def wiB (s W H x y:Nat):Bool:=match fe s ⟨0,0,W,H⟩ ⟨x,y⟩,gR s ⟨0,0,W,H⟩ ⟨x,y⟩ with
 | some p,some q=>eqB p.X q.X && (eqB p.Y q.Y && (leB 0 q.X && (ltB q.X W && (leB 0 q.Y && ltB q.Y H))))
 | _,_=>false
def rowW (s W H:Nat):Bool:=(List.range W).all fun x=>(List.range H).all fun y=>wiB s W H x y
def sizesW:List (Nat×Nat):=(List.range 17).flatMap fun W=>(List.range 17).filterMap fun H=>if 1<=W/\1<=H/\W*H<=16 then some (W,H) else none
def chkW (s:Nat):Bool:=sizesW.all fun p=>if s % 2=1/\p.1≠p.2 then true else rowW s p.1 p.2
theorem chkW0:chkW 0=true:=by kernel_rfl
theorem chkW1:chkW 1=true:=by kernel_rfl
theorem chkW2:chkW 2=true:=by kernel_rfl
theorem chkW3:chkW 3=true:=by kernel_rfl
theorem chkW4:chkW 4=true:=by kernel_rfl
theorem chkW5:chkW 5=true:=by kernel_rfl
theorem chkW6:chkW 6=true:=by kernel_rfl
theorem chkW7:chkW 7=true:=by kernel_rfl
theorem chkW_all:∀ s,s < 8->chkW s=true
 | 0,_=>chkW0
 | 1,_=>chkW1
 | 2,_=>chkW2
 | 3,_=>chkW3
 | 4,_=>chkW4
 | 5,_=>chkW5
 | 6,_=>chkW6
 | 7,_=>chkW7
 | _+8,h=>by omega
theorem within_eq {s W H x y:Nat} (hs:s < 8) (hW:1<=W) (hH:1<=H) (hWH:W*H<=16) (ho:s % 2=1->W=H) (hx:x < W) (hy:y < H) :
  ∃ q:Point,fe (s:Int) ⟨0,0,W,H⟩ ⟨x,y⟩=some q/\gR (s:Int) ⟨0,0,W,H⟩ ⟨x,y⟩=some q/\0<=q.X/\q.X < W/\0<=q.Y/\q.Y < H:=by
 have hWl:W<=16:=by have:=Nat.mul_le_mul_left W hH; omega
 have hHl:H<=16:=by have:=Nat.mul_le_mul_right H hW; omega
 have hm:(W,H)∈sizesW:=by
  unfold sizesW
  rw[List.mem_flatMap]
  refine⟨W,List.mem_range.2 (by omega),?_⟩
  rw[List.mem_filterMap]
  exact⟨H,List.mem_range.2 (by omega),if_pos ⟨hW,hH,hWH⟩⟩
 have h1:=List.all_eq_true.1 (chkW_all s hs) (W,H) hm
 dsimp only at h1
 rw[if_neg (by intro h; exact h.2 (ho h.1))] at h1
 have h2:=List.all_eq_true.1 h1 x (List.mem_range.2 hx)
 have h3:=List.all_eq_true.1 h2 y (List.mem_range.2 hy)
 unfold wiB at h3
 split at h3
 ·rename_i p q e1 e2
  simp only[Bool.and_eq_true] at h3
  obtain⟨g1,g2,g3,g4,g5,g6⟩:=h3
  have f1:p.X=q.X:=by simpa [eqB] using g1
  have f2:p.Y=q.Y:=by simpa [eqB] using g2
  have f3:=of_decide_eq_true g3
  have f4:=of_decide_eq_true g4
  have f5:=of_decide_eq_true g5
  have f6:=of_decide_eq_true g6
  have hpq:p=q:=by
   cases p
   cases q
   dsimp only at f1 f2
   rw[f1,f2]
  exact⟨q,by rw[e1,hpq],e2,f3,f4,f5,f6⟩
 ·cases h3
end Go.Proofs.YtjlckgeecihpbaaGreatDoor
namespace Go.Proofs.YtjlckgeecihpbaaGreatDoor
open Go.AM Go.Proofs
structure PK (n b w h r G:Nat) (t:Tree) (x:Bg) {L:Nat} (u:DD (L+1)):Prop where
 R:RT n b t (ser (post (L+1) u []))
 D:RD n t.States t.Hood L u
 W:x.W=(w:Int)
 H:x.H=(h:Int)
 w1:1<=w
 h1:1<=h
 wh:w*h<=16
 gens:x.Gens=(G:Int)
 g1:1<=G
 g6:G<=6
 dx:-24<=x.DX/\x.DX<=24
 dy:-24<=x.DY/\x.DY<=24
 syms:∀ s∈x.Syms,∃ k:Nat,s=(k:Int)/\k < 8/\(k % 2=1->w=h)
 slen:x.Syms.length<=20
 r2:r<=2
 hr:fQ t.Hood=some (r:Int)
 pts:∀ d∈t.Hood,-(r:Int)<=d.X/\d.X<=r/\-(r:Int)<=d.Y/\d.Y<=r
theorem PK.w16 {n b w h r G:Nat} {t:Tree} {x:Bg} {L:Nat} {u:DD (L+1)} (K:PK n b w h r G t x u):w<=16/\h<=16:=by
 have h1:=Nat.mul_le_mul_left w K.h1
 have h2:=Nat.mul_le_mul_right h K.w1
 have:=K.wh
 omega
theorem pk_of {t:Tree} {x:Bg} (hx:x.Syms.length<=20) (hc:PC.chkE t x=0):∃ n b w h r G L,∃ u:DD (L+1),PK n b w h r G t x u:=by
 unfold PC.chkE at hc
 cases hq:eV t with
 | false=>rw[hq] at hc; simp at hc
 | true =>
  rw[hq,cond_true] at hc
  have ht:gF t=true:=by
   unfold eV at hq
   simp only[Bool.and_eq_true] at hq
   exact hq.1
  obtain⟨n,b,L,u,R,D⟩:=rd_of ht
  obtain⟨r,hr,r2,pts⟩:=rad_of (tok_hood ht)
  unfold PC.probE at hc
  cases h1:ltB x.W 1 || ltB x.H 1 with
  | true=>rw[h1] at hc; simp at hc
  | false =>
   rw[h1] at hc
   cases h2:gtB x.W 16 || (gtB x.H 16 || gtB (ck .i64 x.W x.H) 16) with
   | true=>rw[h2] at hc; simp at hc
   | false =>
    rw[h2] at hc
    cases h3:ltB x.Gens 1 || (gtB x.Gens 6 || (ltB x.DX (-24) || (gtB x.DX 24 || (ltB x.DY (-24) || (gtB x.DY 24 || fR (PC.badS x) x.Syms 0))))) with
    | true=>rw[h3] at hc; simp at hc
    | false =>
     simp only[Bool.or_eq_false_iff] at h1 h2 h3
     obtain⟨g1,g2,g3,g4,g5,g6,g7⟩:=h3
     have a1:=of_decide_eq_false h1.1
     have a2:=of_decide_eq_false h1.2
     have a3:=of_decide_eq_false h2.1
     have a4:=of_decide_eq_false h2.2.1
     have a5:=of_decide_eq_false h2.2.2
     have b1:=of_decide_eq_false g1
     have b2:=of_decide_eq_false g2
     have b3:=of_decide_eq_false g3
     have b4:=of_decide_eq_false g4
     have b5:=of_decide_eq_false g5
     have b6:=of_decide_eq_false g6
     have hm:x.W*x.H<=16*16:=Int.mul_le_mul (by omega) (by omega) (by omega) (by omega)
     have hm0:0<=x.W*x.H:=Int.mul_nonneg (by omega) (by omega)
     rw[jm (by omega)] at a5
     have hwh:((x.W.toNat*x.H.toNat:Nat):Int)=x.W*x.H:=by rw[Int.natCast_mul,Int.toNat_of_nonneg (by omega),Int.toNat_of_nonneg (by omega)]
     refine⟨n,b,x.W.toNat,x.H.toNat,r,x.Gens.toNat,L,u,R,D,by omega,by omega,by omega,by omega,by omega,by omega,by omega,by omega,by omega,by omega,fun s hs=>?_,hx,r2,hr,pts⟩
     obtain⟨i,hi⟩:=List.mem_iff_getElem?.1 hs
     have:=fm g7 i s hi
     rw[Nat.zero_add] at this
     unfold PC.badS at this
     simp only[Bool.or_eq_false_iff,Bool.and_eq_false_imp] at this
     obtain⟨c1,c2,_,c4⟩:=this
     have d1:=of_decide_eq_false c1
     have d2:=of_decide_eq_false c2
     refine⟨s.toNat,by omega,by omega,fun ho=>?_⟩
     have hod:PC.oddB s=true:=by
      unfold PC.oddB
      have:s.tmod 2=((s.toNat % 2:Nat):Int):=by
       rw[show s=((s.toNat:Nat):Int) by omega]
       rfl
      rw[this,ho]
      rfl
     have:=c4 hod
     have:x.W=x.H:=by simpa [neB] using this
     omega
def wqS (w h:Nat) (s:Int) (i:Nat):Point:=(gR s ⟨0,0,w,h⟩ ⟨(i % w:Nat),(i / w:Nat)⟩).getD ⟨0,0⟩
def sy1 (b w h:Nat) (s:Int) (i:Nat) (v:SV):List (List Int):=md v.2 (atS 0 0 w h (bw b (w*h)) (wqS w h s i).X (wqS w h s i).Y).2
def symS (b w h:Nat) (s:Int):List (List Int):=gat (sy1 b w h s) (bw b (w*h)) 0
def gX (r g:Nat):Int:=-((g*r:Nat):Int)
def gW (w r g:Nat):Nat:=w+2*(g*r)
def iZ (n b w h r:Nat) (t:Tree) (x:Bg) {L:Nat} (u:DD (L+1)):Nat->FS
 | 0=>(((w*h:Nat):Int)*b,kv n b (w*h)++gat (fun _ s=>symS b w h s) x.Syms 0,bw b (w*h))
 | g+1 =>
  let F:=iZ n b w h r t x u g
  fD b t.Hood.length (inS (gX r g) (gX r g) (gW w r g) (gW h r g) F.2.2 t.Hood) (trS t.Hood.length u) (gX r (g+1)) (gX r (g+1)) (gW w r (g+1)) (F.1,F.2.1,[]) (gW w r (g+1)*gW h r (g+1))
def eA (b w h r G:Nat) (x:Bg) (i:Nat) (v:SV):List (List Int) :=
 let px:=gX r G+(i % gW w r G:Nat) - x.DX
 let py:=gX r G+(i / gW w r G:Nat) - x.DY
 bif isE v.2 then (bif inB 0 0 w h px py then fixS (atS 0 0 w h (bw b (w*h)) px py).2 0 else [])
 else bif inB 0 0 w h px py then md v.2 (atS 0 0 w h (bw b (w*h)) px py).2 else fixS v.2 0
def eB (w h r G:Nat) (x:Bg) (i:Nat) (v:SV):List (List Int):=bif inB (gX r G) (gX r G) (gW w r G) (gW h r G) ((i % w:Nat)+x.DX) ((i / w:Nat)+x.DY) then [] else fixS v.2 0
def pq (n b w h r G:Nat) (t:Tree) (x:Bg) {L:Nat} (u:DD (L+1)):Int×List (List Int) :=
 let F:=iZ n b w h r t x u G
 (F.1,(F.2.1++gat (eA b w h r G x) F.2.2 0)++gat (eB w h r G x) (bw b (w*h)) 0)
section
variable {n b w h r G:Nat} {t:Tree} {x:Bg} {L:Nat} {u:DD (L+1)}
theorem gX_succ (r g:Nat):gX r (g+1)=gX r g - r:=by
 unfold gX
 rw[Nat.add_mul,Nat.one_mul]
 omega
theorem gW_succ (w r g:Nat):gW w r (g+1)=gW w r g+2*r:=by
 unfold gW
 rw[Nat.add_mul,Nat.one_mul]
 omega
theorem PK.bx (K:PK n b w h r G t x u) {g:Nat} (hg:g<=6):BX (gX r g) (gX r g) (gW w r g) (gW h r g)/\g*r<=12/\1<=gW w r g/\1<=gW h r g/\gW w r g<=40/\gW h r g<=40:=by
 obtain⟨h1,h2⟩:=K.w16
 have h3:=K.r2
 have h4:=K.w1
 have h5:=K.h1
 have:g*r<=6*2:=Nat.mul_le_mul hg h3
 unfold gX gW
 exact⟨⟨by omega,by omega,by omega,by omega,by omega,by omega⟩,by omega,by omega,by omega,by omega,by omega⟩
theorem PK.m48 (K:PK n b w h r G t x u):0<=((w*h:Nat):Int)*b/\((w*h:Nat):Int)*b<=48/\(kv n b (w*h)).length<=128:=by
 have h1:=K.wh
 have h3:=K.R.sb.b3
 have:w*h*b<=16*3:=Nat.mul_le_mul h1 h3
 have e:((w*h*b:Nat):Int)=((w*h:Nat):Int)*b:=Int.natCast_mul _ _
 have:=cellsC_len (n:=n) h3 (w*h)
 omega
theorem p5 (_hx:1<=b) {w h:Nat} {px py:Int} (hin:inB 0 0 w h px py=true):(atS 0 0 w h (bw b (w*h)) px py).2.length=b:=by
 unfold atS
 rw[hin,cond_true]
 obtain⟨c1,c2,c3,c4⟩:=gy.1 hin
 have hlt:(py - 0).toNat*w+(px - 0).toNat < w*h:=pI (by omega) (by omega)
 rw[List.getD_eq_getElem?_getD,List.getElem?_eq_getElem (by rw[bW]; exact hlt)]
 exact (im (n:=2) _ (List.getElem_mem _)).2
theorem sy1_len (_hb:b<=3) (s:Int) (i:Nat) (v:SV) (hv:v.2.length<=3):(sy1 b w h s i v).length<=6:=by
 have:=sameS_len v.2 (atS 0 0 w h (bw b (w*h)) (wqS w h s i).X (wqS w h s i).Y).2
 unfold sy1
 omega
theorem gat_len' {α β:Type} {f:Nat->α->List β} {m:Nat}:∀ (l:List α) (i:Nat),(∀ i x,x∈l->(f i x).length<=m)->(gat f l i).length<=m*l.length
 | [],_,_=>by simp[gat]
 | x::l,i,hf=>by
  rw[gat,List.length_append,List.length_cons,Nat.mul_add,Nat.mul_one]
  have:=gat_len' l (i+1) (fun j y hy=>hf j y (by simp[hy]))
  have:=hf i x (by simp)
  omega
theorem sym_len (hb:b<=3) (hwh:w*h<=16) (s:Int):(symS b w h s).length<=96:=by
 have:=gat_len' (f:=sy1 b w h s) (m:=6) (bw b (w*h)) 0 (fun i v hv=>sy1_len hb s i v (by have:=(im (n:=2) v hv).2; omega))
 rw[bW] at this
 unfold symS
 omega
theorem gen_mono (g:Nat):(iZ n b w h r t x u g).1<=(iZ n b w h r t x u (g+1)).1/\(iZ n b w h r t x u g).2.1.length<=(iZ n b w h r t x u (g+1)).2.1.length:=by
 have:=nl b t.Hood.length (inS (gX r g) (gX r g) (gW w r g) (gW h r g) (iZ n b w h r t x u g).2.2 t.Hood) (trS t.Hood.length u) (gX r (g+1)) (gX r (g+1)) (gW w r (g+1)) ((iZ n b w h r t x u g).1,(iZ n b w h r t x u g).2.1,[]) 0 (gW w r (g+1)*gW h r (g+1))
 rw[Nat.zero_add] at this
 exact this
theorem gen_mono' (g:Nat):∀ k,(iZ n b w h r t x u g).1<=(iZ n b w h r t x u (g+k)).1/\(iZ n b w h r t x u g).2.1.length<=(iZ n b w h r t x u (g+k)).2.1.length
 | 0=>⟨Int.le_refl _,Nat.le_refl _⟩
 | k+1=>by
  have h1:=gen_mono' g k
  have h2:=gen_mono (n:=n) (b:=b) (w:=w) (h:=h) (r:=r) (t:=t) (x:=x) (u:=u) (g+k)
  rw[<- Nat.add_assoc]
  omega
theorem gen_unfit {g:Nat} (hg:g<=G) (hu:jz (iZ n b w h r t x u g).1 (iZ n b w h r t x u g).2.1=false):jz (pq n b w h r G t x u).1 (pq n b w h r G t x u).2=false:=by
 have:=gen_mono' (n:=n) (b:=b) (w:=w) (h:=h) (r:=r) (t:=t) (x:=x) (u:=u) g (G - g)
 rw[show g+(G - g)=G by omega] at this
 cases hf:jz (pq n b w h r G t x u).1 (pq n b w h r G t x u).2 with
 | false=>rfl
 | true =>
  unfold pq at hf
  dsimp only at hf
  rw[fit_of_le this.1 (by rw[List.length_append,List.length_append]; omega) hf] at hu
  cases hu
theorem ins_wt (K:PK n b w h r G t x u) {X Y:Int} {W H:Nat} {vals:List SV} (hl:vals.length=W*H) (hv:∀ v∈vals,VOk n b v) (px py:Int):WT n b t.Hood.length (inS X Y W H vals t.Hood px py) (trS t.Hood.length u (inS X Y W H vals t.Hood px py)) :=
 wt_fix K.D K.R.sb (by unfold inS; rw[List.length_map]) fun v hv'=>by
  unfold inS at hv'
  obtain⟨d,_,rfl⟩:=List.mem_map.1 hv'
  exact atS_ok (by have:=K.R.sb.n2; omega) hl hv _ _
theorem gen_vals (K:PK n b w h r G t x u):∀ g,(iZ n b w h r t x u g).2.2.length=gW w r g*gW h r g/\∀ v∈(iZ n b w h r t x u g).2.2,VOk n b v
 | 0=>by
  refine⟨?_,fun v hv=>(im v hv).1⟩
  show (bw b (w*h)).length=_
  rw[bW]
  unfold gW
  rw[Nat.zero_mul]
  rfl
 | g+1=>by
  obtain⟨h1,h2⟩:=gen_vals K g
  have:=next_vals (n:=n) (b:=b) (H:=t.Hood.length) (ins:=inS (gX r g) (gX r g) (gW w r g) (gW h r g) (iZ n b w h r t x u g).2.2 t.Hood) (tr:=trS t.Hood.length u) (X:=gX r (g+1)) (Y:=gX r (g+1)) (W:=gW w r (g+1)) (m:=gW w r (g+1)*gW h r (g+1)) (v:=(iZ n b w h r t x u g).1) (cs:=(iZ n b w h r t x u g).2.1) (fun i _=>ins_wt K h1 h2 _ _) _ (Nat.le_refl _)
  exact this
theorem gen_lo (K:PK n b w h r G t x u) (g:Nat):0<=(iZ n b w h r t x u g).1:=by
 have h1:=gen_mono' (n:=n) (b:=b) (w:=w) (h:=h) (r:=r) (t:=t) (x:=x) (u:=u) 0 g
 rw[Nat.zero_add] at h1
 have h2:=K.m48.1
 have h3:(iZ n b w h r t x u 0).1=((w*h:Nat):Int)*b:=rfl
 omega
end
end Go.Proofs.YtjlckgeecihpbaaGreatDoor
namespace Go.Proofs.YtjlckgeecihpbaaGreatDoor
open Go.AM Go.Proofs
theorem loop_gat' {α β:Type} {b:Int×List β->Option (Lp (Int×List β) (List β))} (l:List α) (f:Nat->α->List β) (m C:Nat) (acc:List β) (hf:∀ i x,x∈l->(f i x).length<=m) (hl:l.length < 1099511627776) (hC:acc.length+m*l.length<=C)
  (hs:∀ (i:Nat) (x:α) (ac:List β),l[i]?=some x->ac.length+m<=C->b ((i:Int),ac)=some (.next (((i+1:Nat):Int),ac++f i x)))
  (he:∀ ac,b ((l.length:Int),ac)=some (.out ac)):ba b bp (0,acc)=some (acc++gat f l 0):=by
 obtain⟨r,hr,rfl⟩:=bX (b:=b) (n:=l.length) (s:=(0,acc)) (fun i st=>st=((i:Int),acc++gat f (l.take i) 0)) (fun r=>r=acc++gat f l 0) hl (by simp[gat])
  (fun i st hi e=>by
   subst e
   have hx:l[i]?=some l[i]:=List.getElem?_eq_getElem hi
   refine .inl ⟨_,hs i _ _ hx ?_,?_⟩
   ·have h1:=gat_len' (l.take i) 0 (fun j y hy=>hf j y (List.mem_of_mem_take hy))
    rw[List.length_take,Nat.min_eq_left (Nat.le_of_lt hi)] at h1
    rw[List.length_append]
    have h2:m*i+m<=m*l.length:=by
     have:=Nat.mul_le_mul_left m (show i+1<=l.length from hi)
     rw[Nat.mul_add,Nat.mul_one] at this
     exact this
    omega
   ·rw[gat_take f hx,List.append_assoc])
  (fun st e=>by
   subst e
   exact⟨_,he _,by rw[List.take_length]⟩)
 exact hr
section
variable {n b w h r G:Nat} {t:Tree} {x:Bg} {L:Nat} {u:DD (L+1)}
theorem wq_of (K:PK n b w h r G t x u) {s:Int} (hs:s∈x.Syms) {i:Nat} (hi:i < w*h) :
  fe s ⟨0,0,w,h⟩ ⟨(i % w:Nat),(i / w:Nat)⟩=some (wqS w h s i)/\gR s ⟨0,0,w,h⟩ ⟨(i % w:Nat),(i / w:Nat)⟩=some (wqS w h s i)/\0<=(wqS w h s i).X/\(wqS w h s i).X < w/\0<=(wqS w h s i).Y/\(wqS w h s i).Y < h:=by
 obtain⟨k,rfl,h1,h2⟩:=K.syms s hs
 have hw:=K.w1
 obtain⟨q,e1,e2,e3⟩:=within_eq (s:=k) (W:=w) (H:=h) (x:=i % w) (y:=i / w) h1 K.w1 K.h1 K.wh h2 (Nat.mod_lt _ (by omega)) (Nat.div_lt_of_lt_mul hi)
 have:wqS w h (k:Int) i=q:=by unfold wqS; rw[e2]; rfl
 rw[this]
 exact⟨e1,e2,e3⟩
theorem wq_in {w h:Nat} {q:Point} (h1:0<=q.X) (h2:q.X < w) (h3:0<=q.Y) (h4:q.Y < h):inB 0 0 w h q.X q.Y=true:=gy.2 ⟨h1,by omega,h3,by omega⟩
theorem first_ok (_K:PK n b w h r G t x u):∀ v∈bw b (w*h),v.2.length=b:=fun v hv=>(im (n:=n) v hv).2
theorem ne_len {l:List Int} {b:Nat} (hb:1<=b) (h:l.length=b):l≠[]:=fun e=>by rw[e] at h; simp at h; omega
theorem BX0 (K:PK n b w h r G t x u):BX 0 0 w h:=by
 obtain⟨h1,h2⟩:=K.w16
 exact⟨by omega,by omega,by omega,by omega,by omega,by omega⟩
theorem symP {y1:Int×(List Point)×(List Node)×Int} {y2:Int} {cc:List (List Int)} {v3:Int} {a s:Int} {cs:List (List Int)} (K:PK n b w h r G t x u) (hs:s∈x.Syms) (hc:cs.length<=10000000) :
  ba (eS x y1 y2 ((bw b (w*h)).map pv,cc,v3) a s) bp (0,cs)=some (cs++symS b w h s):=by
 have b1:=K.R.sb.b1
 have b3:=K.R.sb.b3
 have hwh:=K.wh
 obtain⟨w16,h16⟩:=K.w16
 refine loop_gat' (bw b (w*h)) (sy1 b w h s) 6 20000000 cs (fun i v hv=>sy1_len b3 s i v (by rw[first_ok K v hv]; omega)) (by rw[bW]; omega) (by rw[bW]; omega) (fun i v ac hv hac=>?_) (fun ac=>?_)
 ·have hi:=bq hv
  rw[bW] at hi
  have hvl:=first_ok K v (List.mem_of_getElem? hv)
  obtain⟨q1,q2⟩:=idiv_nat (i:=i) K.w1 (by omega)
  obtain⟨w1,_,w3,w4,w5,w6⟩:=wq_of K hs hi
  have hin:=wq_in w3 w4 w5 w6
  have hfl:=p5 b1 hin
  unfold eS
  dsimp only
  rw[show ltB (i:Int) (b8 ((bw b (w*h)).map pv))=true from decide_eq_true (by unfold b8; rw[List.length_map,bW]; omega),cond_true,bl,List.getElem?_map,hv,K.W,K.H,q1,q2,bJ (by omega)]
  simp only[Option.map_some,aX]
  rw[w1]
  simp only[aX]
  rw[atP (BX0 K) (bW _ _) (by omega) (by omega)]
  simp only[aX]
  rw[show (pv v).vars=v.2 from rfl,j1 (ne_len b1 hvl)]
  simp only[aX]
  rw[show ∀ z:SV,(pv z).vars=z.2 from fun _=>rfl,j1 (ne_len b1 hfl)]
  simp only[aX]
  rw[sameP (by omega) (by omega) (by omega)]
  rfl
 ·unfold eS
  dsimp only
  rw[show ltB ((bw b (w*h)).length:Int) (b8 ((bw b (w*h)).map pv))=false from decide_eq_false (by unfold b8; rw[List.length_map]; omega)]
  rfl
theorem symsP {y1:Int×(List Point)×(List Node)×Int} {y2:Int} {cc:List (List Int)} {v3:Int} {cs:List (List Int)} (K:PK n b w h r G t x u) (hc:cs.length<=1000000) :
  ba (eQ x y1 y2 ((bw b (w*h)).map pv,cc,v3)) bp (0,cs)=some (cs++gat (fun _ s=>symS b w h s) x.Syms 0):=by
 have hsl:=K.slen
 refine loop_gat' x.Syms (fun _ s=>symS b w h s) 96 2000000 cs (fun i s _=>sym_len K.R.sb.b3 K.wh s) (by omega) (by omega) (fun i s ac hs hac=>?_) (fun ac=>?_)
 ·have hi:=bq hs
  unfold eQ
  dsimp only
  rw[bh,decide_eq_true hi,cond_true,bl,hs,bJ (by omega)]
  simp only[aX]
  rw[symP K (List.mem_of_getElem? hs) (by omega)]
  rfl
 ·unfold eQ
  dsimp only
  rw[bh,decide_eq_false (Nat.lt_irrefl _)]
  rfl
theorem eA_len (K:PK n b w h r G t x u) (i:Nat) (v:SV) (hv:VOk n b v):(eA b w h r G x i v).length<=6:=by
 have b3:=K.R.sb.b3
 unfold eA
 dsimp only
 cases hin:inB 0 0 w h (gX r G+(i % gW w r G:Nat) - x.DX) (gX r G+(i / gW w r G:Nat) - x.DY) with
 | true =>
  have hf:=p5 K.R.sb.b1 hin
  cases he:isE v.2 with
  | true=>simp only[cond_true]; rw[fixS_len]; omega
  | false =>
   simp only[cond_true,cond_false]
   have:=sameS_len v.2 (atS 0 0 w h (bw b (w*h)) (gX r G+(i % gW w r G:Nat) - x.DX) (gX r G+(i / gW w r G:Nat) - x.DY)).2
   have:=vok_len hv he
   omega
 | false =>
  cases he:isE v.2 with
  | true=>simp
  | false =>
   simp only[cond_false]
   rw[fixS_len,vok_len hv he]
   omega
theorem eB_len (K:PK n b w h r G t x u) (i:Nat) (v:SV) (hv:v.2.length=b):(eB w h r G x i v).length<=3:=by
 have b3:=K.R.sb.b3
 unfold eB
 cases inB (gX r G) (gX r G) (gW w r G) (gW h r G) ((i % w:Nat)+x.DX) ((i / w:Nat)+x.DY) with
 | true=>simp
 | false=>rw[cond_false,fixS_len]; omega
theorem endAP {y1:Int×(List Point)×(List Node)×Int} {cc:List (List Int)} {v3 vv:Int} {cs:List (List Int)} {mp:List (List UInt8×Tree)} (K:PK n b w h r G t x u) (hc:cs.length<=10000000) :
  ba (eU x y1 ((bw b (w*h)).map pv,cc,v3) (gX r G) (gX r G) (gW w r G:Nat) (gW h r G:Nat) ((iZ n b w h r t x u G).2.2.map pv) mp vv) bp (0,cs)=some (cs++gat (eA b w h r G x) (iZ n b w h r t x u G).2.2 0):=by
 have b1:=K.R.sb.b1
 have b3:=K.R.sb.b3
 obtain⟨w16,h16⟩:=K.w16
 obtain⟨hBX,k1,k2,k3,k4,k5⟩:=K.bx K.g6
 obtain⟨hl,hv⟩:=gen_vals K G
 have hdx:=K.dx
 have hdy:=K.dy
 have hle:gW w r G*gW h r G<=40*40:=Nat.mul_le_mul k4 k5
 obtain⟨vs,hvs⟩:∃ vs,vs=(iZ n b w h r t x u G).2.2:=⟨_,rfl⟩
 rw[<- hvs] at hl hv ⊢
 refine loop_gat' vs (eA b w h r G x) 6 20000000 cs (fun i v hm=>eA_len K i v (hv v hm)) (by omega) (by omega) (fun i v ac hvi hac=>?_) (fun ac=>?_)
 ·have hi:=bq hvi
  have hok:=hv v (List.mem_of_getElem? hvi)
  obtain⟨q1,q2⟩:=idiv_nat (i:=i) (w:=gW w r G) k2 (by omega)
  have hml:i % gW w r G < gW w r G:=Nat.mod_lt _ (by omega)
  have hdl:i / gW w r G < gW h r G:=Nat.div_lt_of_lt_mul (by omega)
  obtain⟨x0,x1,y0,y1',_,_⟩:=hBX
  unfold eU eA
  dsimp only
  rw[show ltB (i:Int) (b8 (vs.map pv))=true from decide_eq_true (by unfold b8; rw[List.length_map]; omega),cond_true,bl,List.getElem?_map,hvi,q1,q2,bJ (by omega)]
  simp only[Option.map_some,aX]
  generalize hA:i % gW w r G=A at hml ⊢
  generalize hC:i / gW w r G=C at hdl ⊢
  rw[K.W,K.H,cw (a:=gX r G) (b:=(A:Int)) (by omega),cw (a:=gX r G) (b:=(C:Int)) (by omega),fN (b:=x.DX) (by omega),fN (b:=x.DY) (by omega),inP (BX0 K)]
  simp only[aX]
  rw[show ∀ z:SV,(pv z).vars=z.2 from fun _=>rfl]
  have hat:=atP (X:=0) (Y:=0) (W:=w) (H:=h) (vals:=bw b (w*h)) (BX0 K) (bW _ _) (x:=gX r G+(A:Int) - x.DX) (y:=gX r G+(C:Int) - x.DY) (by omega) (by omega)
  cases he:isE v.2 with
  | true =>
   simp only[cy,Bool.not_true,cond_false,cond_true,aX]
   cases hin:inB 0 0 w h (gX r G+(A:Int) - x.DX) (gX r G+(C:Int) - x.DY) with
   | false=>simp only[cond_false,aX,List.append_nil]
   | true =>
    have hfl:=p5 b1 hin
    simp only[cond_true]
    rw[hat]
    simp only[aX]
    rw[show ∀ z:SV,(pv z).vars=z.2 from fun _=>rfl,j1 (ne_len b1 hfl)]
    simp only[aX]
    rw[fixP _ (by omega) (by omega)]
    rfl
  | false =>
   have hvl:=vok_len hok he
   simp only[cy,Bool.not_false,cond_false,cond_true,aX]
   cases hin:inB 0 0 w h (gX r G+(A:Int) - x.DX) (gX r G+(C:Int) - x.DY) with
   | false =>
    simp only[cond_false]
    rw[j1 (ne_len b1 hvl)]
    simp only[aX]
    rw[fixP _ (by omega) (by omega)]
    rfl
   | true =>
    have hfl:=p5 b1 hin
    simp only[cond_true]
    rw[hat]
    simp only[aX]
    rw[j1 (ne_len b1 hvl),show ∀ z:SV,(pv z).vars=z.2 from fun _=>rfl,j1 (ne_len b1 hfl)]
    simp only[aX]
    rw[sameP (by omega) (by omega) (by omega)]
    rfl
 ·unfold eU
  dsimp only
  rw[show ltB (vs.length:Int) (b8 (vs.map pv))=false from decide_eq_false (by unfold b8; rw[List.length_map]; omega)]
  rfl
theorem endBP {y1:Int×(List Point)×(List Node)×Int} {cc:List (List Int)} {v3 vv:Int} {cs:List (List Int)} {mp:List (List UInt8×Tree)} {vs:List Bi} (K:PK n b w h r G t x u) (hc:cs.length<=10000000) :
  ba (eP x y1 ((bw b (w*h)).map pv,cc,v3) (gX r G) (gX r G) (gW w r G:Nat) (gW h r G:Nat) vs mp vv) bp (0,cs)=some (cs++gat (eB w h r G x) (bw b (w*h)) 0):=by
 have b1:=K.R.sb.b1
 have b3:=K.R.sb.b3
 have hwh:=K.wh
 obtain⟨w16,h16⟩:=K.w16
 obtain⟨hBX,_⟩:=K.bx K.g6
 have hdx:=K.dx
 have hdy:=K.dy
 refine loop_gat' (bw b (w*h)) (eB w h r G x) 3 20000000 cs (fun i v hm=>eB_len K i v (first_ok K v hm)) (by rw[bW]; omega) (by rw[bW]; omega) (fun i v ac hvi hac=>?_) (fun ac=>?_)
 ·have hi:=bq hvi
  rw[bW] at hi
  have hvl:=first_ok K v (List.mem_of_getElem? hvi)
  have hw1:=K.w1
  obtain⟨q1,q2⟩:=idiv_nat (i:=i) (w:=w) hw1 (by omega)
  have hml:i % w < w:=Nat.mod_lt _ (by omega)
  have hdl:i / w < h:=Nat.div_lt_of_lt_mul hi
  unfold eP eB
  dsimp only
  rw[show ltB (i:Int) (b8 ((bw b (w*h)).map pv))=true from decide_eq_true (by unfold b8; rw[List.length_map,bW]; omega),cond_true,bl,List.getElem?_map,hvi,K.W,q1,q2,bJ (by omega)]
  simp only[Option.map_some,aX]
  generalize hA:i % w=A at hml ⊢
  generalize hC:i / w=C at hdl ⊢
  rw[cw (a:=(A:Int)) (b:=x.DX) (by omega),cw (a:=(C:Int)) (b:=x.DY) (by omega),inP hBX]
  simp only[aX]
  rw[show ∀ z:SV,(pv z).vars=z.2 from fun _=>rfl]
  cases inB (gX r G) (gX r G) (gW w r G) (gW h r G) ((A:Int)+x.DX) ((C:Int)+x.DY) with
  | true=>simp only[cy,Bool.not_true,cond_false,cond_true,aX,List.append_nil]
  | false =>
   simp only[cy,Bool.not_false,cond_false,cond_true]
   rw[j1 (ne_len b1 hvl)]
   simp only[aX]
   rw[fixP _ (by omega) (by omega)]
   rfl
 ·unfold eP
  dsimp only
  rw[show ltB ((bw b (w*h)).length:Int) (b8 ((bw b (w*h)).map pv))=false from decide_eq_false (by unfold b8; rw[List.length_map]; omega)]
  rfl
theorem gen0_len (K:PK n b w h r G t x u):(iZ n b w h r t x u 0).2.1.length<=2048:=by
 have h1:=K.m48.2.2
 have h2:=gat_len (f:=fun(_:Nat) s=>symS b w h s) (m:=96) (fun _ s=>sym_len K.R.sb.b3 K.wh s) x.Syms 0
 have h3:=K.slen
 show (kv n b (w*h)++gat (fun _ s=>symS b w h s) x.Syms 0).length<=_
 rw[List.length_append]
 omega
theorem forP (K:PK n b w h r G t x u) (hsz:Sz t) (hc:PC.chkE t x=0) :
  ek t x=some (bif jz (pq n b w h r G t x u).1 (pq n b w h r G t x u).2 then (⟨(pq n b w h r G t x u).1,(pq n b w h r G t x u).2⟩,((w*h:Nat):Int)*b,0) else (⟨0,[]⟩,0,6)):=by
 have b1:=K.R.sb.b1
 have b3:=K.R.sb.b3
 have n2:=K.R.sb.n2
 have hwh:=K.wh
 have hr2:=K.r2
 have hg1:=K.g1
 have hg6:=K.g6
 have hw1:=K.w1
 have hh1:=K.h1
 obtain⟨w16,h16⟩:=K.w16
 obtain⟨m0,m1,m2⟩:=K.m48
 have hsl:=K.slen
 have h25:=K.R.tok.h25
 have hpt:=(hood_pts K.D.hd).2.2
 have hmul:ck .i64 (w:Int) (h:Int)=((w*h:Nat):Int):=by
  have e:=Int.natCast_mul w h
  rw[jm (by omega),e]
 unfold ek
 rw[PC.check_eq hsz (by omega),hc]
 simp only[aX]
 rw[show neB 0 0=false from rfl,cond_false,startP K.R,K.hr,K.W,K.H]
 simp only[aX]
 rw[freeP K.R.sb (m:=w*h) hmul (by omega)]
 simp only[aX]
 rw[symsP K (by omega)]
 simp only[aX]
 obtain⟨F,hF⟩:∃ F,F=iZ n b w h r t x u:=⟨_,rfl⟩
 have hF0:F 0=(((w*h:Nat):Int)*b,kv n b (w*h)++gat (fun _ s=>symS b w h s) x.Syms 0,bw b (w*h)):=by rw[hF]; rfl
 have hst:t.States=(n:Int):=K.R.st
 obtain⟨o,ho,hq⟩:=bX (b:=ei x ((n:Int),t.Hood,ser (post (L+1) u []),(b:Int)) (r:Int) ((bw b (w*h)).map pv,kv n b (w*h),((w*h:Nat):Int)*b)) (n:=G) (s:=(1,0,0,(w:Int),(h:Int),(bw b (w*h)).map pv,[],((w*h:Nat):Int)*b,kv n b (w*h)++gat (fun _ s=>symS b w h s) x.Syms 0))
  (fun g st=>∃ mp,MOkT n b (n:Int) t.Hood u mp/\st=(((g+1:Nat):Int),gX r g,gX r g,((gW w r g:Nat):Int),((gW h r g:Nat):Int),(F g).2.2.map pv,mp,(F g).1,(F g).2.1)/\(g=0 \/ jz (F g).1 (F g).2.1=true))
  (fun o=>(∃ mp,o=.inr (gX r G,gX r G,((gW w r G:Nat):Int),((gW h r G:Nat):Int),(F G).2.2.map pv,mp,(F G).1,(F G).2.1)/\jz (F G).1 (F G).2.1=true) \/ (o=.inl (⟨0,[]⟩,0,6)/\jz (pq n b w h r G t x u).1 (pq n b w h r G t x u).2=false)) (by omega)
  ⟨[],(fun k t' hk=>by cases hk),by rw[hF0]; simp[gX,gW],.inl rfl⟩
  (fun g st hg ⟨mp,hM,e,hfg⟩=>by
   subst e
   obtain⟨hBX,k1,k2,k3,k4,k5⟩:=K.bx (g:=g) (by omega)
   obtain⟨hBX',k1',k2',k3',k4',k5'⟩:=K.bx (g:=g+1) (by omega)
   obtain⟨hl,hv⟩:=gen_vals K g
   have hlo:=gen_lo K g
   have h0l:=gen0_len K
   have hFs:F (g+1)=fD b t.Hood.length (inS (gX r g) (gX r g) (gW w r g) (gW h r g) (F g).2.2 t.Hood) (trS t.Hood.length u) (gX r (g+1)) (gX r (g+1)) (gW w r (g+1)) ((F g).1,(F g).2.1,[]) (gW w r (g+1)*gW h r (g+1)):=by rw[hF]; rfl
   have hun:jz (F (g+1)).1 (F (g+1)).2.1=false->jz (pq n b w h r G t x u).1 (pq n b w h r G t x u).2=false:=fun hu=>by rw[hF] at hu; exact gen_unfit (by omega) hu
   have hbd:(F g).1<=1000000/\(F g).2.1.length<=100000000:=by
    rcases hfg with hz | hz
    ·subst hz
     rw[hF0]
     rw[show iZ n b w h r t x u 0=(((w*h:Nat):Int)*b,kv n b (w*h)++gat (fun _ s=>symS b w h s) x.Syms 0,bw b (w*h)) from rfl] at h0l
     dsimp only at h0l ⊢
     exact⟨by omega,by omega⟩
    ·have:=fit_len hz
     omega
   rw[<- hF] at hl hv hlo
   obtain⟨rs,hrs,hqs⟩:=nextP (n:=n) (b:=b) (S:=(n:Int)) (Hd:=t.Hood) (N:=ser (post (L+1) u [])) (fX:=gX r g) (fY:=gX r g) (fW:=gW w r g) (fH:=gW h r g) (vals:=(F g).2.2) (X:=gX r (g+1)) (Y:=gX r (g+1)) (W:=gW w r (g+1)) (H:=gW h r (g+1)) (fixed:=true) (tr:=trS t.Hood.length u) (MOk:=MOkT n b (n:Int) t.Hood u) (v0:=(F g).1) (cs0:=(F g).2.1) (mp0:=mp)
    hBX hl h25 hpt hBX' k3' k2' (fun i _=>ins_wt K hl hv _ _)
    (fun v cs mp px py hmp=>by
     have hin:=fixedP (n:=n) (b:=b) (S:=(n:Int)) (Hd:=t.Hood) (u:=u) (v:=v) (cs:=cs) (mp:=mp) (in_:=inS (gX r g) (gX r g) (gW w r g) (gW h r g) (F g).2.2 t.Hood px py) (bb:=(b:Int)) (hst ▸ K.D) b1 hmp (by unfold inS; rw[List.length_map]) (fun v hv'=>by
      unfold inS at hv'
      obtain⟨d,_,rfl⟩:=List.mem_map.1 hv'
      exact atS_ok (by omega) hl hv _ _)
     obtain⟨mp',e1,e2⟩:=hin
     exact⟨mp',by rw[cond_true,e1]; rfl,e2⟩)
    hM hlo hbd.1 hbd.2
   rw[<- hFs] at hqs
   have hX:ck .i64 (cz .i64 ((g+1:Nat):Int)) (r:Int)=gX r (g+1):=by
    have e:=Int.natCast_mul (g+1) r
    rw[ineg_in (by omega)]
    have:-((g+1:Nat):Int)*(r:Int)=gX r (g+1):=by unfold gX; rw[e,Int.neg_mul]
    rw[jm (by rw[this]; unfold gX; omega),this]
   have hWW:∀ z:Nat,z<=16->bo .i64 (z:Int) (ck .i64 (ck .i64 2 ((g+1:Nat):Int)) (r:Int))=((gW z r (g+1):Nat):Int):=fun z hz=>by
    have e:((2*((g+1)*r):Nat):Int)=2*((g+1:Nat):Int)*(r:Int):=by rw[Int.natCast_mul,Int.natCast_mul,Int.mul_assoc]; rfl
    rw[jm (a:=2) (by omega),jm (by omega),cw (by omega)]
    unfold gW
    omega
   rcases hqs with ⟨mp',hm',hft,rfl⟩ | ⟨hft,hfl⟩
   ·refine .inl ⟨_,?_,mp',hm',rfl,.inr hft⟩
    unfold ei
    dsimp only
    rw[K.gens,show leB ((g+1:Nat):Int) (G:Int)=true from decide_eq_true (by omega),cond_true,hX,K.W,K.H,hWW w w16,hWW h h16,hrs]
    simp only[aX]
    rw[show cy true=false from rfl,cond_false,bJ (by omega)]
   ·refine .inr ⟨_,?_,.inr ⟨rfl,hun hft⟩⟩
    unfold ei
    dsimp only
    rw[K.gens,show leB ((g+1:Nat):Int) (G:Int)=true from decide_eq_true (by omega),cond_true,hX,K.W,K.H,hWW w w16,hWW h h16,hrs]
    simp only[aX]
    rw[hfl]
    rfl)
  (fun st ⟨mp,hM,e,hfg⟩=>by
   subst e
   refine⟨_,?_,.inl ⟨mp,rfl,?_⟩⟩
   ·unfold ei
    dsimp only
    rw[K.gens,show leB ((G+1:Nat):Int) (G:Int)=false from decide_eq_false (by omega)]
    rfl
   ·rcases hfg with hz | hz
    ·omega
    ·exact hz)
 rw[ho]
 rcases hq with ⟨mp,rfl,hfG⟩ | ⟨rfl,hu⟩
 ·have hfl:=fit_len hfG
  simp only[aX]
  have hA:=fun(cc:List (List Int)) (v3:Int)=>endAP (n:=n) (b:=b) (w:=w) (h:=h) (r:=r) (G:=G) (t:=t) (x:=x) (u:=u) (y1:=((n:Int),t.Hood,ser (post (L+1) u []),(b:Int))) (cc:=cc) (v3:=v3) (vv:=(F G).1) (cs:=(F G).2.1) (mp:=mp) K (by omega)
  rw[<- hF] at hA
  rw[hA]
  simp only[aX]
  have hAl:(gat (eA b w h r G x) (F G).2.2 0).length<=9600:=by
   obtain⟨hl,hv⟩:=gen_vals K G
   obtain⟨_,_,_,_,k4,k5⟩:=K.bx K.g6
   have hle:gW w r G*gW h r G<=40*40:=Nat.mul_le_mul k4 k5
   have:=gat_len' (f:=eA b w h r G x) (m:=6) (iZ n b w h r t x u G).2.2 0 (fun i v hm=>eA_len K i v (hv v hm))
   rw[hF]
   omega
  rw[endBP K (by rw[List.length_append]; omega)]
  simp only[aX]
  rw[largeP_eq]
  simp only[aX]
  have hfor:pq n b w h r G t x u=((F G).1,((F G).2.1++gat (eA b w h r G x) (F G).2.2 0)++gat (eB w h r G x) (bw b (w*h)) 0):=by rw[hF]; rfl
  rw[hfor]
  dsimp only
  cases jz (F G).1 (((F G).2.1++gat (eA b w h r G x) (F G).2.2 0)++gat (eB w h r G x) (bw b (w*h)) 0)<;>rfl
 ·rw[hu]
  rfl
end
end Go.Proofs.YtjlckgeecihpbaaGreatDoor
namespace Go.Proofs.YtjlckgeecihpbaaGreatDoor
open Go.AM Go.Proofs
section
variable {n b w h r G:Nat} {t:Tree} {x:Bg} {L:Nat} {u:DD (L+1)}
theorem next_cl {m:Nat} {ins:Int->Int->List SV} {tr:List SV->List Node} {X Y:Int} {W H:Nat} {v:Int} {cs:List (List Int)} (hW:∀ i:Nat,i < m->WT n b H (ins (X+(i % W:Nat)) (Y+(i / W:Nat))) (tr (ins (X+(i % W:Nat)) (Y+(i / W:Nat))))) (hc:CL cs):∀ i,i<=m->CL (fD b H ins tr X Y W (v,cs,[]) i).2.1
 | 0,_=>hc
 | i+1,hi=>by
  have ih:=next_cl (v:=v) hW hc i (by omega)
  have wt:=hW i (by omega)
  exact tree_cl' wt ih
theorem gat_cl {α:Type} {f:Nat->α->List (List Int)} {l:List α} {i:Nat} (h:∀ j x,CL (f j x)):CL (gat f l i):=fun d hd=>by
 obtain⟨j,x,_,hc⟩:=gat_mem hd
 exact h j x d hc
theorem gen_cl (K:PK n b w h r G t x u):∀ g,CL (iZ n b w h r t x u g).2.1
 | 0=>(cells_cl K.R.sb.b3).app (gat_cl fun _ _=>gat_cl fun _ _=>same_cl _ _)
 | g+1=>by
  obtain⟨hl,hv⟩:=gen_vals K g
  exact next_cl (fun i _=>ins_wt K hl hv _ _) (gen_cl K g) _ (Nat.le_refl _)
theorem for_cl (K:PK n b w h r G t x u):CL (pq n b w h r G t x u).2:=by
 refine ((gen_cl K G).app (gat_cl fun i v=>?_)).app (gat_cl fun i v=>?_)
 ·unfold eA
  dsimp only
  cases isE v.2<;>cases inB 0 0 w h (gX r G+(i % gW w r G:Nat) - x.DX) (gX r G+(i / gW w r G:Nat) - x.DY)
  ·exact fix_cl _ _
  ·exact same_cl _ _
  ·exact CL.nil
  ·exact fix_cl _ _
 ·unfold eB
  cases inB (gX r G) (gX r G) (gW w r G) (gW h r G) ((i % w:Nat)+x.DX) ((i / w:Nat)+x.DY)
  ·exact fix_cl _ _
  ·exact CL.nil
end
end Go.Proofs.YtjlckgeecihpbaaGreatDoor
