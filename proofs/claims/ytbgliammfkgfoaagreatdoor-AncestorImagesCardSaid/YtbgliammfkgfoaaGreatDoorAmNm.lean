/- Maps of rows; the beginning of a row becomes a row. -/
import Derived.Test.YtbgliammfkgfoaaGreatDoorAmNw
import Derived.Test.YtbgliammfkgfoaaGreatDoorAmMp
namespace Go.AM
open Go.RowKit
def nZ (t d k sz:Nat) (e:TypeId) (rows:List (List L)) (O:Sto):Sto:=upd (bN d (drop (some t) O)) d (some (.row sz e (rows.take k)))
section
variable {cx:Cx} {φ:Nat->Value} {w:World} {Z:Env} {O:Sto}
theorem upd_id {α:Type} (f:Nat->α) (s:Nat):upd f s (f s)=f:=by
 funext t
 by_cases h:t=s
 ·rw[h,upd_same]
 ·rw[bc _ _ h]
theorem Core.rebox (h:Core cx φ O w) {b:Nat} {cs cs':List C} (hs:O b=some (.box cs)) (hc:∀ (F':Nat->Prop) (k:Nat) (arr:Array Value) (ty:TypeId),φ b=.pointer (some ⟨k,0,none⟩)->w.heap[k]?=some (.cells arr ty (0,0))->Keep (cx.fr φ O) F' w w->bh φ w (cx.fr φ O) cs arr.toList->bh φ w F' cs' arr.toList) :
  Core cx φ (upd O b (some (.box cs'))) w/\∀ v u,bn φ w (cx.fr φ O) v u->bn φ w (cx.fr φ (upd O b (some (.box cs')))) v u:=by
 have key:=h.swap (o':=.box cs') (v:=φ b) hs (.inr (.refl _)) (by
   obtain⟨_,_,_,h1,_⟩:=h.objs b _ hs
   rw[h1]) (fun a e=>e) (fun _ hb=>hb) (fun t m l la ho=>by
   by_cases ht:t=b
   ·rw[ht,upd_same] at ho; cases ho
   ·rw[bc _ _ ht] at ho
    obtain⟨kk,es,hm⟩:=h.itm t m l la ho
    exact⟨ht,fun e=>by rw[e,hs] at hm; cases hm⟩) (fun F' _ hk=>by
   obtain⟨k,arr,ty,h1,h2,h3,h4⟩:=h.objs b _ hs
   rw[upd_id]
   exact⟨k,arr,ty,h1,h2,hc F' k arr ty h1 h2 hk h3,h4⟩)
 rwa [upd_id] at key
theorem Core.cut (h:Core cx φ O w) {t d k sz:Nat} {e:TypeId} {rows:List (List L)} (hs:O t=some (.row sz e rows)) (hk:k<=rows.length) (hd:d < inBase) :
  ∃ hv,hdv hv=hv/\hv.oneCell'=true/\Core cx (upd φ d hv) (nZ t d k sz e rows O) w/\(∀ v u,bn φ w (cx.fr φ O) v u->bn (upd φ d hv) w (cx.fr (upd φ d hv) (nZ t d k sz e rows O)) (v.wipe d) u) /\
   ∀ (ψ:Nat->Value) (F':Nat->Prop) (z:Nat) (v:Value),ψ t=φ t->bl ψ w F' (.sub t z 0 k) v->v=hv:=by
 obtain⟨hl,hr⟩:=h.objs t _ hs
 have hlt:(rows.take k).length=k:=by rw[List.length_take]; omega
 obtain⟨ao,cap,hp,hnv⟩:∃ ao cap,φ t=.slice ao rows.length cap/\((rows=[]/\cap=0) \/ ∃ b cur,0 < cap/\ao=some ⟨b,0,none⟩/\rows.length<=cap/\cap<=maxLen/\w.heap[b]?=some (.cells cur e (0,0))/\cur.size=cap*sz/\bh φ w (cx.fr φ O) (rows.flatten.map C.d) (cur.toList.take (rows.length*sz))):=by
  rcases hr with ⟨h0,a,h1⟩ | ⟨b,cap,cur,h0,h1,h2,h3,h4,h5,h6⟩
  ·exact⟨a,0,by rw[h1,h0]; rfl,.inl ⟨h0,rfl⟩⟩
  ·exact⟨_,cap,h1,.inr ⟨b,cur,h0,rfl,h2,h3,h4,h5,h6⟩⟩
 have hhv:hdv (Value.slice ao k cap)=.slice ao k cap:=rfl
 obtain⟨h1,_,h3⟩:=h.replace (so:=some t) (d:=d) (hv:=.slice ao k cap) (ob:=.row sz e (rows.take k)) (w':=w) hd (fun s o hst ho kk es hm=>by cases hst; rw[hs] at ho; rw[hm] at ho; cases ho) rfl rfl rfl (Nat.le_refl _) (Nat.le_refl _) (fun _ _ _=>rfl)
  (fun b hb=>by
   have hb':hbl (φ t) b:=by
    rw[hp]
    cases ao with
    | none=>simp at hb
    | some a=>simpa using hb
   exact⟨.inr ⟨t,_,rfl,hs,hb'⟩,(h.own t _ b hs hb').2⟩) (fun _ _ _ h=>by cases h) (fun hkp=>by
   refine⟨fun r hr'=>hl r (List.mem_of_mem_take hr'),?_⟩
   rw[upd_same]
   rcases hnv with ⟨h0,h4⟩ | ⟨b,cur,h4,h5,h6,h7,h8,h9,h10⟩
   ·subst h0
    have hk0:k=0:=by simpa using hk
    exact .inl ⟨by simp,ao,by rw[hk0,h4]⟩
   ·refine .inr ⟨b,cap,cur,h4,by rw[h5,hlt],by omega,h7,h8,h9,?_⟩
    rw[hlt]
    have h11:=eu (k*sz) (bO hkp _ _ h10)
    rw[List.take_take,Nat.min_eq_left (Nat.mul_le_mul_right sz hk),<- List.map_take,<- flat_take k hl] at h11
    exact oI (φ:=φ) _ _ (frees_data _) h11)
 refine⟨.slice ao k cap,rfl,rfl,h1,h3,fun ψ F' z v hψ hv=>?_⟩
 simp only[bl] at hv
 obtain⟨a0,n0,c0,he,h4,h5,rfl⟩:=hv
 rw[hψ,hp] at he
 cases he
 rw[Nat.sub_zero,Nat.sub_zero]
 congr 1
 unfold subA
 split
 ·rfl
 ·rcases hnv with ⟨_,h6⟩ | ⟨b,cur,h6,rfl,_⟩
  ·omega
  ·simp[Addr.add]
theorem Wk.cutE (x t d k sz z:Nat) (e:TypeId) (rows:List (List L)) (hx:Z x=.u (.one (.sub t z 0 k))) (hs:O t=some (.row sz e rows)) (hk:k<=rows.length) (hd:d < inBase) (_htd:t≠d) (_hxn:x < cx.n) :
  Wk cx Z O (upd (cL d Z) x (.u (.one (.own d)))) (nZ t d k sz e rows O):=by
 intro φ a w h
 obtain⟨hv,g1,g2,h1,h2,h3⟩:=h.core.cut hs hk hd
 have hsl:=h.slots x
 rw[hx] at hsl
 have hval:=h3 φ (cx.fr φ O) z _ rfl hsl
 refine⟨_,h1,fun t'=>?_,h.defers,h.room⟩
 by_cases ht:t'=x
 ·rw[ht,upd_same,hval]
  simp only[bn,bD,bl]
  rw[upd_same,g1]
  exact⟨rfl,g2⟩
 ·rw[bc _ _ ht]
  exact h2 _ _ (h.slots t')
theorem Wk.cutB (b i t d k sz z:Nat) (e:TypeId) (rows:List (List L)) (cs:List C) (hb:O b=some (.box cs)) (hi:cs[i]?=some (.sub t z 0 k)) (hs:O t=some (.row sz e rows)) (hk:k<=rows.length) (hd:d < inBase) (htd:t≠d) (hbd:b≠d) :
  Wk cx Z O (cL d Z) (upd (nZ t d k sz e rows O) b (some (.box ((cs.map (C.wipe d)).set i (.own d))))):=by
 intro φ a w h
 obtain⟨hv,g1,g2,h1,h2,h3⟩:=h.core.cut hs hk hd
 have hbt:b≠t:=fun e=>by rw[e,hs] at hb; cases hb
 have hbx:nZ t d k sz e rows O b=some (.box (cs.map (C.wipe d))):=by
  unfold nZ
  rw[bc _ _ hbd]
  simp[bN,drop,hb,Ne.symm hbt,Ob.wipe]
 obtain⟨h4,h5⟩:=h1.rebox (cs':=(cs.map (C.wipe d)).set i (.own d)) hbx fun F' _ _ _ _ _ hkp hc=>by
  have hi':(cs.map (C.wipe d))[i]?=some (.sub t z 0 k):=by
   rw[List.getElem?_map,hi]
   simp[C.wipe,htd]
  obtain⟨u,hu,hun⟩:=kB hc hi'
  have hval:=h3 _ _ z _ (bc _ _ htd) hun
  have:=csims_set i (bO hkp _ _ hc) (c:=.own d) (v:=u) (by simp only[bl]; rw[upd_same,g1,hval]; exact⟨rfl,g2⟩)
  rwa [eG hu] at this
 exact⟨_,h4,fun t'=>h5 _ _ (h2 _ _ (h.slots t')),h.defers,h.room⟩
end
theorem Ob.wipe_idem {d:Nat} {o o':Ob} (ho:o.wipe d=some o'):o'.wipe d=some o':=by
 cases o with
 | box cs =>
  cases ho
  simp only[Ob.wipe,List.map_map,Function.comp_def,C.wipe_idem]
 | row sz e' rows=>cases ho; rfl
 | map kk es =>
  cases ho
  simp only[Ob.wipe,List.map_map,Function.comp_def,U.wipe_idem]
 | iter m l la =>
  simp only[Ob.wipe] at ho
  split at ho
  ·cases ho
  ·rename_i hm
   cases ho
   simp only[Ob.wipe,if_neg hm,List.map_map,Function.comp_def,U.wipe_idem]
   cases la<;>simp[U.wipe_idem]
 | nest e' ie sz els =>
  cases ho
  simp only[Ob.wipe,List.map_map,Function.comp_def,NE.wipe_idem]
section
variable {κ α:Type} [DecidableEq κ]
def hlk:List (κ×Nat)->κ->Option Nat
 | [],_=>none
 | x::H,k=>if x.1=k then some x.2 else hlk H k
def hfr (d:Nat):List (κ×Nat)->Bool
 | []=>true
 | x::H=>x.2 != d && hfr d H
def hren (g:Nat->Nat) (H:List (κ×Nat)):List (κ×Nat):=H.map fun x=>(x.1,g x.2)
def dl (f:α->List L) (H:List (κ×Nat)) (e:κ×List α):NE:=match hlk H e.1 with
 | some t=>.own t
 | none=>.rows (e.2.map f)
def cQ (kf:κ->Key) (m:List (κ×List α)):List Key:=m.map fun e=>kf e.1
def bX (kk:KK) (kf:κ->Key) (f:α->List L) (ie:TypeId) (sz:Nat) (H:List (κ×Nat)) (m:List (κ×List α)):Ob:=.nest (.map kk (cQ kf m)) ie sz (m.map (dl f H))
def mNestR (kk:KK) (kf:κ->Key) (f:α->List L) (ie:TypeId) (sz:Nat) (H:List (κ×Nat)) (m:List (κ×List α)) (k:κ) (x:NE):Ob:=.nest (.map kk (cQ kf m)) ie sz ((m.map (dl f H)).set (fh (cQ kf m) (kf k)) x)
def iQ (m:List (κ×List α)) (k:κ):List (κ×List α):=bif cH m k then m else m++[(k,[])]
end
section
variable {κ α:Type} [DecidableEq κ] {kk:KK} {kf:κ->Key} {f:α->List L} {ie:TypeId} {sz:Nat} {H:List (κ×Nat)} {m:List (κ×List α)}
theorem kG (x:κ×List α) (k:κ):cH (x::m) k=(decide (x.1=k) || cH m k):=by
 simp only[cH,gx]
 by_cases h:x.1=k<;>simp[h]
theorem mhasB_mem:∀ {m:List (κ×List α)} {k:κ},cH m k=true↔∃ r,(k,r)∈m
 | [],k=>by simp[cH,gx]
 | x::m,k=>by
  rw[kG,Bool.or_eq_true,decide_eq_true_eq,mhasB_mem]
  constructor
  ·rintro (h | ⟨r,h⟩)
   ·exact⟨x.2,by rw[<- h]; simp⟩
   ·exact⟨r,List.mem_cons_of_mem _ h⟩
  ·rintro⟨r,h⟩
   rcases List.mem_cons.1 h with h | h
   ·exact .inl (by rw[<- h])
   ·exact .inr ⟨r,h⟩
theorem mkeys_mem [hk:KeyF kf] {k:κ}:kf k∈cQ kf m↔cH m k=true:=by
 rw[mhasB_mem]
 unfold cQ
 rw[List.mem_map]
 constructor
 ·rintro⟨x,hx,he⟩
  exact⟨x.2,by rw[<- hk.inj _ _ he]; exact hx⟩
 ·rintro⟨r,h⟩
  exact⟨_,h,rfl⟩
theorem posK_lt {ks:List Key} {k:Key}:fh ks k < ks.length↔k∈ks:=by
 induction ks with
 | nil=>simp[fh]
 | cons x ks ih =>
  unfold fh
  by_cases h:x=k
  ·simp[h]
  ·rw[if_neg h,List.length_cons,Nat.add_lt_add_iff_right,ih,List.mem_cons]
   exact⟨.inr,fun h'=>h'.elim (fun e=>absurd e.symm h) id⟩
theorem mpos_lt [KeyF kf] (k:κ):(fh (cQ kf m) (kf k) < (cQ kf m).length)=(cH m k=true):=propext (posK_lt.trans mkeys_mem)
theorem mcell_get [hk:KeyF kf]:∀ {m:List (κ×List α)} {k:κ},cH m k=true->(m.map (dl f H))[fh (cQ kf m) (kf k)]?=some (dl f H (k,fe m k []))
 | [],k,h=>by simp[cH,gx] at h
 | x::m,k,h=>by
  rw[kG] at h
  unfold cQ fh fe gx
  by_cases hx:x.1=k
  ·subst hx
   simp
  ·have hx':¬ kf x.1=kf k:=fun e=>hx (hk.inj _ _ e)
   simp only[hx,decide_false,Bool.false_or] at h
   simp only[List.map_cons,if_neg hx',if_neg hx,List.getElem?_cons_succ]
   exact mcell_get h
theorem mcell_set [hk:KeyF kf]:∀ {m:List (κ×List α)} {k:κ} {d:Nat},(cQ kf m).Nodup->cH m k=true->(m.map (dl f H)).set (fh (cQ kf m) (kf k)) (.own d)=m.map (dl f ((k,d)::H))
 | [],k,d,_,h=>by simp[cH,gx] at h
 | x::m,k,d,hn,h=>by
  rw[kG] at h
  have hn':=hn
  unfold cQ at hn'
  rw[List.map_cons,List.nodup_cons] at hn'
  unfold cQ fh
  by_cases hx:x.1=k
  ·subst hx
   simp only[List.map_cons,if_true,List.set_cons_zero,List.cons.injEq]
   refine⟨by simp[dl,hlk],List.map_congr_left fun y hy=>?_⟩
   have:¬ x.1=y.1:=fun e=>hn'.1 (List.mem_map.2 ⟨y,hy,by rw[e]⟩)
   simp[dl,hlk,this]
  ·have hx':¬ kf x.1=kf k:=fun e=>hx (hk.inj _ _ e)
   simp only[hx,decide_false,Bool.false_or] at h
   simp only[List.map_cons,if_neg hx',List.set_cons_succ,List.cons.injEq]
   exact⟨by simp[dl,hlk,Ne.symm hx],mcell_set hn'.2 h⟩
theorem mcell_back [hk:KeyF kf] {t:Nat}:∀ {m:List (κ×List α)} {k:κ} {r:List α},(cQ kf m).Nodup->cH m k=true->hlk H k=none->hfr t H=true ->
  ((m.map (dl f ((k,t)::H))).map (NE.wipe t)).set (fh (cQ kf m) (kf k)) (.rows (r.map f))=(ig m k r).map (dl f H)
 | [],k,r,_,h,_,_=>by simp[cH,gx] at h
 | x::m,k,r,hn,h,hh,hf=>by
  have hw:∀ y:κ×List α,¬ k=y.1->NE.wipe t (dl f ((k,t)::H) y)=dl f H y:=fun y hy=>by
   have hi:∀ {H:List (κ×Nat)} {j:κ} {u:Nat},hfr t H=true->hlk H j=some u->u≠t:=fun{H}=>by
    induction H with
    | nil=>intro j u _ h; cases h
    | cons z H ih =>
     intro j u hf h
     simp only[hfr,Bool.and_eq_true,bne_iff_ne] at hf
     unfold hlk at h
     split at h
     ·cases h; exact hf.1
     ·exact ih hf.2 h
   unfold dl
   rw[show hlk ((k,t)::H) y.1=hlk H y.1 from if_neg hy]
   cases he:hlk H y.1 with
   | none=>rfl
   | some u=>rw[newipe_own,if_neg (hi hf he)]
  rw[kG] at h
  have hn':=hn
  unfold cQ at hn'
  rw[List.map_cons,List.nodup_cons] at hn'
  unfold cQ fh ig
  by_cases hx:x.1=k
  ·subst hx
   simp only[List.map_cons,if_true,List.set_cons_zero,List.cons.injEq]
   refine⟨by simp[dl,hh],?_⟩
   rw[List.map_map]
   exact List.map_congr_left fun y hy=>hw y fun e=>hn'.1 (List.mem_map.2 ⟨y,hy,by rw[e]⟩)
  ·have hx':¬ kf x.1=kf k:=fun e=>hx (hk.inj _ _ e)
   simp only[hx,decide_false,Bool.false_or] at h
   simp only[List.map_cons,if_neg hx',if_neg hx,List.set_cons_succ,List.cons.injEq]
   exact⟨hw x (Ne.symm hx),mcell_back hn'.2 h hh hf⟩
theorem mkeys_set:∀ {m:List (κ×List α)} {k:κ} {r:List α},cH m k=true->cQ kf (ig m k r)=cQ kf m
 | [],k,r,h=>by simp[cH,gx] at h
 | x::m,k,r,h=>by
  rw[kG] at h
  unfold cQ ig
  by_cases hx:x.1=k
  ·simp[hx]
  ·simp only[hx,decide_false,Bool.false_or] at h
   simp only[if_neg hx,List.map_cons,List.cons.injEq,true_and]
   exact mkeys_set h
theorem jF (k:κ):cH (iQ m k) k=true:=by
 unfold iQ
 cases h:cH m k with
 | true=>exact h
 | false=>exact mhasB_mem.2 ⟨[],by simp⟩
theorem mhasB_app (k:κ) (r:List α):∀ {m:List (κ×List α)},cH m k=false->fe (m++[(k,r)]) k []=r
 | [],_=>by simp[fe,gx]
 | x::m,h=>by
  rw[kG,Bool.or_eq_false_iff,decide_eq_false_iff_not] at h
  have:=mhasB_app k r h.2
  unfold fe at this ⊢
  rw[List.cons_append,gx,if_neg h.1]
  exact this
theorem mgetD_mtch (k:κ):fe (iQ m k) k []=fe m k []:=by
 unfold iQ
 cases h:cH m k with
 | true=>rfl
 | false =>
  rw[cond_false,mhasB_app k [] h]
  unfold fe
  unfold cH at h
  simp only[Option.isSome_eq_false_iff,Option.isNone_iff_eq_none] at h
  rw[h]
  rfl
theorem mcells_wipe (d:Nat) (h:hfr d H=true):(m.map (dl f H)).map (NE.wipe d)=m.map (dl f H):=by
 rw[List.map_map]
 refine List.map_congr_left fun y _=>?_
 show NE.wipe d (dl f H y)=dl f H y
 unfold dl
 cases he:hlk H y.1 with
 | none=>rfl
 | some u =>
  rw[newipe_own,if_neg]
  induction H with
  | nil=>cases he
  | cons z H ih =>
   simp only[hfr,Bool.and_eq_true,bne_iff_ne] at h
   unfold hlk at he
   split at he
   ·cases he; exact h.1
   ·exact ih h.2 he
end
section
variable {cx:Cx} {Z:Env} {O:Sto} {κ α:Type} [DecidableEq κ] {kk:KK} {kf:κ->Key} {f:α->List L} {ie:TypeId} {sz:Nat} {H:List (κ×Nat)} {m:List (κ×List α)}
theorem Wk.toNM (s:Nat) (kk:KK) (kf:κ->Key) (f:α->List L) (ie:TypeId) (sz:Nat) (hs:O s=some (.map kk [])) (hd:s < inBase):Wk cx Z O Z (upd (gj s O) s (some (bX kk kf f ie sz [] []))):=by
 intro φ a w h
 obtain⟨h1,h2⟩:=h.core.mutate (ob':=.map kk []) (w':=w) (σ1:=gj s O) hs (fun t o _ h=>dropIt_sub h) (fun t m l la _ h=>dropIt_iter h) (fun m kk es h _=>dropIt_map h) (fun _ _ _ h=>by cases h) rfl rfl rfl (Nat.le_refl _) (Nat.le_refl _) (fun _ _ _=>rfl) fun _=>h.core.objs s _ hs
 obtain⟨ψ,h3,h4⟩:=h1.toNM (ie:=ie) (sz:=sz) (upd_same _ _ _) hd fun t m l la ht=>by
  by_cases hts:t=s
  ·rw[hts,upd_same] at ht; cases ht
  ·rw[bc _ _ hts] at ht; exact dropIt_iter ht
 have he:upd (upd (gj s O) s (some (.map kk []))) s (some (.nest (.map kk []) ie sz []))=upd (gj s O) s (some (bX kk kf f ie sz [] [])):=by
  funext t
  by_cases hts:t=s
  ·rw[hts,upd_same,upd_same]; rfl
  ·rw[bc _ _ hts,bc _ _ hts,bc _ _ hts]
 rw[he] at h3 h4
 exact⟨ψ,h3,fun t=>h4 _ _ (cV h2 _ _ (h.slots t)),h.defers,h.room⟩
theorem mkeys_nodup {φ:Nat->Value} {w:World} {F:Nat->Prop} {s:Nat} (h:gm φ w F s (bX kk kf f ie sz H m)):(cQ kf m).Nodup:=by
 obtain⟨_,_,_,_,_,⟨_,_,_,_,_,_,_,_,_,_,_,_,_,h,_⟩,_⟩:=h
 exact h
theorem mNest_new (k:κ) (h:cH m k=false) (hh:hlk H k=none):Ob.nest (.map kk (cQ kf m++[kf k])) ie sz (m.map (dl f H)++[.rows []])=bX kk kf f ie sz H (iQ m k):=by
 unfold bX iQ
 rw[h]
 simp[cQ,dl,hh]
theorem Wk.touch [KeyF kf] (s:Nat) (k:κ) (hs:O s=some (bX kk kf f ie sz H m)) (hf:(kf k).fits kk=true) (hh:hlk H k=none):Wk cx Z O Z (upd O s (some (bX kk kf f ie sz H (iQ m k)))):=by
 intro φ a w h
 cases hm:cH m k with
 | true =>
  have:iQ m k=m:=by unfold iQ; rw[hm]; rfl
  rw[this,<- hs,upd_id]
  exact⟨φ,h⟩
 | false =>
  obtain⟨ψ,h1,h2⟩:=h.core.vir (key:=kf k) hs hf fun e=>by rw[mkeys_mem.1 e] at hm; cases hm
  rw[mNest_new k hm hh] at h1 h2
  exact⟨ψ,h1,fun t=>h2 _ _ (h.slots t),h.defers,h.room⟩
theorem Wk.focM [KeyF kf] (s d:Nat) (k:κ) (hs:O s=some (bX kk kf f ie sz H m)) (hf:(kf k).fits kk=true) (hh:hlk H k=none) (hH:hfr d H=true) (hd:d < inBase) (hsd:s≠d) :
  Wk cx Z O (cL d Z) (upd (upd (bN d O) s (some (bX kk kf f ie sz ((k,d)::H) (iQ m k)))) d (some (.row sz ie ((fe m k []).map f)))):=by
 refine (Wk.touch s k hs hf hh).trans fun φ a w h=>?_
 have hs1:=upd_same O s (some (bX kk kf f ie sz H (iQ m k)))
 have hn:=mkeys_nodup (h.core.objs s _ hs1)
 obtain⟨φ',_,_,_,_,_,_,_,_,_,_,_,h1,_,h2⟩:=h.core.focus (i:=fh (cQ kf (iQ m k)) (kf k)) (r:=(fe m k []).map f) hs1 (by rw[mcell_get (jF k),mgetD_mtch]; simp[dl,hh]) hd hsd
 have he:fcS s d (fh (cQ kf (iQ m k)) (kf k)) (.map kk (cQ kf (iQ m k))) ie sz ((iQ m k).map (dl f H)) ((fe m k []).map f) (upd O s (some (bX kk kf f ie sz H (iQ m k)))) =
   upd (upd (bN d O) s (some (bX kk kf f ie sz ((k,d)::H) (iQ m k)))) d (some (.row sz ie ((fe m k []).map f))):=by
  unfold fcS
  rw[mcells_wipe d hH,mcell_set hn (jF k)]
  funext t
  by_cases htd:t=d
  ·rw[htd,upd_same,upd_same]
  ·rw[bc _ _ htd,bc _ _ htd]
   by_cases hts:t=s
   ·rw[hts,upd_same,upd_same]; rfl
   ·rw[bc _ _ hts,bc _ _ hts]
    simp only[bN]
    rw[bc _ _ hts]
 rw[he] at h1 h2
 exact⟨φ',h1,fun t=>h2 _ _ (h.slots t),h.defers,h.room⟩
theorem Wk.setM [KeyF kf] (s t t':Nat) (k:κ) (hs:O s=some (mNestR kk kf f ie sz ((k,t)::H) m k (.own t'))) (hm:cH m k=true):Wk cx Z O Z (upd O s (some (bX kk kf f ie sz ((k,t')::H) m))):=by
 intro φ a w h
 have hn:(cQ kf m).Nodup:=by
  obtain⟨_,_,_,_,_,⟨_,_,_,_,_,_,_,_,_,_,_,_,_,h,_⟩,_⟩:=h.core.objs s _ hs
  exact h
 have he:mNestR kk kf f ie sz ((k,t)::H) m k (.own t')=bX kk kf f ie sz ((k,t')::H) m:=by
  unfold mNestR bX
  rw[mcell_set hn hm]
  congr 1
  refine List.map_congr_left fun y _=>?_
  by_cases hy:k=y.1<;>simp[dl,hlk,hy]
 rw[<- he,<- hs,upd_id]
 exact⟨φ,h⟩
theorem Wk.unfM [KeyF kf] (s t:Nat) (k:κ) (r:List α) (hs:O s=some (bX kk kf f ie sz ((k,t)::H) m)) (hm:cH m k=true) (hh:hlk H k=none) (hH:hfr t H=true) (ht:O t=some (.row sz ie (r.map f))) (hd:t < inBase) :
  Wk cx Z O (cL t Z) (upd (upd (bN t O) s (some (bX kk kf f ie sz H (ig m k r)))) t (some (.row sz ie []))):=by
 intro φ a w h
 have hn:=mkeys_nodup (h.core.objs s _ hs)
 obtain⟨ψ,h1,h2⟩:=h.core.unfocus (i:=fh (cQ kf m) (kf k)) hs (by rw[mcell_get hm]; simp[dl,hlk]) ht hd
 have he:ufS s t (fh (cQ kf m) (kf k)) (.map kk (cQ kf m)) ie sz (m.map (dl f ((k,t)::H))) (r.map f) O=upd (upd (bN t O) s (some (bX kk kf f ie sz H (ig m k r)))) t (some (.row sz ie [])):=by
  unfold ufS
  rw[mcell_back hn hm hh hH]
  unfold bX
  rw[mkeys_set hm]
 rw[he] at h1 h2
 exact⟨ψ,h1,fun t=>h2 _ _ (h.slots t),h.defers,h.room⟩
theorem Wk.unfMs [KeyF kf] (s t t' d z n:Nat) (k:κ) (r:List α) (hs:O s=some (mNestR kk kf f ie sz ((k,t)::H) m k (.sub t' z n))) (hm:cH m k=true) (hh:hlk H k=none) (hH:hfr d ((k,t)::H)=true) (ht:O t'=some (.row sz ie (r.map f))) (hn:n<=r.length) (hd:d < inBase) (htd:t'≠d) (hsd:s≠d) :
  Wk cx Z O (cL d Z) (upd (upd (bN d (drop (some t') O)) s (some (bX kk kf f ie sz H (ig m k (r.take n))))) d (some (.row sz ie []))):=by
 intro φ a w h
 obtain⟨hv,g1,g2,h1,h2,h3⟩:=h.core.cut ht (k:=n) (by simpa using hn) hd
 have hst:s≠t':=fun e=>by rw[e,ht] at hs; cases hs
 have hf:=hH
 simp only[hfr,Bool.and_eq_true,bne_iff_ne] at hf
 have hw:((m.map (dl f ((k,t)::H))).set (fh (cQ kf m) (kf k)) (.sub t' z n)).map (NE.wipe d)=(m.map (dl f ((k,t)::H))).set (fh (cQ kf m) (kf k)) (.sub t' z n):=by
  rw[List.map_set,mcells_wipe d hH]
  congr 1
  show (if t'=d then NE.dead else NE.sub t' z n)=_
  rw[if_neg htd]
 have hs1:nZ t' d n sz ie (r.map f) O s=some (mNestR kk kf f ie sz ((k,t)::H) m k (.sub t' z n)):=by
  unfold nZ
  rw[bc _ _ hsd]
  simp only[bN,drop]
  rw[if_neg (fun e=>hst (Option.some.inj e).symm),hs]
  unfold mNestR
  simp only[Option.bind_some,Ob.wipe,hw]
 have hpl:fh (cQ kf m) (kf k) < (m.map (dl f ((k,t)::H))).length:=by
  have:=(mpos_lt (kf:=kf) (m:=m) k).mpr hm
  unfold cQ at this ⊢
  simpa using this
 obtain⟨out,ivs,cs,hp,hnd,hsp,hns⟩:=h1.objs s _ hs1
 have hkn:(cQ kf m).Nodup:=by
  obtain⟨_,_,_,_,_,_,_,_,_,_,_,_,_,h,_⟩:=hsp
  exact h
 obtain⟨c,iv,hc,hiv,hx,rfl⟩:=kL hns (List.getElem?_set_self hpl)
 have hcv:c=hv:=h3 _ _ z c (bc _ _ htd) hx
 obtain⟨ψ,e1,e2,e3,e4⟩:=h1.renest (els':=((m.map (dl f ((k,t)::H))).set (fh (cQ kf m) (kf k)) (.sub t' z n)).set (fh (cQ kf m) (kf k)) (.own d)) (ivs':=ivs) hs1 hp (by rw[List.length_set]; exact hsp) (List.Sublist.refl _) fun ψ F' hv' hk=>by
  have:=ky (i:=fh (cQ kf m) (kf k)) (x:=.own d) (c:=c) (iv:=undef) (kE (fun t=>(hv' t).hd) (fS hk (fun _ _ _ _=>rfl) hns)) ⟨by rw[(hv' d).hd,upd_same,g1,hcv],by rw[hcv]; exact g2,rfl⟩
  rwa [eG hc,eG hiv] at this
 have hd2:upd (nZ t' d n sz ie (r.map f) O) s (some (.nest (.map kk (cQ kf m)) ie sz (((m.map (dl f ((k,t)::H))).set (fh (cQ kf m) (kf k)) (.sub t' z n)).set (fh (cQ kf m) (kf k)) (.own d)))) d=some (.row sz ie ((r.map f).take n)):=by
  rw[bc _ _ (Ne.symm hsd)]
  unfold nZ
  rw[upd_same]
 obtain⟨φ',q1,q2⟩:=e3.unfocus (i:=fh (cQ kf m) (kf k)) (upd_same _ _ _) (List.getElem?_set_self (by rw[List.length_set]; exact hpl)) hd2 hd
 have hmc:(m.map (dl f ((k,d)::(k,t)::H)))=m.map (dl f ((k,d)::H)):=List.map_congr_left fun y _=>by by_cases hy:k=y.1<;>simp[dl,hlk,hy]
 have he:ufS s d (fh (cQ kf m) (kf k)) (.map kk (cQ kf m)) ie sz (((m.map (dl f ((k,t)::H))).set (fh (cQ kf m) (kf k)) (.sub t' z n)).set (fh (cQ kf m) (kf k)) (.own d)) ((r.map f).take n)
   (upd (nZ t' d n sz ie (r.map f) O) s (some (.nest (.map kk (cQ kf m)) ie sz (((m.map (dl f ((k,t)::H))).set (fh (cQ kf m) (kf k)) (.sub t' z n)).set (fh (cQ kf m) (kf k)) (.own d))))) =
   upd (upd (bN d (drop (some t') O)) s (some (bX kk kf f ie sz H (ig m k (r.take n))))) d (some (.row sz ie [])):=by
  unfold ufS
  rw[List.set_set,mcell_set hkn hm,hmc,<- List.map_take,mcell_back hkn hm hh hf.2]
  funext u
  by_cases hud:u=d
  ·rw[hud,upd_same,upd_same]
  ·rw[bc _ _ hud,bc _ _ hud]
   by_cases hus:u=s
   ·rw[hus,upd_same,upd_same]
    unfold bX
    rw[mkeys_set hm]
   ·rw[bc _ _ hus,bc _ _ hus]
    simp only[bN]
    rw[bc _ _ hus]
    unfold nZ
    rw[bc _ _ hud]
    simp only[bN]
    cases drop (some t') O u with
    | none=>rfl
    | some o =>
     simp only[Option.bind_some]
     cases ho:o.wipe d with
     | none=>rfl
     | some o'=>exact Ob.wipe_idem ho
 rw[he] at q1 q2
 refine⟨φ',q1,fun u=>?_,h.defers,h.room⟩
 have:=q2 _ _ (e4 _ _ (h2 _ _ (h.slots u)))
 rwa [V.wipe_idem] at this
end
section
variable {κ α:Type} [DecidableEq κ] {kk:KK} {kf:κ->Key} {f:α->List L} {ie:TypeId} {sz:Nat} {H:List (κ×Nat)} {m:List (κ×List α)}
theorem hlk_nil (k:κ):hlk [] k=none:=by simp[hlk]
theorem hlk_hd (k:κ) (t:Nat):hlk ((k,t)::H) k=some t:=by simp[hlk]
theorem hlk_ne (k k':κ) (t:Nat) (h:¬ k'=k):hlk ((k',t)::H) k=hlk H k:=if_neg h
omit [DecidableEq κ] in
theorem hfr_nil (d:Nat):hfr d ([]:List (κ×Nat))=true:=by simp[hfr]
omit [DecidableEq κ] in
theorem hfr_cons (d:Nat) (k:κ) (t:Nat):hfr d ((k,t)::H)=(t != d && hfr d H):=by simp[hfr]
omit [DecidableEq κ] in
theorem hren_nil (g:Nat->Nat):hren g ([]:List (κ×Nat))=[]:=by simp[hren]
omit [DecidableEq κ] in
theorem hren_cons (g:Nat->Nat) (k:κ) (t:Nat):hren g ((k,t)::H)=(k,g t)::hren g H:=by simp[hren]
theorem mN_wipe (d:Nat) (h:hfr d H=true):Ob.wipe d (bX kk kf f ie sz H m)=some (bX kk kf f ie sz H m):=by unfold bX; simp only[Ob.wipe,mcells_wipe d h]
theorem mN_ren (g:Nat->Nat):Ob.ren g (bX kk kf f ie sz H m)=bX kk kf f ie sz (hren g H) m:=by
 unfold bX
 simp only[Ob.ren,List.map_map,Ob.nest.injEq,true_and]
 refine List.map_congr_left fun y _=>?_
 show NE.ren g (dl f H y)=dl f (hren g H) y
 unfold dl
 have:hlk (hren g H) y.1=(hlk H y.1).map g:=by
  induction H with
  | nil=>rfl
  | cons z H ih =>
   simp only[hren,List.map_cons] at ih ⊢
   unfold hlk
   split
   ·rfl
   ·exact ih
 rw[this]
 cases hlk H y.1<;>rfl
theorem mN_inN (n:Nat):Ob.inN n (bX kk kf f ie sz [] m)=true:=by
 unfold bX
 simp[Ob.inN,dl,hlk,NE.closed]
theorem mN_dropN1 (names:List Nat):dropN1 names (some (bX kk kf f ie sz H m))=some (bX kk kf f ie sz H m):=rfl
theorem mN_wk:Ob.wk (bX kk kf f ie sz H m) (bX kk kf f ie sz H m)↔True:=iff_of_true (Ob.wk_refl _) trivial
def msN (P:Prop) (x:Option NE) (kk:KK) (kf:κ->Key) (f:α->List L) (ie:TypeId) (sz:Nat) (H:List (κ×Nat)) (m:List (κ×List α)) (k:κ) (Z:Env) (O:Sto) (s:Nat):Option (Prop×Env×Sto):=match x with
 | some x=>some (P,Z,upd O s (some (mNestR kk kf f ie sz H m k x)))
 | none=>none
theorem mN_ms {tb:Tb} {Z:Env} {O:Sto} [KeyF kf] (s:Nat) (kt:TypeId) (k:κ) (u:U):msO tb Z O s kt (kf k) u (some (bX kk kf f ie sz H m))=msN (tb.key kt=some kk/\(kf k).fits kk=true/\cH m k=true) (neC u) kk kf f ie sz H m k Z O s:=by
 unfold msO bX rMapN msN
 simp only[mpos_lt]
 cases neC u<;>rfl
theorem msN_some {P:Prop} {Z:Env} {O:Sto} (s:Nat) (k:κ) (x:NE):msN P (some x) kk kf f ie sz H m k Z O s=some (P,Z,upd O s (some (mNestR kk kf f ie sz H m k x))):=rfl
theorem neC_own (t:Nat):neC (.one (.own t))=some (.own t):=rfl
theorem neC_sub (t z n:Nat):neC (.one (.sub t z 0 n))=some (.sub t z n):=rfl
theorem mN_lkO {tb:Tb} (kt e:TypeId) (key:Key) (ok:Bool):lkO tb kt e key ok (some (bX kk kf f ie sz H m))=none:=rfl
def lknD (tb:Tb) (d:TypeDesc) (key:Key) (ob:Option Ob):Option V:=match d,ob with
 | .map kt e,some (.nest (.map kk ks) _ _ els)=>qlkN (tb.key kt) (tb.ty e) kk ks els key
 | _,_=>none
def lknT (tb:Tb) (ti:Option TI) (key:Option Key) (ob:Option Ob):Option V:=match ti,key with
 | some ti,some key=>lknD tb ti.desc key ob
 | _,_=>none
theorem qlookN_map {tb:Tb} {O:Sto} (t:TypeId) (s:Nat) (k:V):qlookN tb O t (.u (.one (.map s))) k false=lknT tb (tb.ty t) (vkey k) (O s):=by
 unfold qlookN lknT
 rcases tb.ty t with _ | ti<;>rcases vkey k with _ | key<;>try rfl
theorem lknT_some {tb:Tb} (ti:TI) (key:Key) (ob:Option Ob):lknT tb (some ti) (some key) ob=lknD tb ti.desc key ob:=rfl
theorem lknD_mN {tb:Tb} [KeyF kf] (kt e:TypeId) (k:κ) (t:Nat) (h:cH m k=true) (hh:hlk H k=some t) (hkt:tb.key kt=some kk) (hf:(kf k).fits kk=true) {te:TI} (hte:tb.ty e=some te) (hz:isNilU te.zu=true) :
  lknD tb (.map kt e) (kf k) (some (bX kk kf f ie sz H m))=some (.u (.one (.own t))):=by
 unfold lknD bX qlkN
 simp only[hte,hkt,hf,hz,true_and,mpos_lt,h,if_true]
 unfold ownN
 rw[mcell_get h]
 simp[dl,hh]
end
attribute [simp] hren_nil hren_cons dropN1_nest hlk_nil hlk_hd hfr_nil hfr_cons mN_wipe mN_ren mN_inN mN_dropN1 mN_wk mN_ms msN_some neC_own neC_sub mN_lkO qlookN_map lknT_some jF
end Go.AM
