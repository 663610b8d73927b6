/- Lemmas for the law. -/
import Derived.Test.YtpeabgakdpojlaaGreatDoorAmNw
import Derived.Test.YtpeabgakdpojlaaGreatDoorAmMp
namespace Go.AM
open Go.RowKit
def sN (t d k sz:Nat) (e:TypeId) (rows:A8) (O:Sto):Sto:=upd (cM d (drop (some t) O)) d (some (.row sz e (rows.take k)))
section
variable {cx:Cx} {E:A7} {w:World} {Z:Env} {O:Sto}
theorem upd_id {I:Type} (f:Nat->I) (s:Nat):upd f s (f s)=f:=by grind[upd_same,bz]
theorem Core.rebox (h:Core cx E O w) {b:Nat} {cs cs':As} (hs:O b=some (.box cs)) (hc:∀(F':Ad) (k:Nat) (arr:Array Value) (ty:TypeId),E b=.pointer (some ⟨k,0,none⟩)->w.heap[k]?=some (.cells arr ty (0,0))->Keep (cx.fr E O) F' w w->bB E w (cx.fr E O) cs arr.toList->bB E w F' cs' arr.toList) :
  Core cx E (upd O b (some (.box cs'))) w/\∀v u,bI E w (cx.fr E O) v u->bI E w (cx.fr E (upd O b (some (.box cs')))) v u:=by
 have key:=h.swap (o':=.box cs') (v:=E b) hs (.inr (.refl _)) (by
   rfl) (λa e=>e) (λ_ hb=>hb) (λt m l la ho=>by
   by_cases ht:t=b;{simp_all}
   ·rw[bz _ _ ht] at ho;obtain⟨kk,es,hm⟩:=h.itm t m l la ho;grind) (λF' _ hk=>by obtain⟨k,arr,ty,h1,h2,h3,h4⟩:=h.objs b _ hs;rw[upd_id];exact⟨k,arr,ty,h1,h2,hc F' k arr ty h1 h2 hk h3,h4⟩)
 rwa [upd_id] at key
theorem Core.cut (h:Core cx E O w) {t d k sz:Nat} {e:TypeId} {rows:A8} (hs:O t=some (.row sz e rows)) (hk:k<=rows.length) (hd:d<inBase) :∃hv,hdv hv=hv/\hv.oneCell'=true/\Core cx (upd E d hv) (sN t d k sz e rows O) w/\(∀v u,bI E w (cx.fr E O) v u->bI (upd E d hv) w (cx.fr (upd E d hv) (sN t d k sz e rows O)) (v.wipe d) u) /\ ∀(J:A7) (F':Ad) (z:Nat) (v:Value),J t=E t->bG J w F' (.sub t z 0 k) v->v=hv:=by
 obtain⟨hl,hr⟩:=h.objs t _ hs;have hlt:(rows.take k).length=k:=by simp_all
 obtain⟨ao,cap,hp,hnv⟩:∃ao cap,E t=.slice ao rows.length cap/\((rows=[]/\cap=0)\/∃b cur,0<cap/\ao=some ⟨b,0,none⟩/\rows.length<=cap/\cap<=maxLen/\w.heap[b]?=some (.cells cur e (0,0))/\cur.size=cap*sz/\bB E w (cx.fr E O) (rows.flatten.map C.d) (cur.toList.take (rows.length*sz))):=by grind
 have hhv:hdv (Value.slice ao k cap)=.slice ao k cap:=rfl;obtain⟨h1,_,h3⟩:=h.replace (so:=some t) (d:=d) (hv:=.slice ao k cap) (ob:=.row sz e (rows.take k)) (w':=w) hd (λs o hst ho kk es hm=>by simp_all) rfl rfl rfl (Nat.le_refl _) (Nat.le_refl _) (λ_ _ _=>rfl) (λb hb=>by
   have hb':hbl (E t) b:=by grind
   exact⟨.inr ⟨t,_,rfl,hs,hb'⟩,(h.own t _ b hs hb').2⟩) (λ_ _ _ h=>by cases h) (λhkp=>by
   refine⟨λr hr'=>hl r (List.mem_of_mem_take hr'),?_⟩;rw[upd_same];rcases hnv with⟨h0,h4⟩|⟨b,cur,h4,h5,h6,h7,h8,h9,h10⟩;{simp_all}
   ·refine .inr ⟨b,cap,cur,h4,by rw[h5,hlt],by omega,h7,h8,h9,?_⟩;rw[hlt];have h11:=iL (k*sz) (cF hkp _ _ h10);rw[List.take_take,Nat.min_eq_left (Nat.mul_le_mul_right sz hk),<- List.map_take,<- flat_take k hl] at h11;grind[uc,frees_data])
 refine⟨.slice ao k cap,rfl,rfl,h1,h3,λJ F' z v hψ hv=>?_⟩;simp only[bG] at hv;obtain⟨a0,n0,c0,he,h4,h5,rfl⟩:=hv;rw[hψ,hp] at he;cases he;rw[Nat.sub_zero,Nat.sub_zero]
 congr 1
 unfold subA;split;{rfl};{rcases hnv with⟨_,h6⟩|⟨b,cur,h6,rfl,_⟩;{omega};{simp[Addr.add]}}
theorem Wk.cutE (x t d k sz z:Nat) (e:TypeId) (rows:A8) (hx:Z x=.u (.one (.sub t z 0 k))) (hs:O t=some (.row sz e rows)) (hk:k<=rows.length) (hd:d<inBase) (_htd:t≠d) (_hxn:x<cx.n) :
  Wk cx Z O (upd (eY d Z) x (.u (.one (.own d)))) (sN t d k sz e rows O):=by intro E a w h;obtain⟨hv,g1,g2,h1,h2,h3⟩:=h.core.cut hs hk hd;have hsl:=h.slots x;rw[hx] at hsl;have hval:=h3 E (cx.fr E O) z _ rfl hsl;refine⟨_,h1,λt'=>?_,h.defers,h.room⟩;by_cases ht:t'=x;{rw[ht,upd_same,hval];simp only[bI,ct,bG];simp_all};{rw[bz _ _ ht];exact h2 _ _ (h.slots t')}
theorem Wk.cutB (b i t d k sz z:Nat) (e:TypeId) (rows:A8) (cs:As) (hb:O b=some (.box cs)) (hi:cs[i]?=some (.sub t z 0 k)) (hs:O t=some (.row sz e rows)) (hk:k<=rows.length) (hd:d<inBase) (htd:t≠d) (hbd:b≠d) :
  Wk cx Z O (eY d Z) (upd (sN t d k sz e rows O) b (some (.box ((cs.map (C.wipe d)).set i (.own d))))):=by
 intro E a w h;obtain⟨hv,g1,g2,h1,h2,h3⟩:=h.core.cut hs hk hd;have hbt:b≠t:=λe=>by simp_all
 have hbx:sN t d k sz e rows O b=some (.box (cs.map (C.wipe d))):=by simp_all[sN,Ne.symm]
 obtain⟨h4,h5⟩:=h1.rebox (cs':=(cs.map (C.wipe d)).set i (.own d)) hbx λF' _ _ _ _ _ hkp hc=>by
  have hi':(cs.map (C.wipe d))[i]?=some (.sub t z 0 k):=by rw[List.getElem?_map,hi];simp[C.wipe,htd]
  obtain⟨u,hu,hun⟩:=t7 hc hi';have hval:=h3 _ _ z _ (bz _ _ htd) hun;have:=csims_set i (cF hkp _ _ hc) (c:=.own d) (v:=u) (by simp only[bG];simp_all);rwa [i6 hu] at this
 exact⟨_,h4,λt'=>h5 _ _ (h2 _ _ (h.slots t')),h.defers,h.room⟩
end
theorem Ob.wipe_idem {d:Nat} {o o':Ob} (ho:o.wipe d=some o'):o'.wipe d=some o':=by
 cases o with
 |box cs=>
  cases ho;simp only[Ob.wipe,List.map_map,Function.comp_def,C.wipe_idem]
 |row sz e' rows=>(cases ho;rfl)|map kk es=>
  cases ho;simp only[Ob.wipe,List.map_map,Function.comp_def,U.wipe_idem]
 |iter m l la=>simp only[Ob.wipe] at ho;split at ho;{cases ho};{rename_i hm;cases ho;simp_all[Function.comp_def,U.wipe_idem]}|nest e' ie sz els=>cases ho;simp only[Ob.wipe,List.map_map,Function.comp_def,NE.wipe_idem]
section
variable {κ I:Type} [DecidableEq κ]
def hlk:List (κ×Nat)->κ->Ac|[],_=>none|x::H,k=>if x.1=k then some x.2 else hlk H k
def hfr (d:Nat):List (κ×Nat)->Bool|[]=>true|x::H=>x.2 != d&&hfr d H
def hren (g:Aj) (H:List (κ×Nat)):List (κ×Nat):=H.map λx=>(x.1,g x.2)
def fA (f:I->Ak) (H:List (κ×Nat)) (e:κ×List I):NE:=match hlk H e.1 with|some t=>.own t|none=>.rows (e.2.map f)
def eu (kf:κ->Key) (m:List (κ×List I)):List Key:=m.map λe=>kf e.1
def cT (kk:KK) (kf:κ->Key) (f:I->Ak) (ie:TypeId) (sz:Nat) (H:List (κ×Nat)) (m:List (κ×List I)):Ob:=.nest (.map kk (eu kf m)) ie sz (m.map (fA f H))
def mNestR (kk:KK) (kf:κ->Key) (f:I->Ak) (ie:TypeId) (sz:Nat) (H:List (κ×Nat)) (m:List (κ×List I)) (k:κ) (x:NE):Ob:=.nest (.map kk (eu kf m)) ie sz ((m.map (fA f H)).set (iU (eu kf m) (kf k)) x)
def js (m:List (κ×List I)) (k:κ):List (κ×List I):=bif dh m k then m else m++[(k,[])]
end
section
variable {κ I:Type} [DecidableEq κ] {kk:KK} {kf:κ->Key} {f:I->Ak} {ie:TypeId} {sz:Nat} {H:List (κ×Nat)} {m:List (κ×List I)}
theorem od (x:κ×List I) (k:κ):dh (x::m) k=(decide (x.1=k)||dh m k):=by grind[dh,gx]
theorem mhasB_mem:∀{m:List (κ×List I)} {k:κ},dh m k=true↔∃r,(k,r)∈m|[],k=>by simp[dh,gx]|x::m,k=>by rw[od,Bool.or_eq_true,decide_eq_true_eq,mhasB_mem];grind
theorem mkeys_mem [hk:KeyF kf] {k:κ}:kf k∈eu kf m↔dh m k=true:=by rw[mhasB_mem];unfold eu;rw[List.mem_map];constructor;{rintro⟨x,hx,he⟩;exact⟨x.2,by rw[<- hk.inj _ _ he];exact hx⟩};grind
theorem posK_lt {ks:List Key} {k:Key}:iU ks k<ks.length↔k∈ks:=by
 induction ks with
 |nil=>simp[iU]|cons x ks ih=>unfold iU;grind
theorem mpos_lt [KeyF kf] (k:κ):(iU (eu kf m) (kf k)<(eu kf m).length)=(dh m k=true):=propext (posK_lt.trans mkeys_mem)
theorem mcell_get [hk:KeyF kf]:∀{m:List (κ×List I)} {k:κ},dh m k=true->(m.map (fA f H))[iU (eu kf m) (kf k)]?=some (fA f H (k,eG m k []))|[],k,h=>by simp[dh,gx] at h|x::m,k,h=>by rw[od] at h;unfold eu iU eG gx;by_cases hx:x.1=k;{subst hx;simp};{have hx':¬ kf x.1=kf k:=λe=>hx (hk.inj _ _ e);simp only[hx,decide_false,Bool.false_or] at h;simp only[List.map_cons,if_neg hx',if_neg hx,List.getElem?_cons_succ];exact mcell_get h}
theorem mcell_set [hk:KeyF kf]:∀{m:List (κ×List I)} {k:κ} {d:Nat},(eu kf m).Nodup->dh m k=true->(m.map (fA f H)).set (iU (eu kf m) (kf k)) (.own d)=m.map (fA f ((k,d)::H))|[],k,d,_,h=>by rfl|x::m,k,d,hn,h=>by rw[od] at h;have hn':=hn;unfold eu at hn';rw[List.map_cons,List.nodup_cons] at hn';unfold eu iU;by_cases hx:x.1=k;{subst hx;simp only[List.map_cons,if_true,List.set_cons_zero,List.cons.injEq];grind[fA,hlk,List.map_congr_left]};{have hx':¬ kf x.1=kf k:=λe=>hx (hk.inj _ _ e);simp only[hx,decide_false,Bool.false_or] at h;simp only[List.map_cons,if_neg hx',List.set_cons_succ,List.cons.injEq];exact⟨by simp[fA,hlk,Ne.symm hx],mcell_set hn'.2 h⟩}
theorem mcell_back [hk:KeyF kf] {t:Nat}:∀{m:List (κ×List I)} {k:κ} {r:List I},(eu kf m).Nodup->dh m k=true->hlk H k=none->hfr t H=true -> ((m.map (fA f ((k,t)::H))).map (NE.wipe t)).set (iU (eu kf m) (kf k)) (.rows (r.map f))=(ga m k r).map (fA f H)
 |[],k,r,_,h,_,_=>by simp[dh,gx] at h|x::m,k,r,hn,h,hh,hf=>by
  have hw:∀y:κ×List I,¬ k=y.1->NE.wipe t (fA f ((k,t)::H) y)=fA f H y:=λy hy=>by
   have hi:∀{H:List (κ×Nat)} {j:κ} {u:Nat},hfr t H=true->hlk H j=some u->u≠t:=λ{H}=>by
    induction H with
    |nil=>(intro j u _ h;cases h)|cons z H ih=>intro j u hf h;simp only[hfr,Bool.and_eq_true,bne_iff_ne] at hf;grind[hlk]
   unfold fA;rw[show hlk ((k,t)::H) y.1=hlk H y.1 from if_neg hy];cases he:hlk H y.1 with
   |none=>rfl|some u=>rw[newipe_own,if_neg (hi hf he)]
  rw[od] at h;have hn':=hn;unfold eu at hn';rw[List.map_cons,List.nodup_cons] at hn';unfold eu iU ga;by_cases hx:x.1=k;{subst hx;simp only[List.map_cons,if_true,List.set_cons_zero,List.cons.injEq];grind[fA,List.map_congr_left]};{have hx':¬ kf x.1=kf k:=λe=>hx (hk.inj _ _ e);simp only[hx,decide_false,Bool.false_or] at h;simp only[List.map_cons,if_neg hx',if_neg hx,List.set_cons_succ,List.cons.injEq];exact⟨hw x (Ne.symm hx),mcell_back hn'.2 h hh hf⟩}
theorem mkeys_set:∀{m:List (κ×List I)} {k:κ} {r:List I},dh m k=true->eu kf (ga m k r)=eu kf m|[],k,r,h=>by simp[dh,gx] at h|x::m,k,r,h=>by rw[od] at h;unfold eu ga;by_cases hx:x.1=k;{simp[hx]};{simp only[hx,decide_false,Bool.false_or] at h;simp only[if_neg hx,List.map_cons,List.cons.injEq,true_and];exact mkeys_set h}
theorem m5 (k:κ):dh (js m k) k=true:=by grind[js,mhasB_mem]
theorem mhasB_app (k:κ) (r:List I):∀{m:List (κ×List I)},dh m k=false->eG (m++[(k,r)]) k []=r|[],_=>by simp[eG,gx]|x::m,h=>by rw[od,Bool.or_eq_false_iff,decide_eq_false_iff_not] at h;have:=mhasB_app k r h.2;simp_all[eG,gx]
theorem mgetD_mtch (k:κ):eG (js m k) k []=eG m k []:=by
 unfold js;cases h:dh m k with
 |true=>rfl|false=>rw[cond_false,mhasB_app k [] h];simp_all[eG,dh]
theorem mcells_wipe (d:Nat) (h:hfr d H=true):(m.map (fA f H)).map (NE.wipe d)=m.map (fA f H):=by
 rw[List.map_map];refine List.map_congr_left λy _=>?_;show NE.wipe d (fA f H y)=fA f H y;unfold fA;cases he:hlk H y.1 with
 |none=>rfl|some u=>
  rw[newipe_own,if_neg];induction H with
  |nil=>(cases he)|cons z H ih=>simp only[hfr,Bool.and_eq_true,bne_iff_ne] at h;grind[hlk]
end
section
variable {cx:Cx} {Z:Env} {O:Sto} {κ I:Type} [DecidableEq κ] {kk:KK} {kf:κ->Key} {f:I->Ak} {ie:TypeId} {sz:Nat} {H:List (κ×Nat)} {m:List (κ×List I)}
theorem Wk.toNM (s:Nat) (kk:KK) (kf:κ->Key) (f:I->Ak) (ie:TypeId) (sz:Nat) (hs:O s=some (.map kk [])) (hd:s<inBase):Wk cx Z O Z (upd (lm s O) s (some (cT kk kf f ie sz [] []))):=by
 intro E a w h;obtain⟨h1,h2⟩:=h.core.mutate (ob':=.map kk []) (w':=w) (σ1:=lm s O) hs (λt o _ h=>dropIt_sub h) (λt m l la _ h=>dropIt_iter h) (λm kk es h _=>dropIt_map h) (λ_ _ _ h=>by cases h) rfl rfl rfl (Nat.le_refl _) (Nat.le_refl _) (λ_ _ _=>rfl) λ_=>h.core.objs s _ hs;obtain⟨J,h3,h4⟩:=h1.toNM (ie:=ie) (sz:=sz) (upd_same _ _ _) hd λt m l la ht=>by grind[upd_same,bz,dropIt_iter]
 have he:upd (upd (lm s O) s (some (.map kk []))) s (some (.nest (.map kk []) ie sz []))=upd (lm s O) s (some (cT kk kf f ie sz [] [])):=by funext t;by_cases hts:t=s;{rw[hts,upd_same,upd_same];rfl};simp_all
 rw[he] at h3 h4;exact⟨J,h3,λt=>h4 _ _ (fb h2 _ _ (h.slots t)),h.defers,h.room⟩
theorem mkeys_nodup {E:A7} {w:World} {F:Ad} {s:Nat} (h:kq E w F s (cT kk kf f ie sz H m)):(eu kf m).Nodup:=by obtain⟨_,_,_,_,_,⟨_,_,_,_,_,_,_,_,_,_,_,_,_,h,_⟩,_⟩:=h;exact h
theorem mNest_new (k:κ) (h:dh m k=false) (hh:hlk H k=none):Ob.nest (.map kk (eu kf m++[kf k])) ie sz (m.map (fA f H)++[.rows []])=cT kk kf f ie sz H (js m k):=by grind[cT,js,eu,fA]
theorem Wk.touch [KeyF kf] (s:Nat) (k:κ) (hs:O s=some (cT kk kf f ie sz H m)) (hf:(kf k).fits kk=true) (hh:hlk H k=none):Wk cx Z O Z (upd O s (some (cT kk kf f ie sz H (js m k)))):=by
 intro E a w h;cases hm:dh m k with
 |true=>grind[js,upd_id]|false=>
  obtain⟨J,h1,h2⟩:=h.core.vir (key:=kf k) hs hf λe=>by simp_all[mkeys_mem]
  rw[mNest_new k hm hh] at h1 h2;exact⟨J,h1,λt=>h2 _ _ (h.slots t),h.defers,h.room⟩
theorem Wk.focM [KeyF kf] (s d:Nat) (k:κ) (hs:O s=some (cT kk kf f ie sz H m)) (hf:(kf k).fits kk=true) (hh:hlk H k=none) (hH:hfr d H=true) (hd:d<inBase) (hsd:s≠d) :
  Wk cx Z O (eY d Z) (upd (upd (cM d O) s (some (cT kk kf f ie sz ((k,d)::H) (js m k)))) d (some (.row sz ie ((eG m k []).map f)))):=by
 refine(Wk.touch s k hs hf hh).trans λE a w h=>?_;have hs1:=upd_same O s (some (cT kk kf f ie sz H (js m k)));have hn:=mkeys_nodup (h.core.objs s _ hs1);obtain⟨E',_,_,_,_,_,_,_,_,_,_,_,h1,_,h2⟩:=h.core.focus (i:=iU (eu kf (js m k)) (kf k)) (r:=(eG m k []).map f) hs1 (by rw[mcell_get (m5 k),mgetD_mtch];simp[fA,hh]) hd hsd;have he:fcS s d (iU (eu kf (js m k)) (kf k)) (.map kk (eu kf (js m k))) ie sz ((js m k).map (fA f H)) ((eG m k []).map f) (upd O s (some (cT kk kf f ie sz H (js m k)))) =
   upd (upd (cM d O) s (some (cT kk kf f ie sz ((k,d)::H) (js m k)))) d (some (.row sz ie ((eG m k []).map f))):=by unfold fcS;rw[mcells_wipe d hH,mcell_set hn (m5 k)];funext t;by_cases htd:t=d;{simp_all};{rw[bz _ _ htd,bz _ _ htd];by_cases hts:t=s;{rw[hts,upd_same,upd_same];rfl};simp_all}
 rw[he] at h1 h2;exact⟨E',h1,λt=>h2 _ _ (h.slots t),h.defers,h.room⟩
theorem Wk.setM [KeyF kf] (s t t':Nat) (k:κ) (hs:O s=some (mNestR kk kf f ie sz ((k,t)::H) m k (.own t'))) (hm:dh m k=true):Wk cx Z O Z (upd O s (some (cT kk kf f ie sz ((k,t')::H) m))):=by
 intro E a w h;have hn:(eu kf m).Nodup:=by obtain⟨_,_,_,_,_,⟨_,_,_,_,_,_,_,_,_,_,_,_,_,h,_⟩,_⟩:=h.core.objs s _ hs;exact h
 have he:mNestR kk kf f ie sz ((k,t)::H) m k (.own t')=cT kk kf f ie sz ((k,t')::H) m:=by simp_all[mNestR,cT,mcell_set,fA,hlk]
 grind[upd_id]
theorem Wk.unfM [KeyF kf] (s t:Nat) (k:κ) (r:List I) (hs:O s=some (cT kk kf f ie sz ((k,t)::H) m)) (hm:dh m k=true) (hh:hlk H k=none) (hH:hfr t H=true) (ht:O t=some (.row sz ie (r.map f))) (hd:t<inBase) :
  Wk cx Z O (eY t Z) (upd (upd (cM t O) s (some (cT kk kf f ie sz H (ga m k r)))) t (some (.row sz ie []))):=by
 intro E a w h;have hn:=mkeys_nodup (h.core.objs s _ hs);obtain⟨J,h1,h2⟩:=h.core.unfocus (i:=iU (eu kf m) (kf k)) hs (by rw[mcell_get hm];simp[fA,hlk]) ht hd;have he:ufS s t (iU (eu kf m) (kf k)) (.map kk (eu kf m)) ie sz (m.map (fA f ((k,t)::H))) (r.map f) O=upd (upd (cM t O) s (some (cT kk kf f ie sz H (ga m k r)))) t (some (.row sz ie [])):=by grind[ufS,mcell_back,cT,mkeys_set]
 rw[he] at h1 h2;exact⟨J,h1,λt=>h2 _ _ (h.slots t),h.defers,h.room⟩
theorem Wk.unfMs [KeyF kf] (s t t' d z n:Nat) (k:κ) (r:List I) (hs:O s=some (mNestR kk kf f ie sz ((k,t)::H) m k (.sub t' z n))) (hm:dh m k=true) (hh:hlk H k=none) (hH:hfr d ((k,t)::H)=true) (ht:O t'=some (.row sz ie (r.map f))) (hn:n<=r.length) (hd:d<inBase) (htd:t'≠d) (hsd:s≠d) :
  Wk cx Z O (eY d Z) (upd (upd (cM d (drop (some t') O)) s (some (cT kk kf f ie sz H (ga m k (r.take n))))) d (some (.row sz ie []))):=by
 intro E a w h;obtain⟨hv,g1,g2,h1,h2,h3⟩:=h.core.cut ht (k:=n) (by simpa using hn) hd;have hst:s≠t':=λe=>by rw[e,ht] at hs;cases hs
 have hf:=hH;simp only[hfr,Bool.and_eq_true,bne_iff_ne] at hf;have hw:((m.map (fA f ((k,t)::H))).set (iU (eu kf m) (kf k)) (.sub t' z n)).map (NE.wipe d)=(m.map (fA f ((k,t)::H))).set (iU (eu kf m) (kf k)) (.sub t' z n):=by
  rw[List.map_set,mcells_wipe d hH]
  congr 1
  show (if t'=d then NE.dead else NE.sub t' z n)=_;rw[if_neg htd]
 have hs1:sN t' d n sz ie (r.map f) O s=some (mNestR kk kf f ie sz ((k,t)::H) m k (.sub t' z n)):=by unfold sN;rw[bz _ _ hsd];simp only[cM,drop];rw[if_neg (λe=>hst (Option.some.inj e).symm),hs];grind[mNestR,Ob.wipe]
 have hpl:iU (eu kf m) (kf k)<(m.map (fA f ((k,t)::H))).length:=by grind[mpos_lt,eu]
 obtain⟨out,ivs,cs,hp,hnd,hsp,hns⟩:=h1.objs s _ hs1;have hkn:(eu kf m).Nodup:=by obtain⟨_,_,_,_,_,_,_,_,_,_,_,_,_,h,_⟩:=hsp;exact h
 obtain⟨c,iv,hc,hiv,hx,rfl⟩:=oJ hns (List.getElem?_set_self hpl);have hcv:c=hv:=h3 _ _ z c (bz _ _ htd) hx;obtain⟨J,e1,e2,e3,e4⟩:=h1.renest (els':=((m.map (fA f ((k,t)::H))).set (iU (eu kf m) (kf k)) (.sub t' z n)).set (iU (eu kf m) (kf k)) (.own d)) (ivs':=ivs) hs1 hp (by rw[List.length_set];exact hsp) (List.Sublist.refl _) λJ F' hv' hk=>by have:=oq (i:=iU (eu kf m) (kf k)) (x:=.own d) (c:=c) (iv:=undef) (ou (λt=>(hv' t).hd) (k5 hk (λ_ _ _ _=>rfl) hns)) ⟨by rw[(hv' d).hd,upd_same,g1,hcv],by rw[hcv];exact g2,rfl⟩;simp_all[i6]
 have hd2:upd (sN t' d n sz ie (r.map f) O) s (some (.nest (.map kk (eu kf m)) ie sz (((m.map (fA f ((k,t)::H))).set (iU (eu kf m) (kf k)) (.sub t' z n)).set (iU (eu kf m) (kf k)) (.own d)))) d=some (.row sz ie ((r.map f).take n)):=by rw[bz _ _ (Ne.symm hsd)];unfold sN;rw[upd_same]
 obtain⟨E',q1,q2⟩:=e3.unfocus (i:=iU (eu kf m) (kf k)) (upd_same _ _ _) (List.getElem?_set_self (by simp_all)) hd2 hd;have hmc:(m.map (fA f ((k,d)::(k,t)::H)))=m.map (fA f ((k,d)::H)):=List.map_congr_left λy _=>by simp_all[fA,hlk]
 have he:ufS s d (iU (eu kf m) (kf k)) (.map kk (eu kf m)) ie sz (((m.map (fA f ((k,t)::H))).set (iU (eu kf m) (kf k)) (.sub t' z n)).set (iU (eu kf m) (kf k)) (.own d)) ((r.map f).take n) (upd (sN t' d n sz ie (r.map f) O) s (some (.nest (.map kk (eu kf m)) ie sz (((m.map (fA f ((k,t)::H))).set (iU (eu kf m) (kf k)) (.sub t' z n)).set (iU (eu kf m) (kf k)) (.own d))))) =
   upd (upd (cM d (drop (some t') O)) s (some (cT kk kf f ie sz H (ga m k (r.take n))))) d (some (.row sz ie [])):=by
  unfold ufS;rw[List.set_set,mcell_set hkn hm,hmc,<- List.map_take,mcell_back hkn hm hh hf.2];funext u;by_cases hud:u=d;{simp_all}
  ·rw[bz _ _ hud,bz _ _ hud];by_cases hus:u=s;{simp_all[cT,mkeys_set]}
   ·rw[bz _ _ hus,bz _ _ hus];simp only[cM];rw[bz _ _ hus];unfold sN;rw[bz _ _ hud];simp only[cM];cases drop (some t') O u with
    |none=>rfl|some o=>
     simp only[Option.bind_some];cases ho:o.wipe d with
     |none=>rfl|some o'=>exact Ob.wipe_idem ho
 rw[he] at q1 q2;refine⟨E',q1,λu=>?_,h.defers,h.room⟩;have:=q2 _ _ (e4 _ _ (h2 _ _ (h.slots u)));rwa [V.wipe_idem] at this
end
section
variable {κ I:Type} [DecidableEq κ] {kk:KK} {kf:κ->Key} {f:I->Ak} {ie:TypeId} {sz:Nat} {H:List (κ×Nat)} {m:List (κ×List I)}
theorem hlk_nil (k:κ):hlk [] k=none:=by simp[hlk]
theorem hlk_hd (k:κ) (t:Nat):hlk ((k,t)::H) k=some t:=by simp[hlk]
theorem hlk_ne (k k':κ) (t:Nat) (h:¬ k'=k):hlk ((k',t)::H) k=hlk H k:=if_neg h
omit [DecidableEq κ] in
theorem hfr_nil (d:Nat):hfr d ([]:List (κ×Nat))=true:=by simp[hfr]
omit [DecidableEq κ] in
theorem hfr_cons (d:Nat) (k:κ) (t:Nat):hfr d ((k,t)::H)=(t != d&&hfr d H):=by simp[hfr]
omit [DecidableEq κ] in
theorem hren_nil (g:Aj):hren g ([]:List (κ×Nat))=[]:=by simp[hren]
omit [DecidableEq κ] in
theorem hren_cons (g:Aj) (k:κ) (t:Nat):hren g ((k,t)::H)=(k,g t)::hren g H:=by simp[hren]
theorem mN_wipe (d:Nat) (h:hfr d H=true):Ob.wipe d (cT kk kf f ie sz H m)=some (cT kk kf f ie sz H m):=by grind[cT,Ob.wipe,mcells_wipe]
theorem mN_ren (g:Aj):Ob.ren g (cT kk kf f ie sz H m)=cT kk kf f ie sz (hren g H) m:=by
 unfold cT;simp only[Ob.ren,List.map_map,Ob.nest.injEq,true_and];refine List.map_congr_left λy _=>?_;show NE.ren g (fA f H y)=fA f (hren g H) y;unfold fA;have:hlk (hren g H) y.1=(hlk H y.1).map g:=by
  induction H with
  |nil=>rfl|cons z H ih=>grind[hren,hlk]
 rw[this];cases hlk H y.1<;>rfl
theorem mN_inN (n:Nat):Ob.inN n (cT kk kf f ie sz [] m)=true:=by unfold cT;simp[Ob.inN,fA,hlk,NE.closed]
theorem mN_dropN1 (names:A5):dropN1 names (some (cT kk kf f ie sz H m))=some (cT kk kf f ie sz H m):=rfl
theorem mN_wk:Ob.wk (cT kk kf f ie sz H m) (cT kk kf f ie sz H m)↔True:=iff_of_true (Ob.wk_refl _) trivial
def msN (P:Prop) (x:Option NE) (kk:KK) (kf:κ->Key) (f:I->Ak) (ie:TypeId) (sz:Nat) (H:List (κ×Nat)) (m:List (κ×List I)) (k:κ) (Z:Env) (O:Sto) (s:Nat):Ae:=match x with|some x=>some (P,Z,upd O s (some (mNestR kk kf f ie sz H m k x)))|none=>none
theorem mN_ms {tb:Tb} {Z:Env} {O:Sto} [KeyF kf] (s:Nat) (kt:TypeId) (k:κ) (u:U):msO tb Z O s kt (kf k) u (some (cT kk kf f ie sz H m))=msN (tb.key kt=some kk/\(kf k).fits kk=true/\dh m k=true) (neC u) kk kf f ie sz H m k Z O s:=by unfold msO cT rMapN msN;simp only[mpos_lt];rfl
theorem msN_some {P:Prop} {Z:Env} {O:Sto} (s:Nat) (k:κ) (x:NE):msN P (some x) kk kf f ie sz H m k Z O s=some (P,Z,upd O s (some (mNestR kk kf f ie sz H m k x))):=rfl
theorem neC_own (t:Nat):neC (.one (.own t))=some (.own t):=rfl
theorem neC_sub (t z n:Nat):neC (.one (.sub t z 0 n))=some (.sub t z n):=rfl
theorem mN_lkO {tb:Tb} (kt e:TypeId) (key:Key) (ok:Bool):lkO tb kt e key ok (some (cT kk kf f ie sz H m))=none:=rfl
def lknD (tb:Tb) (d:TypeDesc) (key:Key) (ob:Ab):At:=match d,ob with|.map kt e,some (.nest (.map kk ks) _ _ els)=>qlkN (tb.key kt) (tb.ty e) kk ks els key|_,_=>none
def lknT (tb:Tb) (ti:Option TI) (key:Option Key) (ob:Ab):At:=match ti,key with|some ti,some key=>lknD tb ti.desc key ob|_,_=>none
theorem qlookN_map {tb:Tb} {O:Sto} (t:TypeId) (s:Nat) (k:V):qlookN tb O t (.u (.one (.map s))) k false=lknT tb (tb.ty t) (vkey k) (O s):=by unfold qlookN lknT;rcases tb.ty t with _|ti<;>rcases vkey k with _|key<;>try rfl
theorem lknT_some {tb:Tb} (ti:TI) (key:Key) (ob:Ab):lknT tb (some ti) (some key) ob=lknD tb ti.desc key ob:=rfl
theorem lknD_mN {tb:Tb} [KeyF kf] (kt e:TypeId) (k:κ) (t:Nat) (h:dh m k=true) (hh:hlk H k=some t) (hkt:tb.key kt=some kk) (hf:(kf k).fits kk=true) {te:TI} (hte:tb.ty e=some te) (hz:isNilU te.zu=true) :
  lknD tb (.map kt e) (kf k) (some (cT kk kf f ie sz H m))=some (.u (.one (.own t))):=by unfold lknD cT qlkN;simp only[hte,hkt,hf,hz,true_and,mpos_lt,h,if_true];unfold ownN;rw[mcell_get h];simp[fA,hh]
end
attribute [simp] hren_nil hren_cons dropN1_nest hlk_nil hlk_hd hfr_nil hfr_cons mN_wipe mN_ren mN_inN mN_dropN1 mN_wk mN_ms msN_some neC_own neC_sub mN_lkO qlookN_map lknT_some m5
