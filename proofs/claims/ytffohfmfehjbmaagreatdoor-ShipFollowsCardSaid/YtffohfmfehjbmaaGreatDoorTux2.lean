/- Plain laws: the program's boxes, homes, turned and moved patterns, and spaceships. -/
import Derived.Test.YtffohfmfehjbmaaGreatDoorTux1
namespace Go.Proofs.YtffohfmfehjbmaaGreatDoor
open Go.AM Go.Proofs
theorem pat_ok {p:List Cell} (h:Pat p):patOk p=true:=by
 unfold patOk
 have hl:=h.len
 have e:leB (aB p) 5000=true:=decide_eq_true (by unfold aB; omega)
 rw[e,Bool.true_and]
 have:anyB (badC p) p 0=false:=anyB_of_false fun j x hx=>by
  have hc:=h.cell x (List.mem_of_getElem? hx)
  have hpl:=(place_iff x.X x.Y).2 hc.1
  unfold badC
  have e1:ltB x.S 1=false:=decide_eq_false (by omega)
  have e2:geB x.S 8=false:=decide_eq_false (by omega)
  rw[hpl,e1,e2,Nat.zero_add]
  cases j with
  | zero=>rfl
  | succ j =>
   obtain⟨y,hy⟩:=getE_prev hx
   simp only[hy]
   have h1:=getE_lt hx
   obtain⟨_,e3⟩:=List.getElem?_eq_some_iff.1 hx
   obtain⟨_,e4⟩:=List.getElem?_eq_some_iff.1 hy
   have:=List.pairwise_iff_getElem.1 h.sorted j (j+1) (by omega) h1 (by omega)
   rw[e3,e4] at this
   rw[this]
   rfl
 rw[this]
 rfl
theorem highX_le:∀ (l:List Cell) (a:Int),a<=highX l a/\(∀ c∈l,c.X<=highX l a)/\(highX l a=a \/ ∃ c∈l,highX l a=c.X)
 | [],a=>⟨Int.le_refl _,fun c hc=>by simp at hc,.inl rfl⟩
 | c::l,a=>by
  obtain⟨h1,h2,h3⟩:=highX_le l (eE a c.X)
  have e:highX (c::l) a=highX l (eE a c.X):=rfl
  have i:=imax_is a c.X
  rw[e]
  refine⟨by omega,fun d hd=>?_,?_⟩
  ·rcases List.mem_cons.1 hd with rfl | hd
   ·omega
   ·exact h2 d hd
  ·rcases h3 with h3 | ⟨d,hd,h3⟩
   ·rcases i.1 with i1 | i1
    ·exact .inl (by omega)
    ·exact .inr ⟨c,by simp,by omega⟩
   ·exact .inr ⟨d,by simp[hd],h3⟩
theorem box_is {p:List Cell} (h:Pat p) (hne:p≠[]):∃ w hh,m_pattern_Box p=some (⟨corX p,corY p,w,hh⟩,true)/\(w<=10000->hh<=10000->Wd 10000 p):=by
 have hok:=pat_ok h
 have hl:=h.len
 cases p with
 | nil=>exact absurd rfl hne
 | cons c0 q =>
  obtain⟨hY,cl,hcl,hL⟩:=sorted_ends h
  have e1:eqB (aB (c0::q)) 0=false:=by
   unfold eqB aB
   simp
   omega
  have e2:idx (c0::q) 0=some c0:=rfl
  have hlen:aL .i64 (aB (c0::q)) 1=((q.length:Nat):Int):=by
   unfold aB
   rw[isub_in (by simp at hl ⊢; omega)]
   simp
  obtain⟨l1,l2,l3⟩:=lowX_le (c0::q) c0.X
  obtain⟨r1,r2,r3⟩:=highX_le (c0::q) c0.X
  have hc0:=h.cell c0 (by simp)
  have hccl:=h.cell cl (List.mem_of_getElem? hcl)
  have bl:-1048576<=lowX (c0::q) c0.X:=by
   rcases l3 with l3 | ⟨c,hc,l3⟩
   ·omega
   ·have:=h.cell c hc
    omega
  have br:highX (c0::q) c0.X<=1048576:=by
   rcases r3 with r3 | ⟨c,hc,r3⟩
   ·omega
   ·have:=h.cell c hc
    omega
  refine⟨highX (c0::q) c0.X - lowX (c0::q) c0.X+1,cl.Y - c0.Y+1,?_,fun hw hh c hc d hd=>?_⟩
  ·unfold m_pattern_Box
   rw[pat_eq (by omega),hok]
   simp only[some_bind,ba,Bool.not_true,cond_false,e1,e2]
   rw[boxP_loop hl,hlen,idx_nat,hcl]
   simp only[some_bind]
   rw[isub_in (by omega),iadd_in (by omega),isub_in (by omega),iadd_in (by omega)]
   rfl
  ·have:=l2 d hd
   have:=r2 c hc
   have:=hY d hd
   have:=hL c hc
   omega
theorem cor_in {p:List Cell} (h:Pat p) (hne:p≠[]):-1048576<=corX p/\corX p<=1048576/\-1048576<=corY p/\corY p<=1048576:=by
 obtain⟨_,⟨c,hc,e1⟩,d,hd,e2⟩:=cor_is hne h.sorted
 have h1:=h.cell c hc
 have h2:=h.cell d hd
 omega
theorem home_is {p:List Cell} (h:Pat p) (hne:p≠[]):m_algebra_Home p=some (homL p):=by
 have hl:=h.len
 obtain⟨w,hh,hb,_⟩:=box_is h hne
 have hci:=cor_in h hne
 have hm:mkL 24 0 (aB p) (⟨0,0,0⟩:Cell)=some []:=by
  unfold mkL aB
  rw[if_pos (by omega)]
  rfl
 obtain⟨r,hr,rfl⟩:=loop_iv (b:=b_algebra_Home_1 p (⟨corX p,corY p,w,hh⟩,true)) (n:=p.length) (s:=(0,[])) (fun i s=>s=((i:Int),shL (-corX p) (-corY p) (p.take i))) (fun r=>r=homL p) (by omega) rfl
  (fun i s hi e=>by
   subst e
   have hx:p[i]?=some p[i]:=List.getElem?_eq_getElem hi
   have hc:=(h.cell _ (List.getElem_mem hi)).1
   refine .inl ⟨_,?_,rfl⟩
   unfold b_algebra_Home_1
   dsimp only
   rw[ltB_nat,decide_eq_true hi,cond_true,idx_nat,hx,up_nat (by omega)]
   simp only[some_bind]
   rw[isub_in (by omega),isub_in (by omega),app_in (by unfold shL; rw[List.length_map,List.length_take]; omega)]
   simp only[some_bind]
   rw[List.take_add_one,hx,Option.toList_some]
   unfold shL
   rw[List.map_append]
   rfl)
  (fun s e=>by
   subst e
   refine⟨_,?_,rfl⟩
   unfold b_algebra_Home_1
   dsimp only
   rw[ltB_nat,decide_eq_false (Nat.lt_irrefl _),List.take_length]
   rfl)
 unfold m_algebra_Home
 rw[hb,pat_eq (by omega),pat_ok h]
 simp only[some_bind,ba,Bool.not_true,cond_false,hm,hr]
theorem turn_is {p:List Cell} (h:Pat p) {k:Nat} (hk:k < 8):m_algebra_Turn (k:Int) p=some (tnL k p,0):=by
 have hl:=h.len
 have hm:mkL 24 0 (aB p) (⟨0,0,0⟩:Cell)=some []:=by
  unfold mkL aB
  rw[if_pos (by omega)]
  rfl
 obtain⟨r,hr,rfl⟩:=loop_iv (b:=b_algebra_Turn_1 (k:Int) p) (n:=p.length) (s:=(0,[])) (fun i s=>s=((i:Int),(p.take i).map (turnC k))) (fun r=>r=p.map (turnC k)) (by omega) rfl
  (fun i s hi e=>by
   subst e
   have hx:p[i]?=some p[i]:=List.getElem?_eq_getElem hi
   have hc:=(h.cell _ (List.getElem_mem hi)).1
   refine .inl ⟨_,?_,rfl⟩
   unfold b_algebra_Turn_1
   dsimp only
   rw[ltB_nat,decide_eq_true hi,cond_true,idx_nat,hx,up_nat (by omega)]
   simp only[some_bind]
   rw[apply_eq (p:=⟨p[i].X,p[i].Y⟩) ⟨by dsimp only; omega,by dsimp only; omega⟩ hk]
   simp only[some_bind]
   rw[app_in (by rw[List.length_map,List.length_take]; omega)]
   simp only[some_bind]
   rw[List.take_add_one,hx,Option.toList_some,List.map_append]
   rfl)
  (fun s e=>by
   subst e
   refine⟨_,?_,rfl⟩
   unfold b_algebra_Turn_1
   dsimp only
   rw[ltB_nat,decide_eq_false (Nat.lt_irrefl _),List.take_length]
   rfl)
 have hsort:m_slices_SortFunc_api_Pattern_api_Cell_o_algebra_order (p.map (turnC k))=some (tnL k p):=sort_eq (tn_dist k h.sorted) (by rw[List.length_map]; omega)
 unfold m_algebra_Turn
 rw[pat_eq (by omega),pat_ok h]
 simp only[some_bind,ba,Bool.not_true,cond_false,hm,hr,hsort]
def Nr (x:Int):Prop:=-2097152<=x/\x<=2097152
theorem shiftA {p:List Cell} (h:Pat p) (dx dy:Int):m_pattern_Shift p dx dy=some ([],5) \/ (InR (shL dx dy p)/\(Nr dx/\Nr dy)/\m_pattern_Shift p dx dy=some (shL dx dy p,0)):=by
 have hl:=h.len
 by_cases hd:Nr dx/\Nr dy
 ·rcases shift_eq (pat_ok h) hd.1 hd.2 with ⟨h1,h2⟩ | h2
  ·exact .inr ⟨h1,hd,h2⟩
  ·exact .inl h2
 ·left
  have a1:=imax_is dx dy
  have a2:=imin_is dx dy
  unfold m_pattern_Shift
  rw[pat_eq (by omega),pat_ok h]
  simp only[some_bind,ba,Bool.not_true,cond_false,bif_some,bif_some_t]
  have e:(gtB (eE dx dy) 2097152 || ltB (ez dx dy) (-2097152))=true:=by
   unfold gtB ltB
   simp only[Bool.or_eq_true,decide_eq_true_eq]
   unfold Nr at hd
   omega
  rw[e]
  rfl
theorem findA_64 {t:Tree} {p:List Cell} {most:Int} (h:(findA t p most).2.1=true):most<=64:=by
 unfold findA at h
 cases hn:neB (fitE t p) 0 with
 | true=>rw[hn] at h; cases h
 | false =>
  rw[hn] at h
  cases hm:!(decide (1<=most) && decide (most<=64)) with
  | true=>rw[hm] at h; cases h
  | false =>
   simp only[Bool.not_eq_false',Bool.and_eq_true,decide_eq_true_eq] at hm
   exact hm.2
theorem hasP_is {t:Tree} {p:List Cell} (hs:Sz t) (hp:p.length < 1099511627776) (m:Motion):∃ h,m_period_Has t p m=some h/\(h.1=true->∃ P,Per t p m P/\P<=64):=by
 unfold m_period_Has
 rw[find_eq hs (by omega)]
 simp only[some_bind,bif_some]
 refine⟨_,rfl,fun h=>?_⟩
 dsimp only at h
 cases h1:(findA t p m.Period).2.1 with
 | false=>rw[h1] at h; cases h
 | true =>
  have he:(findA t p m.Period).2.2=0:=by
   apply Classical.byContradiction
   intro h0
   rw[findA_err h0] at h1
   cases h1
  rw[h1] at h
  obtain⟨P,hP,hle⟩:=findA_per hs he h1
  have h64:=findA_64 h1
  have hm:(findA t p m.Period).1=m:=by
   generalize (findA t p m.Period).1=x at h
   obtain⟨a,b,c⟩:=x
   obtain⟨a',b',c'⟩:=m
   simp only[cond_true,bW,eqB,Bool.and_eq_true,beq_iff_eq] at h
   obtain⟨rfl,rfl,rfl,_⟩:=h
   rfl
  rw[hm] at hP
  exact⟨P,hP,by omega⟩
theorem right_is {t:Tree} {s:Ship} (hs:Sz t) (hp:s.Cells.length < 1099511627776):∃ b,m_ship_Right t s=some b/\(b=true->∃ P,Per t s.Cells s.Motion P/\P<=64/\Wd 10000 s.Cells):=by
 obtain⟨h,hh1,hP⟩:=hasP_is hs hp s.Motion
 unfold m_ship_Right
 rw[hh1]
 cases hne:decide (s.Cells=[]) with
 | true =>
  have e:=of_decide_eq_true hne
  have:m_pattern_Box s.Cells=some (⟨0,0,0,0⟩,false):=by rw[e]; rfl
  rw[this]
  exact⟨false,rfl,fun h=>by cases h⟩
 | false =>
  have e:=of_decide_eq_false hne
  cases hok:patOk s.Cells with
  | false =>
   have:m_pattern_Box s.Cells=some (⟨0,0,0,0⟩,false):=by
    unfold m_pattern_Box
    rw[pat_eq hp,hok]
    cases eqB (aB s.Cells) 0<;>rfl
   rw[this]
   exact⟨false,rfl,fun h=>by cases h⟩
  | true =>
   obtain⟨w,hh,hb,hw⟩:=box_is (pat_of hok) e
   rw[hb]
   simp only[some_bind,ba,Bool.not_true,bif_some,bif_some_t,bif_some_f]
   refine⟨_,rfl,fun hb=>?_⟩
   cases h1:gtB w 10000 || gtB hh 10000 with
   | true=>rw[h1] at hb; cases hb
   | false =>
    rw[h1] at hb
    simp only[Bool.or_eq_false_iff] at h1
    have a1:=of_decide_eq_false h1.1
    have a2:=of_decide_eq_false h1.2
    simp only[Bool.or_self,cond_false,Bool.and_eq_true] at hb
    obtain⟨P,p1,p2⟩:=hP hb.1
    exact⟨P,p1,p2,hw (by omega) (by omega)⟩
end Go.Proofs.YtffohfmfehjbmaaGreatDoor
namespace Go.Proofs.YtffohfmfehjbmaaGreatDoor
open Go.AM Go.Proofs
structure Plc (t:Tree) (ships:List Ship) (x:Shot) (s:Ship) (P φ k:Nat):Prop where
 quiet:quietB t=true
 ship:idx ships x.Ship=some s
 s0:(ltB x.Ship 0 || geB x.Ship (aB ships))=false
 sym:x.Sym=(k:Int)
 k8:k < 8
 phase:x.Phase=(φ:Int)
 big:φ<=10000
 right:m_ship_Right t s=some true
 per:Per t s.Cells s.Motion P
 p64:P<=64
 wide:Wd 10000 s.Cells
section
variable {t:Tree} {ships:List Ship} {x:Shot} {s:Ship} {P φ k:Nat}
theorem Plc.rem (H:Plc t ships x s P φ k) (n:Nat):irem (n:Int) s.Motion.Period=some ((n % P:Nat):Int):=by
 have hpos:=H.per.pos
 rw[H.per.is]
 unfold irem
 rw[if_neg (by omega)]
 rfl
theorem Plc.run (H:Plc t ships x s P φ k) (hs:Sz t) (n:Nat):m_direct_Run t s.Cells ((n % P:Nat):Int)=some (phL t s.Cells P n,0):=by
 have hpos:=H.per.pos
 have hlt:n % P < P:=Nat.mod_lt _ (by omega)
 have h64:=H.p64
 rw[run_eq hs H.per.fit (n:=n % P) (by omega),(H.per.ph hs n).1]
def Placed (t:Tree) (ships:List Ship) (x:Shot) (s:Ship) (P φ k:Nat):Prop :=
 InR (shotL t s.Cells P k φ x.X x.Y)/\(Nr x.X/\Nr x.Y)/\m_ship_Place t ships x=some (shotL t s.Cells P k φ x.X x.Y,0)
theorem Plc.place (H:Plc t ships x s P φ k) (hs:Sz t):m_ship_Place t ships x=some ([],5) \/ Placed t ships x s P φ k:=by
 have hk:=H.k8
 have h64:=H.p64
 obtain⟨r1,r2,r3,r4⟩:=H.per.ph hs φ
 have hpat:=H.per.pat hs φ
 have hw:=H.per.wide hs H.wide φ
 have hrun:=H.run hs φ
 have hin1:InR (homL (phL t s.Cells P φ)):=hom_in r4 hpat.sorted hw (by omega)
 have hp1:Pat (homL (phL t s.Cells P φ)):=(hpat.lst.sh _ _).pat hin1
 have hne1:homL (phL t s.Cells P φ)≠[]:=shL_ne r4
 have hp2:Pat (tnL k (homL (phL t s.Cells P φ))):=(hp1.lst.tn hk).pat (tn_in hk hin1)
 have hh:=home_is hp2 (tn_ne hne1 k)
 have e:homL (tnL k (homL (phL t s.Cells P φ)))=homL (tnL k (phL t s.Cells P φ)):=by
  show homL (tnL k (shL _ _ (phL t s.Cells P φ)))=_
  rw[tn_sh hpat.lst hk,hom_sh]
 rw[e] at hh
 have hp3:=H.per.tn hs φ hk
 have hin2:InR (homL (tnL k (phL t s.Cells P φ))):=hom_in (tn_ne r4 k) hp3.sorted (hw.tn hk) (by omega)
 have hp4:Pat (homL (tnL k (phL t s.Cells P φ))):=(hp3.lst.sh _ _).pat hin2
 have hph:m_ship_Phase t s x.Phase=some (homL (phL t s.Cells P φ),0):=by
  have hbig:=H.big
  unfold m_ship_Phase
  rw[quiet_eq hs,H.quiet,H.right,H.phase,H.rem]
  have e1:ltB (φ:Int) 0=false:=decide_eq_false (by omega)
  have e2:gtB (φ:Int) 10000=false:=decide_eq_false (by omega)
  simp only[some_bind,ba,Bool.not_true,cond_false,e1,e2,hrun]
  rw[home_is hpat r4]
  rfl
 have hpl:m_ship_Place t ships x=(m_pattern_Shift (homL (tnL k (phL t s.Cells P φ))) x.X x.Y).bind fun y=>some (y.1,y.2):=by
  unfold m_ship_Place
  rw[quiet_eq hs,H.quiet,H.ship,H.sym]
  have e1:ltB (k:Int) 0=false:=decide_eq_false (by omega)
  have e2:gtB (k:Int) 7=false:=decide_eq_false (by omega)
  simp only[some_bind,ba,Bool.not_true,cond_false,bif_some,bif_some_t,e1,e2,H.s0]
  rw[hph]
  simp only[some_bind,show neB (0:Int) 0=false from rfl,cond_false]
  rw[turn_is hp1 hk]
  simp only[some_bind,show neB (0:Int) 0=false from rfl,cond_false]
  rw[hh]
  rfl
 rw[Placed,hpl]
 rcases shiftA hp4 x.X x.Y with h5 | ⟨h1,h2,h3⟩
 ·rw[h5]
  exact .inl rfl
 ·rw[h3]
  exact .inr ⟨h1,h2,rfl⟩
theorem phase_inv (hs:Sz t) (hp:s.Cells.length < 1099511627776) (n:Int):(∃ e,e≠0/\m_ship_Phase t s n=some ([],e)) \/ (0<=n/\n<=10000/\m_ship_Right t s=some true):=by
 obtain⟨b,hb,_⟩:=right_is hs hp
 unfold m_ship_Phase
 rw[quiet_eq hs,hb]
 cases quietB t with
 | false=>exact .inl ⟨11,by decide,rfl⟩
 | true =>
  simp only[some_bind,ba,Bool.not_true,cond_false,bif_some,bif_some_t]
  cases h1:ltB n 0 with
  | true=>exact .inl ⟨2,by decide,rfl⟩
  | false =>
   cases h2:gtB n 10000 with
   | true=>exact .inl ⟨2,by decide,rfl⟩
   | false =>
    cases b with
    | false=>exact .inl ⟨2,by decide,rfl⟩
    | true =>
     have a1:=of_decide_eq_false h1
     have a2:=of_decide_eq_false h2
     exact .inr ⟨by omega,by omega,rfl⟩
theorem place_inv (hs:Sz t) (hl:∀ s∈ships,s.Cells.length < 1099511627776) (x:Shot):(∃ e,e≠0/\m_ship_Place t ships x=some ([],e)) \/ ∃ s P φ k,Plc t ships x s P φ k:=by
 cases hq:quietB t with
 | false =>
  left
  refine⟨11,by decide,?_⟩
  unfold m_ship_Place
  rw[quiet_eq hs,hq]
  rfl
 | true =>
  cases h1:(ltB x.Ship 0 || geB x.Ship (aB ships)) with
  | true =>
   left
   refine⟨13,by decide,?_⟩
   unfold m_ship_Place
   rw[quiet_eq hs,hq]
   simp only[some_bind,ba,Bool.not_true,cond_false,bif_some,bif_some_t,h1]
   rfl
  | false =>
   cases h2:(ltB x.Sym 0 || gtB x.Sym 7) with
   | true =>
    left
    refine⟨2,by decide,?_⟩
    unfold m_ship_Place
    rw[quiet_eq hs,hq]
    simp only[some_bind,ba,Bool.not_true,cond_false,bif_some,bif_some_t,h1,h2]
    rfl
   | false =>
    have h1':=h1
    simp only[Bool.or_eq_false_iff] at h1' h2
    have a1:=of_decide_eq_false h1'.1
    have a2:=of_decide_eq_false h1'.2
    have a3:=of_decide_eq_false h2.1
    have a4:=of_decide_eq_false h2.2
    unfold aB at a2
    have hlt:x.Ship.toNat < ships.length:=by omega
    have hx:idx ships x.Ship=some ships[x.Ship.toNat]:=by rw[idx_int _ (by omega),List.getElem?_eq_getElem hlt]
    have hsl:=hl _ (List.getElem_mem hlt)
    rcases phase_inv hs hsl x.Phase with ⟨e,he,hph⟩ | ⟨b1,b2,b3⟩
    ·left
     refine⟨e,he,?_⟩
     unfold m_ship_Place
     rw[quiet_eq hs,hq]
     have e1:neB e 0=true:=by simpa [neB] using he
     simp only[some_bind,ba,Bool.not_true,cond_false,bif_some,bif_some_t,h1,h2.1,h2.2,hx,hph,e1,cond_true]
    ·right
     obtain⟨b,hb,hP⟩:=right_is hs hsl
     rw[b3] at hb
     cases hb
     obtain⟨P,p1,p2,p3⟩:=hP rfl
     exact⟨_,P,x.Phase.toNat,x.Sym.toNat,hq,hx,h1,by omega,by omega,by omega,by omega,b3,p1,p2,p3⟩
theorem mul_bd {q a:Int} (h0:0<=q) (h1:q<=30000) (h2:-128<=a/\a<=128):-3840000<=q*a/\q*a<=3840000:=by
 have e1:=Int.mul_le_mul_of_nonneg_left h2.2 h0
 have e2:=Int.mul_le_mul_of_nonneg_left h2.1 h0
 omega
theorem apK_bd {a b w:Int} (ha:-w<=a/\a<=w) (hb:-w<=b/\b<=w):∀ k:Nat,(-w<=(apK k ⟨a,b⟩).X/\(apK k ⟨a,b⟩).X<=w)/\-w<=(apK k ⟨a,b⟩).Y/\(apK k ⟨a,b⟩).Y<=w:=fun k=>by
 unfold apK
 split<;>dsimp only<;>omega
theorem Plc.motion (H:Plc t ships x s P φ k) (hs:Sz t):(-128<=s.Motion.DX/\s.Motion.DX<=128)/\-128<=s.Motion.DY/\s.Motion.DY<=128:=by
 have:=H.per.bound hs
 have:=H.p64
 omega
theorem Plc.turned (H:Plc t ships x s P φ k) (hs:Sz t):m_ship_Turned (k:Int) s.Motion=some ⟨s.Motion.Period,(apK k ⟨s.Motion.DX,s.Motion.DY⟩).X,(apK k ⟨s.Motion.DX,s.Motion.DY⟩).Y⟩:=by
 have hm:=H.motion hs
 unfold m_ship_Turned
 rw[apply_eq (p:=⟨s.Motion.DX,s.Motion.DY⟩) ⟨by dsimp only; omega,by dsimp only; omega⟩ H.k8]
 rfl
theorem Plc.corn (H:Plc t ships x s P φ k) (hs:Sz t) {n:Nat} (hn:n<=30000) :
  m_ship_corner t s (k:Int) (n:Int)=some (⟨corX (tgL t s.Cells s.Motion P k n),corY (tgL t s.Cells s.Motion P k n)⟩,0)/\(-8000000<=corX (tgL t s.Cells s.Motion P k n)/\corX (tgL t s.Cells s.Motion P k n)<=8000000)/\-8000000<=corY (tgL t s.Cells s.Motion P k n)/\corY (tgL t s.Cells s.Motion P k n)<=8000000:=by
 have hk:=H.k8
 have hpos:=H.per.pos
 have hm:=H.motion hs
 obtain⟨r1,r2,r3,r4⟩:=H.per.ph hs n
 have hp3:=H.per.tn hs n hk
 have hne:=tn_ne r4 k
 obtain⟨w,hh,hb,_⟩:=box_is hp3 hne
 have hci:=cor_in hp3 hne
 obtain⟨c1,c2⟩:=H.per.tg_cor hs n hk
 have hap:=apK_bd hm.1 hm.2 k
 have hq:n / P<=30000:=Nat.le_trans (Nat.div_le_self _ _) hn
 have q0:(0:Int)<=((n / P:Nat):Int):=Int.natCast_nonneg _
 have q1:((n / P:Nat):Int)<=30000:=Int.ofNat_le.2 hq
 have m1:=mul_bd q0 q1 hap.1
 have m2:=mul_bd q0 q1 hap.2
 have hquo:iquo .i64 (n:Int) s.Motion.Period=some ((n / P:Nat):Int):=by
  rw[H.per.is]
  unfold iquo
  rw[if_neg (by omega),show ((n:Int)).tdiv (P:Int)=((n / P:Nat):Int) from rfl,i64_in ⟨Int.le_trans (by decide) q0,Int.le_trans q1 (by decide)⟩]
 refine⟨?_,by omega,by omega⟩
 unfold m_ship_corner
 rw[H.rem,H.turned hs,hquo]
 simp only[some_bind]
 rw[H.run hs]
 simp only[some_bind,show neB (0:Int) 0=false from rfl,cond_false]
 rw[turn_is (H.per.pat hs n) hk]
 simp only[some_bind,show neB (0:Int) 0=false from rfl,cond_false]
 rw[hb]
 simp only[some_bind]
 rw[imul_in (by omega),imul_in (by omega),iadd_in (by omega),iadd_in (by omega),c1,c2]
def ltr (t:Tree) (x:Shot) (s:Ship) (P φ k N:Nat):Shot:=⟨x.Ship,(((φ+N) % P:Nat):Int),x.Sym,x.X+corX (tgL t s.Cells s.Motion P k (φ+N)) - corX (tgL t s.Cells s.Motion P k φ),x.Y+corY (tgL t s.Cells s.Motion P k (φ+N)) - corY (tgL t s.Cells s.Motion P k φ)⟩
theorem Plc.lat (H:Plc t ships x s P φ k) (N:Nat):Plc t ships (ltr t x s P φ k N) s P ((φ+N) % P) k:=by
 have hpos:=H.per.pos
 have h64:=H.p64
 have hlt:(φ+N) % P < P:=Nat.mod_lt _ (by omega)
 exact⟨H.quiet,H.ship,H.s0,H.sym,H.k8,rfl,by omega,H.right,H.per,H.p64,H.wide⟩
theorem quiet_tree (h:quietB t=true):treeOk t=true:=by
 unfold quietB at h
 simp only[Bool.and_eq_true] at h
 exact h.1
theorem Plc.later {n L:Nat} {u:DD (L+1)} (H:Plc t ships x s P φ k) (hs:Sz t) (T:TD n L t u) (hcnt:cntOk n L) {N:Nat} (hN:N<=10000) (hp:Placed t ships x s P φ k) :
  (¬ Inv n L t u k/\m_ship_Later t ships x (N:Int)=some (⟨0,0,0,0,0⟩,11)) \/ (Inv n L t u k/\(m_ship_Later t ships x (N:Int)=some (⟨0,0,0,0,0⟩,5) \/ (Placed t ships (ltr t x s P φ k N) s P ((φ+N) % P) k/\m_ship_Later t ships x (N:Int)=some (ltr t x s P φ k N,0)))):=by
 have hbig:=H.big
 obtain⟨_,⟨g1,g2⟩,hpl⟩:=hp
 unfold Nr at g1 g2
 obtain⟨t',e,hturn,hor⟩:=turn_inv T hcnt H.k8
 have e1:ltB (N:Int) 0=false:=decide_eq_false (by omega)
 have e2:gtB (N:Int) 10000=false:=decide_eq_false (by omega)
 have z0:neB (0:Int) 0=false:=rfl
 have hunf:m_ship_Later t ships x (N:Int)=((bif neB e 0 then some true else (m_reduce_Equal t t').bind fun y2=>some (ba y2)).bind fun a1=>bif a1 then some (⟨0,0,0,0,0⟩,11) else
   ((m_ship_Place t ships (ltr t x s P φ k N)).bind fun y4=>bif neB y4.2 0 then some (⟨0,0,0,0,0⟩,y4.2) else some (ltr t x s P φ k N,0))):=by
  obtain⟨c1,c2,c3⟩:=H.corn hs (n:=φ) (by omega)
  obtain⟨d1,d2,d3⟩:=H.corn hs (n:=φ+N) (by omega)
  unfold m_ship_Later
  rw[hpl]
  simp only[some_bind,z0,cond_false,e1,e2]
  rw[H.sym,hturn]
  simp only[some_bind]
  congr 1
  funext a1
  cases a1 with
  | true=>rfl
  | false =>
   simp only[cond_false]
   rw[H.ship,H.phase,iadd_in (by omega),show (φ:Int)+(N:Int)=((φ+N:Nat):Int) by omega]
   simp only[some_bind]
   rw[c1,H.rem]
   simp only[some_bind,z0,cond_false]
   rw[d1]
   simp only[some_bind,z0,cond_false]
   rw[iadd_in (by omega),isub_in (by omega),iadd_in (by omega),isub_in (by omega)]
   unfold ltr
   rw[H.sym]
 rcases hor with ⟨hi,rfl,he,_⟩ | ⟨hi,h6⟩
 ·right
  refine⟨hi,?_⟩
  rw[hunf,he]
  simp only[z0,cond_false,some_bind,ba,Bool.not_true]
  rcases (H.lat N).place hs with h5 | h0
  ·left
   rw[h5]
   rfl
  ·right
   refine⟨h0,?_⟩
   rw[h0.2.2]
   rfl
 ·left
  refine⟨hi,?_⟩
  rw[hunf]
  rcases h6 with rfl | ⟨rfl,h6⟩
  ·rfl
  ·rw[h6]
   rfl
theorem later_err {n e:Int} (he:e≠0) (h:m_ship_Place t ships x=some ([],e)):m_ship_Later t ships x n=some (⟨0,0,0,0,0⟩,e):=by
 have e1:neB e 0=true:=by simpa [neB] using he
 unfold m_ship_Later
 rw[h]
 simp only[some_bind,e1,cond_true]
end
end Go.Proofs.YtffohfmfehjbmaaGreatDoor
namespace Go.Proofs.YtffohfmfehjbmaaGreatDoor
open Go.AM Go.Proofs
theorem small50L (t:Tree) (l:List Ship):∃ y,m_L50_small t l=some y/\(y=true->Sz t/\∀ s∈l,s.Cells.length<=40):=by
 unfold m_L50_small m_L12_Few
 simp only[bif_some,some_bind,bif_some_t]
 cases h1:gtB (aB t.Hood) 40 with
 | true=>exact⟨false,rfl,fun h=>by cases h⟩
 | false =>
  cases h2:gtB (aB t.Nodes) 400 with
  | true=>exact⟨false,rfl,fun h=>by cases h⟩
  | false =>
   have e1:=of_decide_eq_false h1
   have e2:=of_decide_eq_false h2
   unfold aB at e1 e2
   simp only[Bool.or_false,cond_false]
   rw[loop_any t.Nodes (fun _ n=>gtB (aB n.Next) 20) false (by omega) (fun i n hn=>by
    unfold b_L12_Few_1
    dsimp only
    rw[ltB_nat,decide_eq_true (getE_lt hn),cond_true,idx_nat,hn,up_nat (by have:=getE_lt hn; omega)]
    simp only[some_bind,bif_some]) (by
    unfold b_L12_Few_1
    dsimp only
    rw[ltB_nat,decide_eq_false (Nat.lt_irrefl _)]
    rfl)]
   cases ha:anyB (fun _ n=>gtB (aB n.Next) 20) t.Nodes 0 with
   | true=>exact⟨false,rfl,fun h=>by cases h⟩
   | false =>
    simp only[cond_false,some_bind,ba,Bool.not_true,Bool.false_or]
    cases h3:(gtB (aB t.Nodes) 100 || gtB (aB l) 6) with
    | true=>exact⟨false,rfl,fun h=>by cases h⟩
    | false =>
     simp only[Bool.or_eq_false_iff] at h3
     have e3:=of_decide_eq_false h3.2
     unfold aB at e3
     simp only[cond_false]
     rw[loop_any l (fun _ x=>gtB (aB x.Cells) 40 || (bif gtB x.Motion.Period 12 then leB x.Motion.Period 64 else false)) false (by omega) (fun i x hx=>by
      unfold b_L50_small_1
      dsimp only
      rw[ltB_nat,decide_eq_true (getE_lt hx),cond_true,idx_nat,hx,up_nat (by have:=getE_lt hx; omega)]
      simp only[some_bind,bif_some,bif_some_t]) (by
      unfold b_L50_small_1
      dsimp only
      rw[ltB_nat,decide_eq_false (Nat.lt_irrefl _)]
      rfl)]
     cases hb:anyB (fun _ x=>gtB (aB x.Cells) 40 || (bif gtB x.Motion.Period 12 then leB x.Motion.Period 64 else false)) l 0 with
     | true=>exact⟨false,rfl,fun h=>by cases h⟩
     | false =>
      refine⟨true,rfl,fun _=>⟨⟨by omega,by omega,fun n hn=>?_⟩,fun s hs=>?_⟩⟩
      ·obtain⟨j,hj⟩:=List.getElem?_of_mem hn
       have:=anyB_false ha j n hj
       have:=of_decide_eq_false this
       unfold aB at this
       omega
      ·obtain⟨j,hj⟩:=List.getElem?_of_mem hs
       have:=anyB_false hb j s hj
       simp only[Bool.or_eq_false_iff] at this
       have:=of_decide_eq_false this.1
       unfold aB at this
       omega
section
variable {t:Tree} {ships:List Ship} {x:Shot} {s:Ship} {P φ k:Nat}
theorem Plc.fit (H:Plc t ships x s P φ k) (hs:Sz t) (h:Placed t ships x s P φ k):fitE t (shotL t s.Cells P k φ x.X x.Y)=0/\(shotL t s.Cells P k φ x.X x.Y).length<=5000:=by
 have hp3:=H.per.tn hs φ H.k8
 have hl:=(hp3.lst.sh (-corX (tnL k (phL t s.Cells P φ))) (-corY (tnL k (phL t s.Cells P φ)))).sh x.X x.Y
 have hp:Pat (shotL t s.Cells P k φ x.X x.Y):=hl.pat h.1
 have hf:=fit_of H.per.fit
 refine⟨fitE_of ⟨hf.ok,hf.zero,hp,fun c hc=>?_⟩ H.quiet,hp.len⟩
 obtain⟨d,hd,rfl⟩:=List.mem_map.1 hc
 obtain⟨e,he,rfl⟩:=List.mem_map.1 hd
 obtain⟨f,hf',rfl⟩:=(tn_mem k e).1 he
 exact (fit_of (H.per.ph hs φ).2.1).small f hf'
theorem Plc.same (H:Plc t ships x s P φ k) (hs:Sz t) (N:Nat):shotL t s.Cells P k ((φ+N) % P) (ltr t x s P φ k N).X (ltr t x s P φ k N).Y=shL (x.X - corX (tgL t s.Cells s.Motion P k φ)) (x.Y - corY (tgL t s.Cells s.Motion P k φ)) (tgL t s.Cells s.Motion P k (φ+N)):=by
 rw[shot_mod,H.per.shot hs (φ+N) H.k8]
 congr 1<;>unfold ltr<;>dsimp only<;>omega
theorem Plc.go {n L:Nat} {u:DD (L+1)} (H:Plc t ships x s P φ k) (hs:Sz t) (T:TD n L t u) (hi:Inv n L t u k) (h:Placed t ships x s P φ k) {N:Nat} (hN:N<=10000) :
  m_direct_Run t (shotL t s.Cells P k φ x.X x.Y) (N:Int)=some ([],5) \/ m_direct_Run t (shotL t s.Cells P k φ x.X x.Y) (N:Int)=some (shotL t s.Cells P k ((φ+N) % P) (ltr t x s P φ k N).X (ltr t x s P φ k N).Y,0):=by
 obtain⟨hf,_⟩:=H.fit hs h
 rw[run_eq hs hf hN,H.same hs]
 rw[H.per.shot hs φ H.k8] at hf ⊢
 rcases H.per.run T hs H.k8 hi φ N _ _ hf with e | e
 ·exact .inl (by rw[e])
 ·exact .inr (by rw[e])
end
theorem rem_in {a m:Int} (h0:0<=a) (hm:0 < m):∃ k:Nat,irem a m=some (k:Int)/\(k:Int) < m:=by
 refine⟨(a.tmod m).toNat,?_,?_⟩
 ·unfold irem
  rw[if_neg (by omega)]
  have h2:=Int.tmod_nonneg (a:=a) m h0
  congr 1
  omega
 ·have h1:=Int.tmod_lt_of_pos a hm
  omega
end Go.Proofs.YtffohfmfehjbmaaGreatDoor
namespace Go.Proofs.YtffohfmfehjbmaaGreatDoor
open Go.AM Go.Proofs
theorem shipIn_eq (x y:Int):m_ship_in x y=some (decide (-1048576<=x/\x<=1048576/\-1048576<=y/\y<=1048576)):=by
 have h1:leB (eE x y) 1048576=(decide (x<=1048576) && decide (y<=1048576)):=by
  unfold leB eE
  rw[<- Bool.decide_and]
  split<;>exact decide_eq_decide.2 (by omega)
 have h2:geB (ez x y) (-1048576)=(decide (-1048576<=x) && decide (-1048576<=y)):=by
  unfold geB ez
  rw[<- Bool.decide_and]
  split<;>exact decide_eq_decide.2 (by omega)
 unfold m_ship_in
 rw[h1,h2]
 by_cases a1:x<=1048576<;>by_cases a2:y<=1048576<;>by_cases a3:-1048576<=x<;>by_cases a4:-1048576<=y<;>simp[a1,a2,a3,a4]
theorem and7 (k:Int):iand .i64 k 7=k % 8:=by
 unfold iand
 rw[show IntKind.i64.bits=64 from rfl,BitVec.toNat_and,show (BitVec.ofInt 64 7).toNat=2 ^ 3 - 1 from by decide,Nat.and_two_pow_sub_one_eq_mod,BitVec.toNat_ofInt]
 rw[i64_in (by omega)]
 omega
theorem turn_prog (k:Int) (p:Point):∃ x,aidx 8 g0R (k % 8)=some x/\m_symmetry_Apply k p=some ⟨aO .i64 (bP .i64 x.1 p.X) (bP .i64 x.2.1 p.Y),aO .i64 (bP .i64 x.2.2.1 p.X) (bP .i64 x.2.2.2 p.Y)⟩:=by
 unfold m_symmetry_Apply
 rw[and7]
 obtain h:k % 8=0 \/ k % 8=1 \/ k % 8=2 \/ k % 8=3 \/ k % 8=4 \/ k % 8=5 \/ k % 8=6 \/ k % 8=7:=by omega
 rcases h with h | h | h | h | h | h | h | h<;>rw[h]<;>exact⟨_,rfl,rfl⟩
end Go.Proofs.YtffohfmfehjbmaaGreatDoor
namespace Go.Proofs.YtffohfmfehjbmaaGreatDoor
open Go.AM Go.Proofs
def strm (x:Shot) (m:Motion) (gap:Int) (i:Nat):Shot:=⟨x.Ship,x.Phase,x.Sym,aL .i64 x.X (bP .i64 (bP .i64 (i:Int) gap) m.DX),aL .i64 x.Y (bP .i64 (bP .i64 (i:Int) gap) m.DY)⟩
theorem stream_is (x:Shot) (m:Motion) {count:Nat} (hc:count<=16) (gap:Int):∃ r,m_ship_Stream x m (count:Int) gap=some r/\(r.2=0->r.1=(List.range count).map (strm x m gap)):=by
 obtain⟨o,ho,hq⟩:=loop_iv (b:=b_ship_Stream_1 x m (count:Int) gap) (n:=count) (s:=(0,[])) (fun i s=>s=((i:Int),(List.range i).map (strm x m gap))) (fun o=>o=.inl ([],5) \/ o=.inr ((List.range count).map (strm x m gap))) (by omega) rfl
  (fun i s hi e=>by
   subst e
   obtain⟨c1,h1⟩:∃ c,m_ship_in x.X x.Y=some c:=⟨_,shipIn_eq _ _⟩
   obtain⟨c2,h2⟩:∃ c,m_ship_in (aL .i64 x.X (bP .i64 (bP .i64 (i:Int) gap) m.DX)) (aL .i64 x.Y (bP .i64 (bP .i64 (i:Int) gap) m.DY))=some c:=⟨_,shipIn_eq _ _⟩
   have ha:∀ s:Shot,appL 40 ((List.range i).map (strm x m gap)) [s]=some ((List.range i).map (strm x m gap)++[s]):=fun s=>by
    unfold appL
    rw[if_pos ⟨by decide,by simp; omega⟩]
   obtain⟨w,hw⟩:∃ w,b_ship_Stream_1 x m (count:Int) gap ((i:Int),(List.range i).map (strm x m gap))=w:=⟨_,rfl⟩
   rw[hw]
   unfold b_ship_Stream_1 at hw
   simp only[h1,h2,some_bind,ha] at hw
   rw[show ltB (i:Int) (count:Int)=true from decide_eq_true (by omega),up_nat (by omega)] at hw
   cases c1 with
   | false =>
    cases hw
    exact .inr ⟨_,rfl,.inl rfl⟩
   | true =>
    cases c2 with
    | false =>
     cases hw
     exact .inr ⟨_,rfl,.inl rfl⟩
    | true =>
     cases hw
     refine .inl ⟨_,rfl,?_⟩
     rw[List.range_succ,List.map_append]
     rfl)
  (fun s e=>by
   subst e
   refine⟨.inr ((List.range count).map (strm x m gap)),?_,.inr rfl⟩
   unfold b_ship_Stream_1
   dsimp only
   rw[show ltB (count:Int) (count:Int)=false from decide_eq_false (by omega)]
   rfl)
 unfold m_ship_Stream
 rw[shipIn_eq]
 simp only[some_bind,bif_some,bif_some_t]
 obtain⟨c,hcc⟩:∃ c:Bool,c=(ltB m.Period 1 || (gtB m.Period 64 || (ba (decide (-1048576<=m.DX/\m.DX<=1048576/\-1048576<=m.DY/\m.DY<=1048576)) || (ltB (count:Int) 0 || (gtB (count:Int) 16 || (ltB gap 1 || gtB gap 1000)))))):=⟨_,rfl⟩
 rw[<- hcc]
 cases c with
 | true=>exact⟨_,rfl,fun h=>by cases h⟩
 | false =>
  simp only[cond_false]
  rw[ho]
  rcases hq with rfl | rfl
  ·exact⟨_,rfl,fun h=>by cases h⟩
  ·exact⟨_,rfl,fun _=>rfl⟩
theorem turnedT (k:Int) (m:Motion):∃ r,m_ship_Turned k m=some r:=by
 obtain⟨x,_,h⟩:=turn_prog k ⟨m.DX,m.DY⟩
 unfold m_ship_Turned
 rw[h]
 exact⟨_,rfl⟩
section
variable {t:Tree} {ships:List Ship} {x:Shot} {s:Ship} {P φ k:Nat}
theorem Plc.moved (H:Plc t ships x s P φ k) (a b:Int):Plc t ships ⟨x.Ship,x.Phase,x.Sym,a,b⟩ s P φ k:=⟨H.quiet,H.ship,H.s0,H.sym,H.k8,H.phase,H.big,H.right,H.per,H.p64,H.wide⟩
theorem Plc.follow (H:Plc t ships x s P φ k) (hs:Sz t) (q:Nat) {a b:Int} (ha:a=x.X - (q:Int)*(apK k ⟨s.Motion.DX,s.Motion.DY⟩).X) (hb:b=x.Y - (q:Int)*(apK k ⟨s.Motion.DX,s.Motion.DY⟩).Y) :
  shotL t s.Cells P k ((φ+P*q) % P) (ltr t ⟨x.Ship,x.Phase,x.Sym,a,b⟩ s P φ k (P*q)).X (ltr t ⟨x.Ship,x.Phase,x.Sym,a,b⟩ s P φ k (P*q)).Y=shotL t s.Cells P k φ x.X x.Y:=by
 obtain⟨a1,a2⟩:=H.per.tg_next hs φ q H.k8
 have e1:shotL t s.Cells P k ((φ+P*q) % P) x.X x.Y=shotL t s.Cells P k φ x.X x.Y:=by
  rw[Nat.add_mul_mod_self_left,shot_mod]
 rw[<- e1]
 unfold ltr
 dsimp only
 congr 1<;>omega
end
theorem follows_true (t:Tree) (cv:Ah) (n:Int×Int) (hn:(0<=n.1/\n.1<=255)/\(0<=n.2/\n.2<=255)):m_L50_ShipFollows t cv n=some true:=by
 unfold m_L50_ShipFollows
 obtain⟨C,hC,hC2⟩:=rem_in hn.1.1 (show (0:Int) < 6 by decide)
 obtain⟨G,hG,hG2⟩:=rem_in hn.2.1 (show (0:Int) < 20 by decide)
 obtain⟨y,hy,hsm⟩:=small50L t cv.Ships
 have hc1:bI .i64 (C:Int)=(C:Int):=i64_in (by omega)
 have hc2:aO .i64 1 (bI .i64 (G:Int))=((G+1:Nat):Int):=by
  have:bI .i64 (G:Int)=(G:Int):=i64_in (by omega)
  rw[this,iadd_in (by omega)]
  omega
 rw[hC,hG,hy,awake50]
 simp only[some_bind,bif_some,bif_some_t]
 cases hc:(ba y || (gtB (aB t.Nodes) 60 || (gtB (aB t.Hood) 9 || (ltB cv.Shot.Ship 0 || geB cv.Shot.Ship (aB cv.Ships))))) with
 | true=>rfl
 | false =>
  simp only[Bool.or_eq_false_iff] at hc
  obtain⟨c1,c2,c3,c4,c5⟩:=hc
  obtain⟨hs,hl⟩:=hsm (by cases y; cases c1; rfl)
  have c3':=of_decide_eq_false c3
  have c4':=of_decide_eq_false c4
  have c5':=of_decide_eq_false c5
  unfold aB at c3' c5'
  have z0:neB (0:Int) 0=false:=rfl
  have hlt:cv.Shot.Ship.toNat < cv.Ships.length:=by omega
  have hidx:idx cv.Ships cv.Shot.Ship=some cv.Ships[cv.Shot.Ship.toNat]:=by rw[idx_int _ (by omega),List.getElem?_eq_getElem hlt]
  generalize cv.Ships[cv.Shot.Ship.toNat]=sh at hidx
  simp only[cond_false]
  rw[hidx,hc1,hc2]
  simp only[some_bind]
  rcases place_inv hs (fun s hs=>by have:=hl s hs; omega) cv.Shot with ⟨e,he,hp⟩ | ⟨s,P,φ,k,H⟩
  ·have e1:neB e 0=true:=by simpa [neB] using he
   obtain⟨m,hm⟩:=turnedT cv.Shot.Sym sh.Motion
   obtain⟨r,hr,_⟩:=stream_is cv.Shot m (by omega:C<=16) ((G+1:Nat):Int)
   rw[hp,hm]
   simp only[some_bind,hr,e1,Bool.true_or,cond_true]
  ·obtain rfl:sh=s:=by
    have:=H.ship
    rw[hidx] at this
    exact Option.some.inj this
   have hmt:=H.turned hs
   rw[<- H.sym] at hmt
   obtain⟨r,hr,hr0⟩:=stream_is cv.Shot ⟨sh.Motion.Period,(apK k ⟨sh.Motion.DX,sh.Motion.DY⟩).X,(apK k ⟨sh.Motion.DX,sh.Motion.DY⟩).Y⟩ (by omega:C<=16) ((G+1:Nat):Int)
   rw[hmt]
   simp only[some_bind]
   rw[hr]
   simp only[some_bind]
   rcases H.place hs with h5 | hpl
   ·rw[h5]
    rfl
   ·rw[hpl.2.2]
    simp only[some_bind,z0,Bool.false_or]
    cases hr2:neB r.2 0 with
    | true=>rfl
    | false =>
     have hr3:=hr0 (by simpa [neB] using hr2)
     obtain⟨l,e2⟩:=r
     dsimp only at hr3 hr2
     subst hr3
     have hlen:neB (aB ((List.range C).map (strm cv.Shot ⟨sh.Motion.Period,(apK k ⟨sh.Motion.DX,sh.Motion.DY⟩).X,(apK k ⟨sh.Motion.DX,sh.Motion.DY⟩).Y⟩ ((G+1:Nat):Int)))) (C:Int)=false:=by simp[neB,aB]
     simp only[cond_false,hlen]
     obtain⟨n',L,u,T⟩:=td_of (quiet_tree H.quiet)
     have hcnt:cntOk n' L:=cnt9 T.tok.n8 (by have:=T.hL; omega)
     have hlen5:=(H.fit hs hpl).2
     have hmo:=H.motion hs
     have hap:=apK_bd hmo.1 hmo.2 k
     have hP64:=H.p64
     obtain⟨⟨nx1,nx2⟩,ny1,ny2⟩:=hpl.2.1
     obtain⟨o,ho,hq⟩:=loop_iv (b:=b_L50_ShipFollows_1 t cv (G:Int) sh (shotL t sh.Cells P k φ cv.Shot.X cv.Shot.Y,0) ((List.range C).map (strm cv.Shot ⟨sh.Motion.Period,(apK k ⟨sh.Motion.DX,sh.Motion.DY⟩).X,(apK k ⟨sh.Motion.DX,sh.Motion.DY⟩).Y⟩ ((G+1:Nat):Int)),e2)) (n:=C) (s:=0) (fun i st=>st=(i:Int)) (fun o=>o=.inl true \/ o=.inr ()) (by omega) rfl
      (fun i st hi e=>by
       subst e
       obtain⟨w,hw⟩:∃ w,b_L50_ShipFollows_1 t cv (G:Int) sh (shotL t sh.Cells P k φ cv.Shot.X cv.Shot.Y,0) ((List.range C).map (strm cv.Shot ⟨sh.Motion.Period,(apK k ⟨sh.Motion.DX,sh.Motion.DY⟩).X,(apK k ⟨sh.Motion.DX,sh.Motion.DY⟩).Y⟩ ((G+1:Nat):Int)),e2) (i:Int)=w:=⟨_,rfl⟩
       rw[hw]
       have hx:((List.range C).map (strm cv.Shot ⟨sh.Motion.Period,(apK k ⟨sh.Motion.DX,sh.Motion.DY⟩).X,(apK k ⟨sh.Motion.DX,sh.Motion.DY⟩).Y⟩ ((G+1:Nat):Int)))[i]?=some (strm cv.Shot ⟨sh.Motion.Period,(apK k ⟨sh.Motion.DX,sh.Motion.DY⟩).X,(apK k ⟨sh.Motion.DX,sh.Motion.DY⟩).Y⟩ ((G+1:Nat):Int) i):=by
        rw[List.getElem?_map,List.getElem?_range hi]
        rfl
       have hiG:i*(G+1)<=100:=Nat.le_trans (Nat.mul_le_mul (show i<=5 by omega) (show G+1<=20 by omega)) (by decide)
       have hmul1:bP .i64 (i:Int) ((G+1:Nat):Int)=((i*(G+1):Nat):Int):=by
        rw[imul_in (by rw[<- Int.natCast_mul]; omega),Int.natCast_mul]
       have hPq:P*(i*(G+1))<=6400:=Nat.le_trans (Nat.mul_le_mul hP64 hiG) (by decide)
       have hmul2:bP .i64 ((i*(G+1):Nat):Int) sh.Motion.Period=((P*(i*(G+1)):Nat):Int):=by
        rw[H.per.is,imul_in (by rw[<- Int.natCast_mul,Nat.mul_comm]; omega),<- Int.natCast_mul,Nat.mul_comm]
       generalize hq:i*(G+1)=q at hmul1 hmul2 hPq hiG
       have b1:=mul_bd (q:=(q:Int)) (by omega) (by omega) hap.1
       have b2:=mul_bd (q:=(q:Int)) (by omega) (by omega) hap.2
       have hst:strm cv.Shot ⟨sh.Motion.Period,(apK k ⟨sh.Motion.DX,sh.Motion.DY⟩).X,(apK k ⟨sh.Motion.DX,sh.Motion.DY⟩).Y⟩ ((G+1:Nat):Int) i=⟨cv.Shot.Ship,cv.Shot.Phase,cv.Shot.Sym,cv.Shot.X - (q:Int)*(apK k ⟨sh.Motion.DX,sh.Motion.DY⟩).X,cv.Shot.Y - (q:Int)*(apK k ⟨sh.Motion.DX,sh.Motion.DY⟩).Y⟩:=by
        unfold strm
        rw[hmul1]
        dsimp only
        rw[imul_in (by omega),imul_in (by omega),isub_in (by omega),isub_in (by omega)]
       have Hm:=H.moved (cv.Shot.X - (q:Int)*(apK k ⟨sh.Motion.DX,sh.Motion.DY⟩).X) (cv.Shot.Y - (q:Int)*(apK k ⟨sh.Motion.DX,sh.Motion.DY⟩).Y)
       unfold b_L50_ShipFollows_1 at hw
       dsimp only at hw
       rw[show ltB (i:Int) (aB ((List.range C).map (strm cv.Shot ⟨sh.Motion.Period,(apK k ⟨sh.Motion.DX,sh.Motion.DY⟩).X,(apK k ⟨sh.Motion.DX,sh.Motion.DY⟩).Y⟩ ((G+1:Nat):Int))))=true from decide_eq_true (by simp[aB]; omega),idx_nat,hx,hst,hc2,hmul1,hmul2,up_nat (by omega),awake50] at hw
       simp only[cond_true,some_bind,bif_some] at hw
       rcases Hm.place hs with m5 | mpl
       ·rw[later_err (by decide:(5:Int)≠0) m5] at hw
        exact .inr ⟨_,hw.symm,.inl rfl⟩
       ·rcases Hm.later hs T hcnt (N:=P*q) (by omega) mpl with ⟨_,f1⟩ | ⟨_,f1 | ⟨mpl2,f1⟩⟩
        ·rw[f1] at hw
         exact .inr ⟨_,hw.symm,.inl rfl⟩
        ·rw[f1] at hw
         exact .inr ⟨_,hw.symm,.inl rfl⟩
        ·rw[f1] at hw
         simp only[some_bind,z0,cond_false] at hw
         rw[mpl2.2.2,H.follow hs q rfl rfl] at hw
         simp only[some_bind,z0,cond_false] at hw
         rw[same_eq hlen5 hlen5,decide_eq_true rfl] at hw
         exact .inl ⟨_,hw.symm,rfl⟩)
      (fun st e=>by
       subst e
       refine⟨.inr (),?_,.inr rfl⟩
       unfold b_L50_ShipFollows_1
       dsimp only
       rw[show ltB (C:Int) (aB ((List.range C).map (strm cv.Shot ⟨sh.Motion.Period,(apK k ⟨sh.Motion.DX,sh.Motion.DY⟩).X,(apK k ⟨sh.Motion.DX,sh.Motion.DY⟩).Y⟩ ((G+1:Nat):Int))))=false from decide_eq_false (by simp[aB])]
       rfl)
     rw[ho]
     rcases hq with rfl | rfl<;>rfl
end Go.Proofs.YtffohfmfehjbmaaGreatDoor
