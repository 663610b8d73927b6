/- Plain laws: the reference's next generation. -/
import Derived.Test.YtnkmjlncmlmnbaaGreatDoorUcx1
namespace Go.Proofs.YtnkmjlncmlmnbaaGreatDoor
open Go.AM Go.Proofs
section
variable {n b:Nat} {t:Tree} {L:Nat} {u:DD (L+1)}
theorem atS_at (X Y:Int) (W H:Nat) (vals:List SV) (Hd:List Point) (x y:Int) {k:Nat} {d:Point} (h:Hd[k]?=some d):(inS X Y W H vals Hd x y)[k]?=some (atS X Y W H vals (x+d.X) (y+d.Y)):=by
 unfold inS
 rw[List.getElem?_map,h]
 rfl
theorem take_succ_map {α β:Type} (f:α->β) {l:List α} {k:Nat} {x:α} (h:l[k]?=some x):(l.take (k+1)).map f=(l.take k).map f++[f x]:=by
 rw[List.take_add_one,h,List.map_append]
 rfl
theorem fixR_loop {X Y:Int} {W H:Nat} {vals:List SV} {r i f:Int} {l:List (List Int)} {l1:List Bp} {m m1:Int} (Rt:RT n b t (ser (post (L+1) u []))) (R:RD n t.States t.Hood L u) (B:BX X Y W H) (hl:vals.length=W*H) (hv:∀ v∈vals,VOk n b v)
  (hr:0<=r/\r<=1000) (hm:0<=m/\m<=1000) (hm1:0<=m1/\m1<=1000) :
  bh (b_R45_next_o_2 t ⟨⟨X,Y,W,H⟩,vals.map rv⟩ r i f l l1 m m1) bm (0,t.States,t.Hood,ser (post (L+1) u []),[]) =
   some (t.States,t.Hood,trS t.Hood.length u (inS X Y W H vals t.Hood (X - r+m) (Y - r+m1)),(inS X Y W H vals t.Hood (X - r+m) (Y - r+m1)).map rv):=by
 have h25:=Rt.tok.h25
 have hb:=Rt.sb.b1
 have hpt:=(hood_pts R.hd).2.2
 obtain⟨c1,c2,c3,c4,c5,c6⟩:=id B
 obtain⟨I,hI⟩:∃ I,I=inS X Y W H vals t.Hood (X - r+m) (Y - r+m1):=⟨_,rfl⟩
 have hIl:I.length=t.Hood.length:=by rw[hI]; unfold inS; rw[List.length_map]
 have hIv:∀ v∈I,VOk n b v:=fun v hv'=>by
  rw[hI] at hv'
  unfold inS at hv'
  obtain⟨d,_,rfl⟩:=List.mem_map.1 hv'
  exact atS_ok (by have:=Rt.sb.n2; omega) hl hv _ _
 rw[<- hI]
 obtain⟨q,hq,rfl⟩:=loop_iv (b:=b_R45_next_o_2 t ⟨⟨X,Y,W,H⟩,vals.map rv⟩ r i f l l1 m m1) (n:=t.Hood.length) (s:=(0,t.States,t.Hood,ser (post (L+1) u []),[])) (fun k st=>st=((k:Int),t.States,t.Hood,ser (post (L+1) (fixI t.Hood.length I u k) []),(I.take k).map rv)) (fun q=>q=(t.States,t.Hood,trS t.Hood.length u I,I.map rv)) (by omega) (by simp[fixI])
  (fun k st hk e=>by
   subst e
   have hx:t.Hood[k]?=some t.Hood[k]:=List.getElem?_eq_getElem hk
   generalize t.Hood[k]=d at hx
   obtain⟨d1,d2,d3,d4⟩:=hpt d (List.mem_of_getElem? hx)
   have e1:I[k]?=some (atS X Y W H vals (X - r+m+d.X) (Y - r+m1+d.Y)):=by rw[hI]; exact atS_at _ _ _ _ _ _ _ _ hx
   have e2:I.getD k (0,[])=atS X Y W H vals (X - r+m+d.X) (Y - r+m1+d.Y):=by rw[List.getD_eq_getElem?_getD,e1]; rfl
   have hok:=hIv _ (List.mem_of_getElem? e1)
   have rd:=fixI_rd R hIl hIv hb k (by omega)
   refine .inl ⟨_,?_,rfl⟩
   unfold b_R45_next_o_2
   dsimp only
   rw[ltB_nat,decide_eq_true hk,cond_true,idx_nat,hx,up_nat (by omega)]
   simp only[some_bind]
   rw[isub_in (a:=X) (b:=r) (by omega),isub_in (a:=Y) (b:=r) (by omega),iadd_in (a:=X - r) (b:=m) (by omega),iadd_in (a:=Y - r) (b:=m1) (by omega),iadd_in (b:=d.X) (by omega),iadd_in (b:=d.Y) (by omega),atR B hl (by omega) (by omega)]
   simp only[some_bind]
   rw[appL_ok (by decide) (by decide) (by simp; omega)]
   simp only[some_bind]
   rw[take_succ_map rv e1,fixI,e2]
   generalize atS X Y W H vals (X - r+m+d.X) (Y - r+m1+d.Y)=w at hok
   cases he:isE w.2 with
   | false =>
    have hwl:=vok_len hok he
    rw[show eqB (bf (rv w).Vars) 0=false from by show eqB (bf w.2) 0=false; simp only[eqB,bf,beq_eq_false_iff_ne]; omega]
    rfl
   | true =>
    rw[show eqB (bf (rv w).Vars) 0=true from by show eqB (bf w.2) 0=true; rw[isE_true he]; rfl]
    simp only[cond_true]
    have hr':0<=w.1/\w.1 < n:=by
     rcases hok with ⟨_,h1,h2⟩ | ⟨_,h2⟩
     ·omega
     ·rw[isE_true he] at h2; simp at h2; omega
    have hfx:=(rd.fix (k:=k) (s:=w.1.toNat) hk (by omega)).2.2
    rw[Int.toNat_of_nonneg hr'.1] at hfx
    show (Option.bind (m_R13_Fix _ (k:Int) w.1) _).bind _=_
    rw[hfx]
    rfl)
  (fun st e=>by
   subst e
   refine⟨_,?_,rfl⟩
   unfold b_R45_next_o_2
   dsimp only
   rw[ltB_nat,decide_eq_false (Nat.lt_irrefl _)]
   unfold trS
   rw[show t.Hood.length=I.length from hIl.symm,List.take_length]
   rfl)
 exact hq
theorem nextR {X Y:Int} {W H:Nat} {vals:List SV} {r:Nat} {v0:Int} {cs0:List (List Int)} (Rt:RT n b t (ser (post (L+1) u []))) (R:RD n t.States t.Hood L u) (B:BX X Y W H) (B':BX (X - r) (Y - r) (W+2*r) (H+2*r)) (hW1:1<=W) (hl:vals.length=W*H) (hv:∀ v∈vals,VOk n b v)
  (hr:m_R07_Radius t.Hood=some (r:Int)) (hr2:r<=2) (hv0:0<=v0) :
  ∃ q,m_R45_next_o v0 cs0 t ⟨⟨X,Y,W,H⟩,vals.map rv⟩=some q /\
   ((fitB (nextS b t.Hood.length (inS X Y W H vals t.Hood) (trS t.Hood.length u) (X - r) (Y - r) (W+2*r) (v0,cs0,[]) ((W+2*r)*(H+2*r))).1 (nextS b t.Hood.length (inS X Y W H vals t.Hood) (trS t.Hood.length u) (X - r) (Y - r) (W+2*r) (v0,cs0,[]) ((W+2*r)*(H+2*r))).2.1=true /\
     q=((nextS b t.Hood.length (inS X Y W H vals t.Hood) (trS t.Hood.length u) (X - r) (Y - r) (W+2*r) (v0,cs0,[]) ((W+2*r)*(H+2*r))).1,X - r,Y - r,((W+2*r:Nat):Int),((H+2*r:Nat):Int),(nextS b t.Hood.length (inS X Y W H vals t.Hood) (trS t.Hood.length u) (X - r) (Y - r) (W+2*r) (v0,cs0,[]) ((W+2*r)*(H+2*r))).2.2.map rv,(nextS b t.Hood.length (inS X Y W H vals t.Hood) (trS t.Hood.length u) (X - r) (Y - r) (W+2*r) (v0,cs0,[]) ((W+2*r)*(H+2*r))).2.1)) \/
    (fitB (nextS b t.Hood.length (inS X Y W H vals t.Hood) (trS t.Hood.length u) (X - r) (Y - r) (W+2*r) (v0,cs0,[]) ((W+2*r)*(H+2*r))).1 (nextS b t.Hood.length (inS X Y W H vals t.Hood) (trS t.Hood.length u) (X - r) (Y - r) (W+2*r) (v0,cs0,[]) ((W+2*r)*(H+2*r))).2.1=false/\fitB q.1 q.2.2.2.2.2.2=false)):=by
 obtain⟨c1,c2,c3,c4,c5,c6⟩:=id B
 obtain⟨c1',c2',c3',c4',c5',c6'⟩:=id B'
 have hle:(W+2*r)*(H+2*r)<=1000*1000:=Nat.mul_le_mul c5' c6'
 have hWT:∀ i:Nat,i < (W+2*r)*(H+2*r)->WT n b t.Hood.length (inS X Y W H vals t.Hood (X - r+(i % (W+2*r):Nat)) (Y - r+(i / (W+2*r):Nat))) (trS t.Hood.length u (inS X Y W H vals t.Hood (X - r+(i % (W+2*r):Nat)) (Y - r+(i / (W+2*r):Nat)))):=fun i _ =>
  wt_fix R Rt.sb (by unfold inS; rw[List.length_map]) fun v hv'=>by
   unfold inS at hv'
   obtain⟨d,_,rfl⟩:=List.mem_map.1 hv'
   exact atS_ok (by have:=Rt.sb.n2; omega) hl hv _ _
 obtain⟨F,hF⟩:∃ F,F=nextS b t.Hood.length (inS X Y W H vals t.Hood) (trS t.Hood.length u) (X - r) (Y - r) (W+2*r) (v0,cs0,[]):=⟨_,rfl⟩
 have hstep:∀ i,F (i+1)=cellN b t.Hood.length (inS X Y W H vals t.Hood) (trS t.Hood.length u) (X - r) (Y - r) (W+2*r) i (F i):=fun i=>by rw[hF]; rfl
 have hval:∀ i,i<=(W+2*r)*(H+2*r)->(F i).2.2.length=i:=fun i hi=>by rw[hF]; exact (next_vals hWT i hi).1
 have hfit:∀ {i m:Nat},i<=m->fitB (F i).1 (F i).2.1=false->fitB (F m).1 (F m).2.1=false:=fun{i m} hi h=>by
  cases hf:fitB (F m).1 (F m).2.1 with
  | false=>rfl
  | true=>rw[hF] at h hf; rw[next_fit hi hf] at h; cases h
 have hlow:∀ i,v0<=(F i).1:=fun i=>by
  have:=next_mono b t.Hood.length (inS X Y W H vals t.Hood) (trS t.Hood.length u) (X - r) (Y - r) (W+2*r) (v0,cs0,[]) 0 i
  rw[Nat.zero_add] at this
  rw[hF]
  exact this.1
 rw[<- hF]
 have e1:bk .i64 (W:Int) (bB .i64 2 (r:Int))=((W+2*r:Nat):Int):=by rw[imul_in (by omega),iadd_in (by omega)]; omega
 have e2:bk .i64 (H:Int) (bB .i64 2 (r:Int))=((H+2*r:Nat):Int):=by rw[imul_in (by omega),iadd_in (by omega)]; omega
 have e3:bB .i64 ((W+2*r:Nat):Int) ((H+2*r:Nat):Int)=(((W+2*r)*(H+2*r):Nat):Int):=by
  have e:=Int.natCast_mul (W+2*r) (H+2*r)
  rw[imul_in (by omega),e]
 have e4:br .i64 X (r:Int)=X - r:=isub_in (by omega)
 have e5:br .i64 Y (r:Int)=Y - r:=isub_in (by omega)
 unfold m_R45_next_o
 rw[hr]
 simp only[some_bind]
 obtain⟨o,ho,hq⟩:=loop_iv (b:=b_R45_next_o_1 t ⟨⟨X,Y,W,H⟩,vals.map rv⟩ (r:Int)) (n:=(W+2*r)*(H+2*r)) (s:=(0,v0,cs0,[]))
  (fun i st=>st=((i:Int),(F i).1,(F i).2.1,(F i).2.2.map rv) \/ (∃ j v cs vs,st=(j,v,cs,vs)/\fitB v cs=false/\fitB (F ((W+2*r)*(H+2*r))).1 (F ((W+2*r)*(H+2*r))).2.1=false))
  (fun o=>o=((F ((W+2*r)*(H+2*r))).1,(F ((W+2*r)*(H+2*r))).2.1,(F ((W+2*r)*(H+2*r))).2.2.map rv) \/ (fitB o.1 o.2.1=false/\fitB (F ((W+2*r)*(H+2*r))).1 (F ((W+2*r)*(H+2*r))).2.1=false)) (by omega) (.inl (by rw[hF]; rfl))
  (fun i st hi e=>by
   rcases e with e | ⟨j,v,cs,vs,e,hu1,hu2⟩
   ·subst e
    obtain⟨q1,q2⟩:=idiv_nat (i:=i) (w:=W+2*r) (by omega) (by omega)
    cases hfi:fitB (F i).1 (F i).2.1 with
    | false =>
     refine .inr ⟨((F i).1,(F i).2.1,(F i).2.2.map rv),?_,.inr ⟨hfi,hfit (Nat.le_of_lt hi) hfi⟩⟩
     unfold b_R45_next_o_1
     dsimp only
     rw[e1,e2,e3,show ltB (i:Int) (((W+2*r)*(H+2*r):Nat):Int)=true from decide_eq_true (by omega),cond_true,fitsR_eq]
     dsimp only
     rw[hfi]
     rfl
    | true =>
     have hflen:=fit_len hfi
     have hlo:=hlow i
     have hvl:=hval i (by omega)
     have wt:=hWT i hi
     have hml:i % (W+2*r) < W+2*r:=Nat.mod_lt _ (by omega)
     have hdl:i / (W+2*r) < H+2*r:=Nat.div_lt_of_lt_mul hi
     have hn:=hstep i
     unfold cellN at hn
     dsimp only at hn
     obtain⟨rs,hrs,hq1,hq2⟩:=treeR (t:=⟨t.States,t.Hood,trS t.Hood.length u (inS X Y W H vals t.Hood (X - r+(i % (W+2*r):Nat)) (Y - r+(i / (W+2*r):Nat)))⟩) (v:=(F i).1) (cs:=(F i).2.1) wt Rt.st (by show PC.bitsOf t.States=_; rw[Rt.st]; exact Rt.sb.bits) (by omega) (by omega) (by omega)
     have hfx:=fixR_loop (X:=X) (Y:=Y) (W:=W) (H:=H) (vals:=vals) (r:=(r:Int)) (i:=(i:Int)) (f:=(F i).1) (l:=(F i).2.1) (l1:=(F i).2.2.map rv) (m:=((i % (W+2*r):Nat):Int)) (m1:=((i / (W+2*r):Nat):Int)) Rt R B hl hv (by omega) ⟨Int.natCast_nonneg _,by generalize i % (W+2*r)=q at hml; omega⟩ ⟨Int.natCast_nonneg _,by generalize i / (W+2*r)=q at hdl; omega⟩
     have hbase:b_R45_next_o_1 t ⟨⟨X,Y,W,H⟩,vals.map rv⟩ (r:Int) ((i:Int),(F i).1,(F i).2.1,(F i).2.2.map rv)=some (.next (((i+1:Nat):Int),rs.1,rs.2.2.2,(F i).2.2.map rv++[⟨rs.2.1,rs.2.2.1⟩])):=by
      unfold b_R45_next_o_1
      dsimp only
      rw[e1,e2,e3,show ltB (i:Int) (((W+2*r)*(H+2*r):Nat):Int)=true from decide_eq_true (by omega),cond_true,fitsR_eq]
      dsimp only
      rw[hfi]
      simp only[some_bind,cond_true]
      rw[q1,q2,Rt.R]
      simp only[some_bind]
      rw[hfx]
      simp only[some_bind]
      rw[hrs]
      simp only[some_bind]
      rw[appL_ok (by decide) (by decide) (by simp[hvl]; omega),up_nat (by omega)]
      rfl
     refine .inl ⟨_,hbase,?_⟩
     dsimp only at hq1 hq2
     generalize treeS b t.Hood.length (inS X Y W H vals t.Hood (X - r+(i % (W+2*r):Nat)) (Y - r+(i / (W+2*r):Nat))) (trS t.Hood.length u (inS X Y W H vals t.Hood (X - r+(i % (W+2*r):Nat)) (Y - r+(i / (W+2*r):Nat)))) ((F i).1,(F i).2.1,[])=T at hq1 hq2 hn
     cases hft:fitB T.1 T.2.1 with
     | true =>
      have:=hq1 hft
      subst this
      refine .inl ?_
      rw[hn]
      dsimp only
      rw[List.map_append]
      rfl
     | false =>
      refine .inr ⟨_,_,_,_,rfl,(hq2 hft).1,hfit (i:=i+1) (by omega) ?_⟩
      rw[hn]
      exact hft
   ·subst e
    refine .inr ⟨(v,cs,vs),?_,.inr ⟨hu1,hu2⟩⟩
    unfold b_R45_next_o_1
    dsimp only
    rw[fitsR_eq]
    dsimp only
    rw[hu1]
    cases ltB j (bB .i64 (bk .i64 (W:Int) (bB .i64 2 (r:Int))) (bk .i64 (H:Int) (bB .i64 2 (r:Int))))<;>rfl)
  (fun st e=>by
   rcases e with e | ⟨j,v,cs,vs,e,hu1,hu2⟩
   ·subst e
    refine⟨_,?_,.inl rfl⟩
    unfold b_R45_next_o_1
    dsimp only
    rw[e1,e2,e3,show ltB (((W+2*r)*(H+2*r):Nat):Int) (((W+2*r)*(H+2*r):Nat):Int)=false from decide_eq_false (by omega)]
    rfl
   ·subst e
    refine⟨(v,cs,vs),?_,.inr ⟨hu1,hu2⟩⟩
    unfold b_R45_next_o_1
    dsimp only
    rw[fitsR_eq]
    dsimp only
    rw[hu1]
    cases ltB j (bB .i64 (bk .i64 (W:Int) (bB .i64 2 (r:Int))) (bk .i64 (H:Int) (bB .i64 2 (r:Int))))<;>rfl)
 rw[ho]
 rcases hq with rfl | ⟨hu1,hu2⟩
 ·simp only[some_bind]
  rw[e1,e2,e4,e5]
  refine⟨_,rfl,?_⟩
  cases hf:fitB (F ((W+2*r)*(H+2*r))).1 (F ((W+2*r)*(H+2*r))).2.1 with
  | true=>exact .inl ⟨rfl,rfl⟩
  | false=>exact .inr ⟨rfl,rfl⟩
 ·obtain⟨ov,oc,os⟩:=o
  simp only[some_bind]
  exact⟨_,rfl,.inr ⟨hu2,hu1⟩⟩
end
end Go.Proofs.YtnkmjlncmlmnbaaGreatDoor
namespace Go.Proofs.YtnkmjlncmlmnbaaGreatDoor
open Go.AM Go.Proofs
def wiB (s W H x y:Nat):Bool:=match m_symmetry_Within s ⟨0,0,W,H⟩ ⟨x,y⟩,m_R04_Within s ⟨0,0,W,H⟩ ⟨x,y⟩ with
 | some p,some q=>eqB p.X q.X && (eqB p.Y q.Y && (leB 0 q.X && (ltB q.X W && (leB 0 q.Y && ltB q.Y H))))
 | _,_=>false
def rowW (s W H:Nat):Bool:=(List.range W).all fun x=>(List.range H).all fun y=>wiB s W H x y
def sizesW:List (Nat×Nat):=(List.range 17).flatMap fun W=>(List.range 17).filterMap fun H=>if 1<=W/\1<=H/\W*H<=16 then some (W,H) else none
def chkW (s:Nat):Bool:=sizesW.all fun p=>if s % 2=1/\p.1≠p.2 then true else rowW s p.1 p.2
theorem chkW0:chkW 0=true:=by kernel_rfl
theorem chkW1:chkW 1=true:=by kernel_rfl
theorem chkW2:chkW 2=true:=by kernel_rfl
theorem chkW3:chkW 3=true:=by kernel_rfl
theorem chkW4:chkW 4=true:=by kernel_rfl
theorem chkW5:chkW 5=true:=by kernel_rfl
theorem chkW6:chkW 6=true:=by kernel_rfl
theorem chkW7:chkW 7=true:=by kernel_rfl
theorem chkW_all:∀ s,s < 8->chkW s=true
 | 0,_=>chkW0
 | 1,_=>chkW1
 | 2,_=>chkW2
 | 3,_=>chkW3
 | 4,_=>chkW4
 | 5,_=>chkW5
 | 6,_=>chkW6
 | 7,_=>chkW7
 | _+8,h=>by omega
theorem within_eq {s W H x y:Nat} (hs:s < 8) (hW:1<=W) (hH:1<=H) (hWH:W*H<=16) (ho:s % 2=1->W=H) (hx:x < W) (hy:y < H) :
  ∃ q:Point,m_symmetry_Within (s:Int) ⟨0,0,W,H⟩ ⟨x,y⟩=some q/\m_R04_Within (s:Int) ⟨0,0,W,H⟩ ⟨x,y⟩=some q/\0<=q.X/\q.X < W/\0<=q.Y/\q.Y < H:=by
 have hWl:W<=16:=by have:=Nat.mul_le_mul_left W hH; omega
 have hHl:H<=16:=by have:=Nat.mul_le_mul_right H hW; omega
 have hm:(W,H)∈sizesW:=by
  unfold sizesW
  rw[List.mem_flatMap]
  refine⟨W,List.mem_range.2 (by omega),?_⟩
  rw[List.mem_filterMap]
  exact⟨H,List.mem_range.2 (by omega),if_pos ⟨hW,hH,hWH⟩⟩
 have h1:=List.all_eq_true.1 (chkW_all s hs) (W,H) hm
 dsimp only at h1
 rw[if_neg (by intro h; exact h.2 (ho h.1))] at h1
 have h2:=List.all_eq_true.1 h1 x (List.mem_range.2 hx)
 have h3:=List.all_eq_true.1 h2 y (List.mem_range.2 hy)
 unfold wiB at h3
 split at h3
 ·rename_i p q e1 e2
  simp only[Bool.and_eq_true] at h3
  obtain⟨g1,g2,g3,g4,g5,g6⟩:=h3
  have f1:p.X=q.X:=by simpa [eqB] using g1
  have f2:p.Y=q.Y:=by simpa [eqB] using g2
  have f3:=of_decide_eq_true g3
  have f4:=of_decide_eq_true g4
  have f5:=of_decide_eq_true g5
  have f6:=of_decide_eq_true g6
  have hpq:p=q:=by
   cases p
   cases q
   dsimp only at f1 f2
   rw[f1,f2]
  exact⟨q,by rw[e1,hpq],e2,f3,f4,f5,f6⟩
 ·cases h3
end Go.Proofs.YtnkmjlncmlmnbaaGreatDoor
namespace Go.Proofs.YtnkmjlncmlmnbaaGreatDoor
open Go.AM Go.Proofs
structure PK (n b w h r G:Nat) (t:Tree) (x:Bl) {L:Nat} (u:DD (L+1)):Prop where
 R:RT n b t (ser (post (L+1) u []))
 D:RD n t.States t.Hood L u
 W:x.W=(w:Int)
 H:x.H=(h:Int)
 w1:1<=w
 h1:1<=h
 wh:w*h<=16
 gens:x.Gens=(G:Int)
 g1:1<=G
 g6:G<=6
 dx:-24<=x.DX/\x.DX<=24
 dy:-24<=x.DY/\x.DY<=24
 syms:∀ s∈x.Syms,∃ k:Nat,s=(k:Int)/\k < 8/\(k % 2=1->w=h)
 slen:x.Syms.length<=20
 r2:r<=2
 hr:m_hood_Radius t.Hood=some (r:Int)
 hrR:m_R07_Radius t.Hood=some (r:Int)
theorem PK.w16 {n b w h r G:Nat} {t:Tree} {x:Bl} {L:Nat} {u:DD (L+1)} (K:PK n b w h r G t x u):w<=16/\h<=16:=by
 have h1:=Nat.mul_le_mul_left w K.h1
 have h2:=Nat.mul_le_mul_right h K.w1
 have:=K.wh
 omega
theorem pk_of {t:Tree} {x:Bl} (hx:x.Syms.length<=20) (hc:PC.chkE t x=0):∃ n b w h r G L,∃ u:DD (L+1),PK n b w h r G t x u:=by
 unfold PC.chkE at hc
 cases hq:quietB t with
 | false=>rw[hq] at hc; simp at hc
 | true =>
  rw[hq,cond_true] at hc
  have ht:treeOk t=true:=by
   unfold quietB at hq
   simp only[Bool.and_eq_true] at hq
   exact hq.1
  obtain⟨n,b,L,u,R,D⟩:=rd_of ht
  obtain⟨r,hr,hrR,r2,_⟩:=rad_of (tok_hood ht)
  unfold PC.probE at hc
  cases h1:ltB x.W 1 || ltB x.H 1 with
  | true=>rw[h1] at hc; simp at hc
  | false =>
   rw[h1] at hc
   cases h2:gtB x.W 16 || (gtB x.H 16 || gtB (bB .i64 x.W x.H) 16) with
   | true=>rw[h2] at hc; simp at hc
   | false =>
    rw[h2] at hc
    cases h3:ltB x.Gens 1 || (gtB x.Gens 6 || (ltB x.DX (-24) || (gtB x.DX 24 || (ltB x.DY (-24) || (gtB x.DY 24 || anyB (PC.badS x) x.Syms 0))))) with
    | true=>rw[h3] at hc; simp at hc
    | false =>
     simp only[Bool.or_eq_false_iff] at h1 h2 h3
     obtain⟨g1,g2,g3,g4,g5,g6,g7⟩:=h3
     have a1:=of_decide_eq_false h1.1
     have a2:=of_decide_eq_false h1.2
     have a3:=of_decide_eq_false h2.1
     have a4:=of_decide_eq_false h2.2.1
     have a5:=of_decide_eq_false h2.2.2
     have b1:=of_decide_eq_false g1
     have b2:=of_decide_eq_false g2
     have b3:=of_decide_eq_false g3
     have b4:=of_decide_eq_false g4
     have b5:=of_decide_eq_false g5
     have b6:=of_decide_eq_false g6
     have hm:x.W*x.H<=16*16:=Int.mul_le_mul (by omega) (by omega) (by omega) (by omega)
     have hm0:0<=x.W*x.H:=Int.mul_nonneg (by omega) (by omega)
     rw[imul_in (by omega)] at a5
     have hwh:((x.W.toNat*x.H.toNat:Nat):Int)=x.W*x.H:=by rw[Int.natCast_mul,Int.toNat_of_nonneg (by omega),Int.toNat_of_nonneg (by omega)]
     refine⟨n,b,x.W.toNat,x.H.toNat,r,x.Gens.toNat,L,u,R,D,by omega,by omega,by omega,by omega,by omega,by omega,by omega,by omega,by omega,by omega,fun s hs=>?_,hx,r2,hr,hrR⟩
     obtain⟨i,hi⟩:=List.mem_iff_getElem?.1 hs
     have:=anyB_false g7 i s hi
     rw[Nat.zero_add] at this
     unfold PC.badS at this
     simp only[Bool.or_eq_false_iff,Bool.and_eq_false_imp] at this
     obtain⟨c1,c2,_,c4⟩:=this
     have d1:=of_decide_eq_false c1
     have d2:=of_decide_eq_false c2
     refine⟨s.toNat,by omega,by omega,fun ho=>?_⟩
     have hod:PC.oddB s=true:=by
      unfold PC.oddB
      have:s.tmod 2=((s.toNat % 2:Nat):Int):=by
       rw[show s=((s.toNat:Nat):Int) by omega]
       rfl
      rw[this,ho]
      rfl
     have:=c4 hod
     have:x.W=x.H:=by simpa [neB] using this
     omega
def wqS (w h:Nat) (s:Int) (i:Nat):Point:=(m_R04_Within s ⟨0,0,w,h⟩ ⟨(i % w:Nat),(i / w:Nat)⟩).getD ⟨0,0⟩
def sy1 (b w h:Nat) (s:Int) (i:Nat) (v:SV):List (List Int):=sameS v.2 (atS 0 0 w h (cellsV b (w*h)) (wqS w h s i).X (wqS w h s i).Y).2
def symS (b w h:Nat) (s:Int):List (List Int):=gat (sy1 b w h s) (cellsV b (w*h)) 0
def gX (r g:Nat):Int:=-((g*r:Nat):Int)
def gW (w r g:Nat):Nat:=w+2*(g*r)
def genS (n b w h r:Nat) (t:Tree) (x:Bl) {L:Nat} (u:DD (L+1)):Nat->FS
 | 0=>(((w*h:Nat):Int)*b,cellsC n b (w*h)++gat (fun _ s=>symS b w h s) x.Syms 0,cellsV b (w*h))
 | g+1 =>
  let F:=genS n b w h r t x u g
  nextS b t.Hood.length (inS (gX r g) (gX r g) (gW w r g) (gW h r g) F.2.2 t.Hood) (trS t.Hood.length u) (gX r (g+1)) (gX r (g+1)) (gW w r (g+1)) (F.1,F.2.1,[]) (gW w r (g+1)*gW h r (g+1))
def eA (b w h r G:Nat) (x:Bl) (i:Nat) (v:SV):List (List Int) :=
 let px:=gX r G+(i % gW w r G:Nat) - x.DX
 let py:=gX r G+(i / gW w r G:Nat) - x.DY
 bif isE v.2 then (bif inB 0 0 w h px py then fixS (atS 0 0 w h (cellsV b (w*h)) px py).2 0 else [])
 else bif inB 0 0 w h px py then sameS v.2 (atS 0 0 w h (cellsV b (w*h)) px py).2 else fixS v.2 0
def eB (w h r G:Nat) (x:Bl) (i:Nat) (v:SV):List (List Int):=bif inB (gX r G) (gX r G) (gW w r G) (gW h r G) ((i % w:Nat)+x.DX) ((i / w:Nat)+x.DY) then [] else fixS v.2 0
def forS (n b w h r G:Nat) (t:Tree) (x:Bl) {L:Nat} (u:DD (L+1)):Int×List (List Int) :=
 let F:=genS n b w h r t x u G
 (F.1,(F.2.1++gat (eA b w h r G x) F.2.2 0)++gat (eB w h r G x) (cellsV b (w*h)) 0)
section
variable {n b w h r G:Nat} {t:Tree} {x:Bl} {L:Nat} {u:DD (L+1)}
theorem gX_succ (r g:Nat):gX r (g+1)=gX r g - r:=by
 unfold gX
 rw[Nat.add_mul,Nat.one_mul]
 omega
theorem gW_succ (w r g:Nat):gW w r (g+1)=gW w r g+2*r:=by
 unfold gW
 rw[Nat.add_mul,Nat.one_mul]
 omega
theorem PK.bx (K:PK n b w h r G t x u) {g:Nat} (hg:g<=6):BX (gX r g) (gX r g) (gW w r g) (gW h r g)/\g*r<=12/\1<=gW w r g/\1<=gW h r g/\gW w r g<=40/\gW h r g<=40:=by
 obtain⟨h1,h2⟩:=K.w16
 have h3:=K.r2
 have h4:=K.w1
 have h5:=K.h1
 have:g*r<=6*2:=Nat.mul_le_mul hg h3
 unfold gX gW
 exact⟨⟨by omega,by omega,by omega,by omega,by omega,by omega⟩,by omega,by omega,by omega,by omega,by omega⟩
theorem PK.m48 (K:PK n b w h r G t x u):0<=((w*h:Nat):Int)*b/\((w*h:Nat):Int)*b<=48/\(cellsC n b (w*h)).length<=128:=by
 have h1:=K.wh
 have h3:=K.R.sb.b3
 have:w*h*b<=16*3:=Nat.mul_le_mul h1 h3
 have e:((w*h*b:Nat):Int)=((w*h:Nat):Int)*b:=Int.natCast_mul _ _
 have:=cellsC_len (n:=n) h3 (w*h)
 omega
theorem first_at (_hx:1<=b) {w h:Nat} {px py:Int} (hin:inB 0 0 w h px py=true):(atS 0 0 w h (cellsV b (w*h)) px py).2.length=b:=by
 unfold atS
 rw[hin,cond_true]
 obtain⟨c1,c2,c3,c4⟩:=inB_iff.1 hin
 have hlt:(py - 0).toNat*w+(px - 0).toNat < w*h:=lin_lt (by omega) (by omega)
 rw[List.getD_eq_getElem?_getD,List.getElem?_eq_getElem (by rw[cellsV_len]; exact hlt)]
 exact (cellsV_ok (n:=2) _ (List.getElem_mem _)).2
theorem sy1_len (_hb:b<=3) (s:Int) (i:Nat) (v:SV) (hv:v.2.length<=3):(sy1 b w h s i v).length<=6:=by
 have:=sameS_len v.2 (atS 0 0 w h (cellsV b (w*h)) (wqS w h s i).X (wqS w h s i).Y).2
 unfold sy1
 omega
theorem gat_len' {α β:Type} {f:Nat->α->List β} {m:Nat}:∀ (l:List α) (i:Nat),(∀ i x,x∈l->(f i x).length<=m)->(gat f l i).length<=m*l.length
 | [],_,_=>by simp[gat]
 | x::l,i,hf=>by
  rw[gat,List.length_append,List.length_cons,Nat.mul_add,Nat.mul_one]
  have:=gat_len' l (i+1) (fun j y hy=>hf j y (by simp[hy]))
  have:=hf i x (by simp)
  omega
theorem sym_len (hb:b<=3) (hwh:w*h<=16) (s:Int):(symS b w h s).length<=96:=by
 have:=gat_len' (f:=sy1 b w h s) (m:=6) (cellsV b (w*h)) 0 (fun i v hv=>sy1_len hb s i v (by have:=(cellsV_ok (n:=2) v hv).2; omega))
 rw[cellsV_len] at this
 unfold symS
 omega
theorem gen_mono (g:Nat):(genS n b w h r t x u g).1<=(genS n b w h r t x u (g+1)).1/\(genS n b w h r t x u g).2.1.length<=(genS n b w h r t x u (g+1)).2.1.length:=by
 have:=next_mono b t.Hood.length (inS (gX r g) (gX r g) (gW w r g) (gW h r g) (genS n b w h r t x u g).2.2 t.Hood) (trS t.Hood.length u) (gX r (g+1)) (gX r (g+1)) (gW w r (g+1)) ((genS n b w h r t x u g).1,(genS n b w h r t x u g).2.1,[]) 0 (gW w r (g+1)*gW h r (g+1))
 rw[Nat.zero_add] at this
 exact this
theorem gen_mono' (g:Nat):∀ k,(genS n b w h r t x u g).1<=(genS n b w h r t x u (g+k)).1/\(genS n b w h r t x u g).2.1.length<=(genS n b w h r t x u (g+k)).2.1.length
 | 0=>⟨Int.le_refl _,Nat.le_refl _⟩
 | k+1=>by
  have h1:=gen_mono' g k
  have h2:=gen_mono (n:=n) (b:=b) (w:=w) (h:=h) (r:=r) (t:=t) (x:=x) (u:=u) (g+k)
  rw[<- Nat.add_assoc]
  omega
theorem gen_unfit {g:Nat} (hg:g<=G) (hu:fitB (genS n b w h r t x u g).1 (genS n b w h r t x u g).2.1=false):fitB (forS n b w h r G t x u).1 (forS n b w h r G t x u).2=false:=by
 have:=gen_mono' (n:=n) (b:=b) (w:=w) (h:=h) (r:=r) (t:=t) (x:=x) (u:=u) g (G - g)
 rw[show g+(G - g)=G by omega] at this
 cases hf:fitB (forS n b w h r G t x u).1 (forS n b w h r G t x u).2 with
 | false=>rfl
 | true =>
  unfold forS at hf
  dsimp only at hf
  rw[fit_of_le this.1 (by rw[List.length_append,List.length_append]; omega) hf] at hu
  cases hu
theorem ins_wt (K:PK n b w h r G t x u) {X Y:Int} {W H:Nat} {vals:List SV} (hl:vals.length=W*H) (hv:∀ v∈vals,VOk n b v) (px py:Int):WT n b t.Hood.length (inS X Y W H vals t.Hood px py) (trS t.Hood.length u (inS X Y W H vals t.Hood px py)) :=
 wt_fix K.D K.R.sb (by unfold inS; rw[List.length_map]) fun v hv'=>by
  unfold inS at hv'
  obtain⟨d,_,rfl⟩:=List.mem_map.1 hv'
  exact atS_ok (by have:=K.R.sb.n2; omega) hl hv _ _
theorem gen_vals (K:PK n b w h r G t x u):∀ g,(genS n b w h r t x u g).2.2.length=gW w r g*gW h r g/\∀ v∈(genS n b w h r t x u g).2.2,VOk n b v
 | 0=>by
  refine⟨?_,fun v hv=>(cellsV_ok v hv).1⟩
  show (cellsV b (w*h)).length=_
  rw[cellsV_len]
  unfold gW
  rw[Nat.zero_mul]
  rfl
 | g+1=>by
  obtain⟨h1,h2⟩:=gen_vals K g
  have:=next_vals (n:=n) (b:=b) (H:=t.Hood.length) (ins:=inS (gX r g) (gX r g) (gW w r g) (gW h r g) (genS n b w h r t x u g).2.2 t.Hood) (tr:=trS t.Hood.length u) (X:=gX r (g+1)) (Y:=gX r (g+1)) (W:=gW w r (g+1)) (m:=gW w r (g+1)*gW h r (g+1)) (v:=(genS n b w h r t x u g).1) (cs:=(genS n b w h r t x u g).2.1) (fun i _=>ins_wt K h1 h2 _ _) _ (Nat.le_refl _)
  exact this
theorem gen_lo (K:PK n b w h r G t x u) (g:Nat):0<=(genS n b w h r t x u g).1:=by
 have h1:=gen_mono' (n:=n) (b:=b) (w:=w) (h:=h) (r:=r) (t:=t) (x:=x) (u:=u) 0 g
 rw[Nat.zero_add] at h1
 have h2:=K.m48.1
 have h3:(genS n b w h r t x u 0).1=((w*h:Nat):Int)*b:=rfl
 omega
end
end Go.Proofs.YtnkmjlncmlmnbaaGreatDoor
namespace Go.Proofs.YtnkmjlncmlmnbaaGreatDoor
open Go.AM Go.Proofs
theorem loop_gat' {α β:Type} {b:Int×List β->Option (Lp (Int×List β) (List β))} (l:List α) (f:Nat->α->List β) (m C:Nat) (acc:List β) (hf:∀ i x,x∈l->(f i x).length<=m) (hl:l.length < 1099511627776) (hC:acc.length+m*l.length<=C)
  (hs:∀ (i:Nat) (x:α) (ac:List β),l[i]?=some x->ac.length+m<=C->b ((i:Int),ac)=some (.next (((i+1:Nat):Int),ac++f i x)))
  (he:∀ ac,b ((l.length:Int),ac)=some (.out ac)):bh b bm (0,acc)=some (acc++gat f l 0):=by
 obtain⟨r,hr,rfl⟩:=loop_iv (b:=b) (n:=l.length) (s:=(0,acc)) (fun i st=>st=((i:Int),acc++gat f (l.take i) 0)) (fun r=>r=acc++gat f l 0) hl (by simp[gat])
  (fun i st hi e=>by
   subst e
   have hx:l[i]?=some l[i]:=List.getElem?_eq_getElem hi
   refine .inl ⟨_,hs i _ _ hx ?_,?_⟩
   ·have h1:=gat_len' (l.take i) 0 (fun j y hy=>hf j y (List.mem_of_mem_take hy))
    rw[List.length_take,Nat.min_eq_left (Nat.le_of_lt hi)] at h1
    rw[List.length_append]
    have h2:m*i+m<=m*l.length:=by
     have:=Nat.mul_le_mul_left m (show i+1<=l.length from hi)
     rw[Nat.mul_add,Nat.mul_one] at this
     exact this
    omega
   ·rw[gat_take f hx,List.append_assoc])
  (fun st e=>by
   subst e
   exact⟨_,he _,by rw[List.take_length]⟩)
 exact hr
section
variable {n b w h r G:Nat} {t:Tree} {x:Bl} {L:Nat} {u:DD (L+1)}
theorem wq_of (K:PK n b w h r G t x u) {s:Int} (hs:s∈x.Syms) {i:Nat} (hi:i < w*h) :
  m_symmetry_Within s ⟨0,0,w,h⟩ ⟨(i % w:Nat),(i / w:Nat)⟩=some (wqS w h s i)/\m_R04_Within s ⟨0,0,w,h⟩ ⟨(i % w:Nat),(i / w:Nat)⟩=some (wqS w h s i)/\0<=(wqS w h s i).X/\(wqS w h s i).X < w/\0<=(wqS w h s i).Y/\(wqS w h s i).Y < h:=by
 obtain⟨k,rfl,h1,h2⟩:=K.syms s hs
 have hw:=K.w1
 obtain⟨q,e1,e2,e3⟩:=within_eq (s:=k) (W:=w) (H:=h) (x:=i % w) (y:=i / w) h1 K.w1 K.h1 K.wh h2 (Nat.mod_lt _ (by omega)) (Nat.div_lt_of_lt_mul hi)
 have:wqS w h (k:Int) i=q:=by unfold wqS; rw[e2]; rfl
 rw[this]
 exact⟨e1,e2,e3⟩
theorem wq_in {w h:Nat} {q:Point} (h1:0<=q.X) (h2:q.X < w) (h3:0<=q.Y) (h4:q.Y < h):inB 0 0 w h q.X q.Y=true:=inB_iff.2 ⟨h1,by omega,h3,by omega⟩
theorem first_ok (_K:PK n b w h r G t x u):∀ v∈cellsV b (w*h),v.2.length=b:=fun v hv=>(cellsV_ok (n:=n) v hv).2
theorem ne_len {l:List Int} {b:Nat} (hb:1<=b) (h:l.length=b):l≠[]:=fun e=>by rw[e] at h; simp at h; omega
theorem BX0 (K:PK n b w h r G t x u):BX 0 0 w h:=by
 obtain⟨h1,h2⟩:=K.w16
 exact⟨by omega,by omega,by omega,by omega,by omega,by omega⟩
theorem symP {y1:Int×(List Point)×(List Node)×Int} {y2:Int} {cc:List (List Int)} {v3:Int} {a s:Int} {cs:List (List Int)} (K:PK n b w h r G t x u) (hs:s∈x.Syms) (hc:cs.length<=10000000) :
  bh (b_unroll_Formula_2 x y1 y2 ((cellsV b (w*h)).map pv,cc,v3) a s) bm (0,cs)=some (cs++symS b w h s):=by
 have b1:=K.R.sb.b1
 have b3:=K.R.sb.b3
 have hwh:=K.wh
 obtain⟨w16,h16⟩:=K.w16
 refine loop_gat' (cellsV b (w*h)) (sy1 b w h s) 6 20000000 cs (fun i v hv=>sy1_len b3 s i v (by rw[first_ok K v hv]; omega)) (by rw[cellsV_len]; omega) (by rw[cellsV_len]; omega) (fun i v ac hv hac=>?_) (fun ac=>?_)
 ·have hi:=getE_lt hv
  rw[cellsV_len] at hi
  have hvl:=first_ok K v (List.mem_of_getElem? hv)
  obtain⟨q1,q2⟩:=idiv_nat (i:=i) K.w1 (by omega)
  obtain⟨w1,_,w3,w4,w5,w6⟩:=wq_of K hs hi
  have hin:=wq_in w3 w4 w5 w6
  have hfl:=first_at b1 hin
  unfold b_unroll_Formula_2
  dsimp only
  rw[show ltB (i:Int) (bf ((cellsV b (w*h)).map pv))=true from decide_eq_true (by unfold bf; rw[List.length_map,cellsV_len]; omega),cond_true,idx_nat,List.getElem?_map,hv,K.W,K.H,q1,q2,up_nat (by omega)]
  simp only[Option.map_some,some_bind]
  rw[w1]
  simp only[some_bind]
  rw[atP (BX0 K) (cellsV_len _ _) (by omega) (by omega)]
  simp only[some_bind]
  rw[show (pv v).vars=v.2 from rfl,neE_some (ne_len b1 hvl)]
  simp only[some_bind]
  rw[show ∀ z:SV,(pv z).vars=z.2 from fun _=>rfl,neE_some (ne_len b1 hfl)]
  simp only[some_bind]
  rw[sameP (by omega) (by omega) (by omega)]
  rfl
 ·unfold b_unroll_Formula_2
  dsimp only
  rw[show ltB ((cellsV b (w*h)).length:Int) (bf ((cellsV b (w*h)).map pv))=false from decide_eq_false (by unfold bf; rw[List.length_map]; omega)]
  rfl
theorem symsP {y1:Int×(List Point)×(List Node)×Int} {y2:Int} {cc:List (List Int)} {v3:Int} {cs:List (List Int)} (K:PK n b w h r G t x u) (hc:cs.length<=1000000) :
  bh (b_unroll_Formula_1 x y1 y2 ((cellsV b (w*h)).map pv,cc,v3)) bm (0,cs)=some (cs++gat (fun _ s=>symS b w h s) x.Syms 0):=by
 have hsl:=K.slen
 refine loop_gat' x.Syms (fun _ s=>symS b w h s) 96 2000000 cs (fun i s _=>sym_len K.R.sb.b3 K.wh s) (by omega) (by omega) (fun i s ac hs hac=>?_) (fun ac=>?_)
 ·have hi:=getE_lt hs
  unfold b_unroll_Formula_1
  dsimp only
  rw[ltB_nat,decide_eq_true hi,cond_true,idx_nat,hs,up_nat (by omega)]
  simp only[some_bind]
  rw[symP K (List.mem_of_getElem? hs) (by omega)]
  rfl
 ·unfold b_unroll_Formula_1
  dsimp only
  rw[ltB_nat,decide_eq_false (Nat.lt_irrefl _)]
  rfl
theorem eA_len (K:PK n b w h r G t x u) (i:Nat) (v:SV) (hv:VOk n b v):(eA b w h r G x i v).length<=6:=by
 have b3:=K.R.sb.b3
 unfold eA
 dsimp only
 cases hin:inB 0 0 w h (gX r G+(i % gW w r G:Nat) - x.DX) (gX r G+(i / gW w r G:Nat) - x.DY) with
 | true =>
  have hf:=first_at K.R.sb.b1 hin
  cases he:isE v.2 with
  | true=>simp only[cond_true]; rw[fixS_len]; omega
  | false =>
   simp only[cond_true,cond_false]
   have:=sameS_len v.2 (atS 0 0 w h (cellsV b (w*h)) (gX r G+(i % gW w r G:Nat) - x.DX) (gX r G+(i / gW w r G:Nat) - x.DY)).2
   have:=vok_len hv he
   omega
 | false =>
  cases he:isE v.2 with
  | true=>simp
  | false =>
   simp only[cond_false]
   rw[fixS_len,vok_len hv he]
   omega
theorem eB_len (K:PK n b w h r G t x u) (i:Nat) (v:SV) (hv:v.2.length=b):(eB w h r G x i v).length<=3:=by
 have b3:=K.R.sb.b3
 unfold eB
 cases inB (gX r G) (gX r G) (gW w r G) (gW h r G) ((i % w:Nat)+x.DX) ((i / w:Nat)+x.DY) with
 | true=>simp
 | false=>rw[cond_false,fixS_len]; omega
theorem endAP {y1:Int×(List Point)×(List Node)×Int} {cc:List (List Int)} {v3 vv:Int} {cs:List (List Int)} {mp:List (List UInt8×Tree)} (K:PK n b w h r G t x u) (hc:cs.length<=10000000) :
  bh (b_unroll_Formula_4 x y1 ((cellsV b (w*h)).map pv,cc,v3) (gX r G) (gX r G) (gW w r G:Nat) (gW h r G:Nat) ((genS n b w h r t x u G).2.2.map pv) mp vv) bm (0,cs)=some (cs++gat (eA b w h r G x) (genS n b w h r t x u G).2.2 0):=by
 have b1:=K.R.sb.b1
 have b3:=K.R.sb.b3
 obtain⟨w16,h16⟩:=K.w16
 obtain⟨hBX,k1,k2,k3,k4,k5⟩:=K.bx K.g6
 obtain⟨hl,hv⟩:=gen_vals K G
 have hdx:=K.dx
 have hdy:=K.dy
 have hle:gW w r G*gW h r G<=40*40:=Nat.mul_le_mul k4 k5
 obtain⟨vs,hvs⟩:∃ vs,vs=(genS n b w h r t x u G).2.2:=⟨_,rfl⟩
 rw[<- hvs] at hl hv ⊢
 refine loop_gat' vs (eA b w h r G x) 6 20000000 cs (fun i v hm=>eA_len K i v (hv v hm)) (by omega) (by omega) (fun i v ac hvi hac=>?_) (fun ac=>?_)
 ·have hi:=getE_lt hvi
  have hok:=hv v (List.mem_of_getElem? hvi)
  obtain⟨q1,q2⟩:=idiv_nat (i:=i) (w:=gW w r G) k2 (by omega)
  have hml:i % gW w r G < gW w r G:=Nat.mod_lt _ (by omega)
  have hdl:i / gW w r G < gW h r G:=Nat.div_lt_of_lt_mul (by omega)
  obtain⟨x0,x1,y0,y1',_,_⟩:=hBX
  unfold b_unroll_Formula_4 eA
  dsimp only
  rw[show ltB (i:Int) (bf (vs.map pv))=true from decide_eq_true (by unfold bf; rw[List.length_map]; omega),cond_true,idx_nat,List.getElem?_map,hvi,q1,q2,up_nat (by omega)]
  simp only[Option.map_some,some_bind]
  generalize hA:i % gW w r G=A at hml ⊢
  generalize hC:i / gW w r G=C at hdl ⊢
  rw[K.W,K.H,iadd_in (a:=gX r G) (b:=(A:Int)) (by omega),iadd_in (a:=gX r G) (b:=(C:Int)) (by omega),isub_in (b:=x.DX) (by omega),isub_in (b:=x.DY) (by omega),inP (BX0 K)]
  simp only[some_bind]
  rw[show ∀ z:SV,(pv z).vars=z.2 from fun _=>rfl]
  have hat:=atP (X:=0) (Y:=0) (W:=w) (H:=h) (vals:=cellsV b (w*h)) (BX0 K) (cellsV_len _ _) (x:=gX r G+(A:Int) - x.DX) (y:=gX r G+(C:Int) - x.DY) (by omega) (by omega)
  cases he:isE v.2 with
  | true =>
   simp only[bW,Bool.not_true,cond_false,cond_true,some_bind]
   cases hin:inB 0 0 w h (gX r G+(A:Int) - x.DX) (gX r G+(C:Int) - x.DY) with
   | false=>simp only[cond_false,some_bind,List.append_nil]
   | true =>
    have hfl:=first_at b1 hin
    simp only[cond_true]
    rw[hat]
    simp only[some_bind]
    rw[show ∀ z:SV,(pv z).vars=z.2 from fun _=>rfl,neE_some (ne_len b1 hfl)]
    simp only[some_bind]
    rw[fixP _ (by omega) (by omega)]
    rfl
  | false =>
   have hvl:=vok_len hok he
   simp only[bW,Bool.not_false,cond_false,cond_true,some_bind]
   cases hin:inB 0 0 w h (gX r G+(A:Int) - x.DX) (gX r G+(C:Int) - x.DY) with
   | false =>
    simp only[cond_false]
    rw[neE_some (ne_len b1 hvl)]
    simp only[some_bind]
    rw[fixP _ (by omega) (by omega)]
    rfl
   | true =>
    have hfl:=first_at b1 hin
    simp only[cond_true]
    rw[hat]
    simp only[some_bind]
    rw[neE_some (ne_len b1 hvl),show ∀ z:SV,(pv z).vars=z.2 from fun _=>rfl,neE_some (ne_len b1 hfl)]
    simp only[some_bind]
    rw[sameP (by omega) (by omega) (by omega)]
    rfl
 ·unfold b_unroll_Formula_4
  dsimp only
  rw[show ltB (vs.length:Int) (bf (vs.map pv))=false from decide_eq_false (by unfold bf; rw[List.length_map]; omega)]
  rfl
theorem endBP {y1:Int×(List Point)×(List Node)×Int} {cc:List (List Int)} {v3 vv:Int} {cs:List (List Int)} {mp:List (List UInt8×Tree)} {vs:List Bn} (K:PK n b w h r G t x u) (hc:cs.length<=10000000) :
  bh (b_unroll_Formula_5 x y1 ((cellsV b (w*h)).map pv,cc,v3) (gX r G) (gX r G) (gW w r G:Nat) (gW h r G:Nat) vs mp vv) bm (0,cs)=some (cs++gat (eB w h r G x) (cellsV b (w*h)) 0):=by
 have b1:=K.R.sb.b1
 have b3:=K.R.sb.b3
 have hwh:=K.wh
 obtain⟨w16,h16⟩:=K.w16
 obtain⟨hBX,_⟩:=K.bx K.g6
 have hdx:=K.dx
 have hdy:=K.dy
 refine loop_gat' (cellsV b (w*h)) (eB w h r G x) 3 20000000 cs (fun i v hm=>eB_len K i v (first_ok K v hm)) (by rw[cellsV_len]; omega) (by rw[cellsV_len]; omega) (fun i v ac hvi hac=>?_) (fun ac=>?_)
 ·have hi:=getE_lt hvi
  rw[cellsV_len] at hi
  have hvl:=first_ok K v (List.mem_of_getElem? hvi)
  have hw1:=K.w1
  obtain⟨q1,q2⟩:=idiv_nat (i:=i) (w:=w) hw1 (by omega)
  have hml:i % w < w:=Nat.mod_lt _ (by omega)
  have hdl:i / w < h:=Nat.div_lt_of_lt_mul hi
  unfold b_unroll_Formula_5 eB
  dsimp only
  rw[show ltB (i:Int) (bf ((cellsV b (w*h)).map pv))=true from decide_eq_true (by unfold bf; rw[List.length_map,cellsV_len]; omega),cond_true,idx_nat,List.getElem?_map,hvi,K.W,q1,q2,up_nat (by omega)]
  simp only[Option.map_some,some_bind]
  generalize hA:i % w=A at hml ⊢
  generalize hC:i / w=C at hdl ⊢
  rw[iadd_in (a:=(A:Int)) (b:=x.DX) (by omega),iadd_in (a:=(C:Int)) (b:=x.DY) (by omega),inP hBX]
  simp only[some_bind]
  rw[show ∀ z:SV,(pv z).vars=z.2 from fun _=>rfl]
  cases inB (gX r G) (gX r G) (gW w r G) (gW h r G) ((A:Int)+x.DX) ((C:Int)+x.DY) with
  | true=>simp only[bW,Bool.not_true,cond_false,cond_true,some_bind,List.append_nil]
  | false =>
   simp only[bW,Bool.not_false,cond_false,cond_true]
   rw[neE_some (ne_len b1 hvl)]
   simp only[some_bind]
   rw[fixP _ (by omega) (by omega)]
   rfl
 ·unfold b_unroll_Formula_5
  dsimp only
  rw[show ltB ((cellsV b (w*h)).length:Int) (bf ((cellsV b (w*h)).map pv))=false from decide_eq_false (by unfold bf; rw[List.length_map]; omega)]
  rfl
theorem gen0_len (K:PK n b w h r G t x u):(genS n b w h r t x u 0).2.1.length<=2048:=by
 have h1:=K.m48.2.2
 have h2:=gat_len (f:=fun(_:Nat) s=>symS b w h s) (m:=96) (fun _ s=>sym_len K.R.sb.b3 K.wh s) x.Syms 0
 have h3:=K.slen
 show (cellsC n b (w*h)++gat (fun _ s=>symS b w h s) x.Syms 0).length<=_
 rw[List.length_append]
 omega
theorem forP (K:PK n b w h r G t x u) (hsz:Sz t) (hc:PC.chkE t x=0) :
  m_unroll_Formula t x=some (bif fitB (forS n b w h r G t x u).1 (forS n b w h r G t x u).2 then (⟨(forS n b w h r G t x u).1,(forS n b w h r G t x u).2⟩,((w*h:Nat):Int)*b,0) else (⟨0,[]⟩,0,6)):=by
 have b1:=K.R.sb.b1
 have b3:=K.R.sb.b3
 have n2:=K.R.sb.n2
 have hwh:=K.wh
 have hr2:=K.r2
 have hg1:=K.g1
 have hg6:=K.g6
 have hw1:=K.w1
 have hh1:=K.h1
 obtain⟨w16,h16⟩:=K.w16
 obtain⟨m0,m1,m2⟩:=K.m48
 have hsl:=K.slen
 have h25:=K.R.tok.h25
 have hpt:=(hood_pts K.D.hd).2.2
 have hmul:bB .i64 (w:Int) (h:Int)=((w*h:Nat):Int):=by
  have e:=Int.natCast_mul w h
  rw[imul_in (by omega),e]
 unfold m_unroll_Formula
 rw[PC.check_eq hsz (by omega),hc]
 simp only[some_bind]
 rw[show neB 0 0=false from rfl,cond_false,startP K.R,K.hr,K.W,K.H]
 simp only[some_bind]
 rw[freeP K.R.sb (m:=w*h) hmul (by omega)]
 simp only[some_bind]
 rw[symsP K (by omega)]
 simp only[some_bind]
 obtain⟨F,hF⟩:∃ F,F=genS n b w h r t x u:=⟨_,rfl⟩
 have hF0:F 0=(((w*h:Nat):Int)*b,cellsC n b (w*h)++gat (fun _ s=>symS b w h s) x.Syms 0,cellsV b (w*h)):=by rw[hF]; rfl
 have hst:t.States=(n:Int):=K.R.st
 obtain⟨o,ho,hq⟩:=loop_iv (b:=b_unroll_Formula_3 x ((n:Int),t.Hood,ser (post (L+1) u []),(b:Int)) (r:Int) ((cellsV b (w*h)).map pv,cellsC n b (w*h),((w*h:Nat):Int)*b)) (n:=G) (s:=(1,0,0,(w:Int),(h:Int),(cellsV b (w*h)).map pv,[],((w*h:Nat):Int)*b,cellsC n b (w*h)++gat (fun _ s=>symS b w h s) x.Syms 0))
  (fun g st=>∃ mp,MOkT n b (n:Int) t.Hood u mp/\st=(((g+1:Nat):Int),gX r g,gX r g,((gW w r g:Nat):Int),((gW h r g:Nat):Int),(F g).2.2.map pv,mp,(F g).1,(F g).2.1)/\(g=0 \/ fitB (F g).1 (F g).2.1=true))
  (fun o=>(∃ mp,o=.inr (gX r G,gX r G,((gW w r G:Nat):Int),((gW h r G:Nat):Int),(F G).2.2.map pv,mp,(F G).1,(F G).2.1)/\fitB (F G).1 (F G).2.1=true) \/ (o=.inl (⟨0,[]⟩,0,6)/\fitB (forS n b w h r G t x u).1 (forS n b w h r G t x u).2=false)) (by omega)
  ⟨[],(fun k t' hk=>by cases hk),by rw[hF0]; simp[gX,gW],.inl rfl⟩
  (fun g st hg ⟨mp,hM,e,hfg⟩=>by
   subst e
   obtain⟨hBX,k1,k2,k3,k4,k5⟩:=K.bx (g:=g) (by omega)
   obtain⟨hBX',k1',k2',k3',k4',k5'⟩:=K.bx (g:=g+1) (by omega)
   obtain⟨hl,hv⟩:=gen_vals K g
   have hlo:=gen_lo K g
   have h0l:=gen0_len K
   have hFs:F (g+1)=nextS b t.Hood.length (inS (gX r g) (gX r g) (gW w r g) (gW h r g) (F g).2.2 t.Hood) (trS t.Hood.length u) (gX r (g+1)) (gX r (g+1)) (gW w r (g+1)) ((F g).1,(F g).2.1,[]) (gW w r (g+1)*gW h r (g+1)):=by rw[hF]; rfl
   have hun:fitB (F (g+1)).1 (F (g+1)).2.1=false->fitB (forS n b w h r G t x u).1 (forS n b w h r G t x u).2=false:=fun hu=>by rw[hF] at hu; exact gen_unfit (by omega) hu
   have hbd:(F g).1<=1000000/\(F g).2.1.length<=100000000:=by
    rcases hfg with hz | hz
    ·subst hz
     rw[hF0]
     rw[show genS n b w h r t x u 0=(((w*h:Nat):Int)*b,cellsC n b (w*h)++gat (fun _ s=>symS b w h s) x.Syms 0,cellsV b (w*h)) from rfl] at h0l
     dsimp only at h0l ⊢
     exact⟨by omega,by omega⟩
    ·have:=fit_len hz
     omega
   rw[<- hF] at hl hv hlo
   obtain⟨rs,hrs,hqs⟩:=nextP (n:=n) (b:=b) (S:=(n:Int)) (Hd:=t.Hood) (N:=ser (post (L+1) u [])) (fX:=gX r g) (fY:=gX r g) (fW:=gW w r g) (fH:=gW h r g) (vals:=(F g).2.2) (X:=gX r (g+1)) (Y:=gX r (g+1)) (W:=gW w r (g+1)) (H:=gW h r (g+1)) (fixed:=true) (tr:=trS t.Hood.length u) (MOk:=MOkT n b (n:Int) t.Hood u) (v0:=(F g).1) (cs0:=(F g).2.1) (mp0:=mp)
    hBX hl h25 hpt hBX' k3' k2' (fun i _=>ins_wt K hl hv _ _)
    (fun v cs mp px py hmp=>by
     have hin:=fixedP (n:=n) (b:=b) (S:=(n:Int)) (Hd:=t.Hood) (u:=u) (v:=v) (cs:=cs) (mp:=mp) (in_:=inS (gX r g) (gX r g) (gW w r g) (gW h r g) (F g).2.2 t.Hood px py) (bb:=(b:Int)) (hst ▸ K.D) b1 hmp (by unfold inS; rw[List.length_map]) (fun v hv'=>by
      unfold inS at hv'
      obtain⟨d,_,rfl⟩:=List.mem_map.1 hv'
      exact atS_ok (by omega) hl hv _ _)
     obtain⟨mp',e1,e2⟩:=hin
     exact⟨mp',by rw[cond_true,e1]; rfl,e2⟩)
    hM hlo hbd.1 hbd.2
   rw[<- hFs] at hqs
   have hX:bB .i64 (bH .i64 ((g+1:Nat):Int)) (r:Int)=gX r (g+1):=by
    have e:=Int.natCast_mul (g+1) r
    rw[ineg_in (by omega)]
    have:-((g+1:Nat):Int)*(r:Int)=gX r (g+1):=by unfold gX; rw[e,Int.neg_mul]
    rw[imul_in (by rw[this]; unfold gX; omega),this]
   have hWW:∀ z:Nat,z<=16->bk .i64 (z:Int) (bB .i64 (bB .i64 2 ((g+1:Nat):Int)) (r:Int))=((gW z r (g+1):Nat):Int):=fun z hz=>by
    have e:((2*((g+1)*r):Nat):Int)=2*((g+1:Nat):Int)*(r:Int):=by rw[Int.natCast_mul,Int.natCast_mul,Int.mul_assoc]; rfl
    rw[imul_in (a:=2) (by omega),imul_in (by omega),iadd_in (by omega)]
    unfold gW
    omega
   rcases hqs with ⟨mp',hm',hft,rfl⟩ | ⟨hft,hfl⟩
   ·refine .inl ⟨_,?_,mp',hm',rfl,.inr hft⟩
    unfold b_unroll_Formula_3
    dsimp only
    rw[K.gens,show leB ((g+1:Nat):Int) (G:Int)=true from decide_eq_true (by omega),cond_true,hX,K.W,K.H,hWW w w16,hWW h h16,hrs]
    simp only[some_bind]
    rw[show bW true=false from rfl,cond_false,up_nat (by omega)]
   ·refine .inr ⟨_,?_,.inr ⟨rfl,hun hft⟩⟩
    unfold b_unroll_Formula_3
    dsimp only
    rw[K.gens,show leB ((g+1:Nat):Int) (G:Int)=true from decide_eq_true (by omega),cond_true,hX,K.W,K.H,hWW w w16,hWW h h16,hrs]
    simp only[some_bind]
    rw[hfl]
    rfl)
  (fun st ⟨mp,hM,e,hfg⟩=>by
   subst e
   refine⟨_,?_,.inl ⟨mp,rfl,?_⟩⟩
   ·unfold b_unroll_Formula_3
    dsimp only
    rw[K.gens,show leB ((G+1:Nat):Int) (G:Int)=false from decide_eq_false (by omega)]
    rfl
   ·rcases hfg with hz | hz
    ·omega
    ·exact hz)
 rw[ho]
 rcases hq with ⟨mp,rfl,hfG⟩ | ⟨rfl,hu⟩
 ·have hfl:=fit_len hfG
  simp only[some_bind]
  have hA:=fun(cc:List (List Int)) (v3:Int)=>endAP (n:=n) (b:=b) (w:=w) (h:=h) (r:=r) (G:=G) (t:=t) (x:=x) (u:=u) (y1:=((n:Int),t.Hood,ser (post (L+1) u []),(b:Int))) (cc:=cc) (v3:=v3) (vv:=(F G).1) (cs:=(F G).2.1) (mp:=mp) K (by omega)
  rw[<- hF] at hA
  rw[hA]
  simp only[some_bind]
  have hAl:(gat (eA b w h r G x) (F G).2.2 0).length<=9600:=by
   obtain⟨hl,hv⟩:=gen_vals K G
   obtain⟨_,_,_,_,k4,k5⟩:=K.bx K.g6
   have hle:gW w r G*gW h r G<=40*40:=Nat.mul_le_mul k4 k5
   have:=gat_len' (f:=eA b w h r G x) (m:=6) (genS n b w h r t x u G).2.2 0 (fun i v hm=>eA_len K i v (hv v hm))
   rw[hF]
   omega
  rw[endBP K (by rw[List.length_append]; omega)]
  simp only[some_bind]
  rw[largeP_eq]
  simp only[some_bind]
  have hfor:forS n b w h r G t x u=((F G).1,((F G).2.1++gat (eA b w h r G x) (F G).2.2 0)++gat (eB w h r G x) (cellsV b (w*h)) 0):=by rw[hF]; rfl
  rw[hfor]
  dsimp only
  cases fitB (F G).1 (((F G).2.1++gat (eA b w h r G x) (F G).2.2 0)++gat (eB w h r G x) (cellsV b (w*h)) 0)<;>rfl
 ·rw[hu]
  rfl
end
end Go.Proofs.YtnkmjlncmlmnbaaGreatDoor
namespace Go.Proofs.YtnkmjlncmlmnbaaGreatDoor
open Go.AM Go.Proofs
section
variable {n b w h r G:Nat} {t:Tree} {x:Bl} {L:Nat} {u:DD (L+1)}
theorem symR {cc:List (List Int)} {v3:Int} {a s:Int} {cs:List (List Int)} (K:PK n b w h r G t x u) (hs:s∈x.Syms) (ha:idx x.Syms a=some s) (hc:cs.length<=10000000) :
  bh (b_R45_Formula_2 t x (v3,(cellsV b (w*h)).map rv,cc) a) bm (0,cs)=some (cs++symS b w h s):=by
 have b1:=K.R.sb.b1
 have b3:=K.R.sb.b3
 have hwh:=K.wh
 obtain⟨w16,h16⟩:=K.w16
 refine loop_gat' (cellsV b (w*h)) (sy1 b w h s) 6 20000000 cs (fun i v hv=>sy1_len b3 s i v (by rw[first_ok K v hv]; omega)) (by rw[cellsV_len]; omega) (by rw[cellsV_len]; omega) (fun i v ac hv hac=>?_) (fun ac=>?_)
 ·have hi:=getE_lt hv
  rw[cellsV_len] at hi
  have hvl:=first_ok K v (List.mem_of_getElem? hv)
  obtain⟨q1,q2⟩:=idiv_nat (i:=i) K.w1 (by omega)
  obtain⟨_,w2,w3,w4,w5,w6⟩:=wq_of K hs hi
  have hin:=wq_in w3 w4 w5 w6
  have hfl:=first_at b1 hin
  obtain⟨e1,e2⟩:=at_idx (BX0 K) hin
  rw[isub_in (a:=(wqS w h s i).Y) (b:=0) (by omega),isub_in (a:=(wqS w h s i).X) (b:=0) (by omega),Int.sub_zero,Int.sub_zero] at e1
  rw[Int.sub_zero,Int.sub_zero] at e2
  have hat:idx ((cellsV b (w*h)).map rv) (bk .i64 (bB .i64 (wqS w h s i).Y (w:Int)) (wqS w h s i).X)=some (rv (atS 0 0 w h (cellsV b (w*h)) (wqS w h s i).X (wqS w h s i).Y)):=by
   rw[e1,idx_nat,List.getElem?_map,List.getElem?_eq_getElem (by rw[cellsV_len]; exact e2)]
   unfold atS
   rw[hin,cond_true,Int.sub_zero,Int.sub_zero,List.getD_eq_getElem?_getD,List.getElem?_eq_getElem (by rw[cellsV_len]; exact e2)]
   rfl
  unfold b_R45_Formula_2
  dsimp only
  rw[show ltB (i:Int) (bf ((cellsV b (w*h)).map rv))=true from decide_eq_true (by unfold bf; rw[List.length_map,cellsV_len]; omega),cond_true,ha,K.W,K.H,q1,q2,up_nat (by omega)]
  simp only[some_bind]
  rw[w2]
  simp only[some_bind]
  rw[idx_nat,List.getElem?_map,hv,hat]
  simp only[Option.map_some,some_bind]
  rw[show ∀ z:SV,(rv z).Vars=z.2 from fun _=>rfl,show ∀ z:SV,(rv z).Vars=z.2 from fun _=>rfl,sameR (by omega) (by omega) (by omega)]
  rfl
 ·unfold b_R45_Formula_2
  dsimp only
  rw[show ltB ((cellsV b (w*h)).length:Int) (bf ((cellsV b (w*h)).map rv))=false from decide_eq_false (by unfold bf; rw[List.length_map]; omega)]
  rfl
theorem symsR {cc:List (List Int)} {v3:Int} {cs:List (List Int)} (K:PK n b w h r G t x u) (hc:cs.length<=1000000) :
  bh (b_R45_Formula_1 t x (v3,(cellsV b (w*h)).map rv,cc)) bm (0,cs)=some (cs++gat (fun _ s=>symS b w h s) x.Syms 0):=by
 have hsl:=K.slen
 refine loop_gat' x.Syms (fun _ s=>symS b w h s) 96 2000000 cs (fun i s _=>sym_len K.R.sb.b3 K.wh s) (by omega) (by omega) (fun i s ac hs hac=>?_) (fun ac=>?_)
 ·have hi:=getE_lt hs
  unfold b_R45_Formula_1
  dsimp only
  rw[ltB_nat,decide_eq_true hi,cond_true,up_nat (by omega),symR K (List.mem_of_getElem? hs) (by rw[idx_nat,hs]) (by omega)]
  rfl
 ·unfold b_R45_Formula_1
  dsimp only
  rw[ltB_nat,decide_eq_false (Nat.lt_irrefl _)]
  rfl
theorem endAR {vv:Int} {cs:List (List Int)} (K:PK n b w h r G t x u) (hc:cs.length<=10000000) :
  bh (b_R45_ends_o_1 vv x ⟨⟨0,0,w,h⟩,(cellsV b (w*h)).map rv⟩ ⟨⟨gX r G,gX r G,(gW w r G:Nat),(gW h r G:Nat)⟩,(genS n b w h r t x u G).2.2.map rv⟩) bm (0,cs)=some (cs++gat (eA b w h r G x) (genS n b w h r t x u G).2.2 0):=by
 have b1:=K.R.sb.b1
 have b3:=K.R.sb.b3
 obtain⟨w16,h16⟩:=K.w16
 obtain⟨hBX,k1,k2,k3,k4,k5⟩:=K.bx K.g6
 obtain⟨hl,hv⟩:=gen_vals K G
 have hdx:=K.dx
 have hdy:=K.dy
 have hle:gW w r G*gW h r G<=40*40:=Nat.mul_le_mul k4 k5
 obtain⟨vs,hvs⟩:∃ vs,vs=(genS n b w h r t x u G).2.2:=⟨_,rfl⟩
 rw[<- hvs] at hl hv ⊢
 refine loop_gat' vs (eA b w h r G x) 6 20000000 cs (fun i v hm=>eA_len K i v (hv v hm)) (by omega) (by omega) (fun i v ac hvi hac=>?_) (fun ac=>?_)
 ·have hi:=getE_lt hvi
  have hok:=hv v (List.mem_of_getElem? hvi)
  obtain⟨q1,q2⟩:=idiv_nat (i:=i) (w:=gW w r G) k2 (by omega)
  have hml:i % gW w r G < gW w r G:=Nat.mod_lt _ (by omega)
  have hdl:i / gW w r G < gW h r G:=Nat.div_lt_of_lt_mul (by omega)
  obtain⟨x0,x1,y0,y1',_,_⟩:=hBX
  unfold b_R45_ends_o_1 eA
  dsimp only
  rw[show ltB (i:Int) (bf (vs.map rv))=true from decide_eq_true (by unfold bf; rw[List.length_map]; omega),cond_true,idx_nat,List.getElem?_map,hvi,q1,q2,up_nat (by omega)]
  simp only[Option.map_some,some_bind]
  generalize hA:i % gW w r G=A at hml ⊢
  generalize hC:i / gW w r G=C at hdl ⊢
  rw[iadd_in (a:=gX r G) (b:=(A:Int)) (by omega),iadd_in (a:=gX r G) (b:=(C:Int)) (by omega),isub_in (b:=x.DX) (by omega),isub_in (b:=x.DY) (by omega),
   atR (X:=0) (Y:=0) (W:=w) (H:=h) (vals:=cellsV b (w*h)) (BX0 K) (cellsV_len _ _) (x:=gX r G+(A:Int) - x.DX) (y:=gX r G+(C:Int) - x.DY) (by omega) (by omega)]
  simp only[some_bind]
  rw[show ∀ z:SV,(rv z).Vars=z.2 from fun _=>rfl,show ∀ z:SV,(rv z).Vars=z.2 from fun _=>rfl]
  cases he:isE v.2 with
  | true =>
   rw[show gtB (bf v.2) 0=false from by rw[isE_true he]; rfl]
   simp only[cond_false,cond_true,some_bind]
   cases hin:inB 0 0 w h (gX r G+(A:Int) - x.DX) (gX r G+(C:Int) - x.DY) with
   | false=>simp only[cond_false,some_bind,List.append_nil]
   | true =>
    have hfl:=first_at b1 hin
    simp only[cond_true]
    rw[fixR _ (by omega) (by omega)]
    rfl
  | false =>
   have hvl:=vok_len hok he
   rw[show gtB (bf v.2) 0=true from decide_eq_true (by unfold bf; omega)]
   simp only[cond_false,cond_true,some_bind]
   cases hin:inB 0 0 w h (gX r G+(A:Int) - x.DX) (gX r G+(C:Int) - x.DY) with
   | false =>
    simp only[cond_false]
    rw[fixR _ (by omega) (by omega)]
    rfl
   | true =>
    have hfl:=first_at b1 hin
    simp only[cond_true]
    rw[sameR (by omega) (by omega) (by omega)]
    rfl
 ·unfold b_R45_ends_o_1
  dsimp only
  rw[show ltB (vs.length:Int) (bf (vs.map rv))=false from decide_eq_false (by unfold bf; rw[List.length_map]; omega)]
  rfl
theorem endBR {vv:Int} {cs:List (List Int)} (K:PK n b w h r G t x u) (hc:cs.length<=10000000) :
  bh (b_R45_ends_o_2 vv x ⟨⟨0,0,w,h⟩,(cellsV b (w*h)).map rv⟩ ⟨⟨gX r G,gX r G,(gW w r G:Nat),(gW h r G:Nat)⟩,(genS n b w h r t x u G).2.2.map rv⟩) bm (0,cs)=some (cs++gat (eB w h r G x) (cellsV b (w*h)) 0):=by
 have b1:=K.R.sb.b1
 have b3:=K.R.sb.b3
 have hwh:=K.wh
 obtain⟨w16,h16⟩:=K.w16
 obtain⟨hBX,_⟩:=K.bx K.g6
 obtain⟨hl,_⟩:=gen_vals K G
 have hdx:=K.dx
 have hdy:=K.dy
 refine loop_gat' (cellsV b (w*h)) (eB w h r G x) 3 20000000 cs (fun i v hm=>eB_len K i v (first_ok K v hm)) (by rw[cellsV_len]; omega) (by rw[cellsV_len]; omega) (fun i v ac hvi hac=>?_) (fun ac=>?_)
 ·have hi:=getE_lt hvi
  rw[cellsV_len] at hi
  have hvl:=first_ok K v (List.mem_of_getElem? hvi)
  have hw1:=K.w1
  obtain⟨q1,q2⟩:=idiv_nat (i:=i) (w:=w) hw1 (by omega)
  have hml:i % w < w:=Nat.mod_lt _ (by omega)
  have hdl:i / w < h:=Nat.div_lt_of_lt_mul hi
  unfold b_R45_ends_o_2 eB
  dsimp only
  rw[show ltB (i:Int) (bf ((cellsV b (w*h)).map rv))=true from decide_eq_true (by unfold bf; rw[List.length_map,cellsV_len]; omega),cond_true,K.W,q1,q2,up_nat (by omega)]
  simp only[some_bind]
  generalize hA:i % w=A at hml ⊢
  generalize hC:i / w=C at hdl ⊢
  rw[iadd_in (a:=(A:Int)) (b:=x.DX) (by omega),iadd_in (a:=(C:Int)) (b:=x.DY) (by omega),atR hBX hl (by omega) (by omega)]
  simp only[some_bind]
  cases inB (gX r G) (gX r G) (gW w r G) (gW h r G) ((A:Int)+x.DX) ((C:Int)+x.DY) with
  | true=>simp only[bW,Bool.not_true,cond_false,cond_true,some_bind,List.append_nil]
  | false =>
   simp only[bW,Bool.not_false,cond_false,cond_true]
   rw[idx_nat,List.getElem?_map,hvi]
   simp only[Option.map_some,some_bind]
   rw[show ∀ z:SV,(rv z).Vars=z.2 from fun _=>rfl,fixR _ (by omega) (by omega)]
   rfl
 ·unfold b_R45_ends_o_2
  dsimp only
  rw[show ltB ((cellsV b (w*h)).length:Int) (bf ((cellsV b (w*h)).map rv))=false from decide_eq_false (by unfold bf; rw[List.length_map]; omega)]
  rfl
theorem forR (K:PK n b w h r G t x u) (hsz:Sz t) (hc:PC.chkE t x=0) :
  m_R45_Formula t x=some (bif fitB (forS n b w h r G t x u).1 (forS n b w h r G t x u).2 then (⟨(forS n b w h r G t x u).1,(forS n b w h r G t x u).2⟩,((w*h:Nat):Int)*b,0) else (⟨0,[]⟩,0,6)):=by
 have b1:=K.R.sb.b1
 have b3:=K.R.sb.b3
 have n2:=K.R.sb.n2
 have hwh:=K.wh
 have hr2:=K.r2
 have hg1:=K.g1
 have hg6:=K.g6
 have hw1:=K.w1
 have hh1:=K.h1
 obtain⟨w16,h16⟩:=K.w16
 obtain⟨m0,m1,m2⟩:=K.m48
 have hsl:=K.slen
 have hmul:bB .i64 (w:Int) (h:Int)=((w*h:Nat):Int):=by
  have e:=Int.natCast_mul w h
  rw[imul_in (by omega),e]
 have hst:t.States=(n:Int):=K.R.st
 unfold m_R45_Formula
 rw[PC.checkR_eq hsz (by omega),hc]
 simp only[some_bind]
 rw[show neB 0 0=false from rfl,cond_false,K.W,K.H,hmul,show m_R45_cells ((w*h:Nat):Int) t.States=some (((w*h:Nat):Int)*b,(cellsV b (w*h)).map rv,cellsC n b (w*h)) from by rw[hst]; exact cellsR K.R.sb (by omega)]
 simp only[some_bind]
 rw[symsR K (by omega)]
 simp only[some_bind]
 obtain⟨F,hF⟩:∃ F,F=genS n b w h r t x u:=⟨_,rfl⟩
 have hF0:F 0=(((w*h:Nat):Int)*b,cellsC n b (w*h)++gat (fun _ s=>symS b w h s) x.Syms 0,cellsV b (w*h)):=by rw[hF]; rfl
 obtain⟨o,ho,hq⟩:=loop_iv (b:=b_R45_Formula_3 t x (((w*h:Nat):Int)*b,(cellsV b (w*h)).map rv,cellsC n b (w*h))) (n:=G) (s:=(0,((w*h:Nat):Int)*b,0,0,(w:Int),(h:Int),(cellsV b (w*h)).map rv,cellsC n b (w*h)++gat (fun _ s=>symS b w h s) x.Syms 0))
  (fun g st=>st=((g:Int),(F g).1,gX r g,gX r g,((gW w r g:Nat):Int),((gW h r g:Nat):Int),(F g).2.2.map rv,(F g).2.1) \/ (∃ j v X Y W H vs cs,st=(j,v,X,Y,W,H,vs,cs)/\fitB v cs=false/\fitB (forS n b w h r G t x u).1 (forS n b w h r G t x u).2=false))
  (fun o=>o=((F G).1,gX r G,gX r G,((gW w r G:Nat):Int),((gW h r G:Nat):Int),(F G).2.2.map rv,(F G).2.1) \/ (fitB o.1 o.2.2.2.2.2.2=false/\fitB (forS n b w h r G t x u).1 (forS n b w h r G t x u).2=false)) (by omega)
  (.inl (by rw[hF0]; simp[gX,gW]))
  (fun g st hg e=>by
   rcases e with e | ⟨j,v,X,Y,W,H,vs,cs,e,hu1,hu2⟩
   ·subst e
    obtain⟨hBX,k1,k2,k3,k4,k5⟩:=K.bx (g:=g) (by omega)
    obtain⟨hBX',k1',k2',k3',k4',k5'⟩:=K.bx (g:=g+1) (by omega)
    obtain⟨hl,hv⟩:=gen_vals K g
    have hlo:=gen_lo K g
    have hFs:F (g+1)=nextS b t.Hood.length (inS (gX r g) (gX r g) (gW w r g) (gW h r g) (F g).2.2 t.Hood) (trS t.Hood.length u) (gX r (g+1)) (gX r (g+1)) (gW w r (g+1)) ((F g).1,(F g).2.1,[]) (gW w r (g+1)*gW h r (g+1)):=by rw[hF]; rfl
    have hun:∀ k,k<=G->fitB (F k).1 (F k).2.1=false->fitB (forS n b w h r G t x u).1 (forS n b w h r G t x u).2=false:=fun k hk hu=>by rw[hF] at hu; exact gen_unfit hk hu
    rw[<- hF] at hl hv hlo
    cases hfg:fitB (F g).1 (F g).2.1 with
    | false =>
     refine .inr ⟨((F g).1,gX r g,gX r g,((gW w r g:Nat):Int),((gW h r g:Nat):Int),(F g).2.2.map rv,(F g).2.1),?_,.inr ⟨hfg,hun g (by omega) hfg⟩⟩
     unfold b_R45_Formula_3
     dsimp only
     rw[K.gens,show ltB (g:Int) (G:Int)=true from decide_eq_true (by omega),cond_true,fitsR_eq]
     dsimp only
     rw[hfg]
     rfl
    | true =>
     obtain⟨rs,hrs,hqs⟩:=nextR (n:=n) (b:=b) (t:=t) (u:=u) (X:=gX r g) (Y:=gX r g) (W:=gW w r g) (H:=gW h r g) (vals:=(F g).2.2) (r:=r) (v0:=(F g).1) (cs0:=(F g).2.1) K.R K.D hBX (by rw[<- gX_succ,<- gW_succ,<- gW_succ]; exact hBX') k2 hl hv K.hrR hr2 hlo
     rw[<- gX_succ,<- gW_succ,<- gW_succ,<- hFs] at hqs
     have hbase:b_R45_Formula_3 t x (((w*h:Nat):Int)*b,(cellsV b (w*h)).map rv,cellsC n b (w*h)) ((g:Int),(F g).1,gX r g,gX r g,((gW w r g:Nat):Int),((gW h r g:Nat):Int),(F g).2.2.map rv,(F g).2.1)=some (.next (((g+1:Nat):Int),rs)):=by
      unfold b_R45_Formula_3
      dsimp only
      rw[K.gens,show ltB (g:Int) (G:Int)=true from decide_eq_true (by omega),cond_true,fitsR_eq]
      dsimp only
      rw[hfg]
      simp only[some_bind,cond_true]
      rw[hrs]
      simp only[some_bind]
      rw[up_nat (by omega)]
     refine .inl ⟨_,hbase,?_⟩
     rcases hqs with ⟨hft,rfl⟩ | ⟨hft,hfl⟩
     ·exact .inl rfl
     ·obtain⟨rv1,rX,rY,rW,rH,rvs,rcs⟩:=rs
      exact .inr ⟨_,_,_,_,_,_,_,_,rfl,hfl,hun (g+1) (by omega) hft⟩
   ·subst e
    refine .inr ⟨(v,X,Y,W,H,vs,cs),?_,.inr ⟨hu1,hu2⟩⟩
    unfold b_R45_Formula_3
    dsimp only
    rw[fitsR_eq]
    dsimp only
    rw[hu1]
    cases ltB j x.Gens<;>rfl)
  (fun st e=>by
   rcases e with e | ⟨j,v,X,Y,W,H,vs,cs,e,hu1,hu2⟩
   ·subst e
    refine⟨_,?_,.inl rfl⟩
    unfold b_R45_Formula_3
    dsimp only
    rw[K.gens,show ltB (G:Int) (G:Int)=false from decide_eq_false (by omega)]
    rfl
   ·subst e
    refine⟨(v,X,Y,W,H,vs,cs),?_,.inr ⟨hu1,hu2⟩⟩
    unfold b_R45_Formula_3
    dsimp only
    rw[fitsR_eq]
    dsimp only
    rw[hu1]
    cases ltB j x.Gens<;>rfl)
 rw[ho]
 have hfor:forS n b w h r G t x u=((F G).1,((F G).2.1++gat (eA b w h r G x) (F G).2.2 0)++gat (eB w h r G x) (cellsV b (w*h)) 0):=by rw[hF]; rfl
 rcases hq with rfl | ⟨hu1,hu2⟩
 ·simp only[some_bind]
  rw[fitsR_eq]
  simp only[some_bind]
  cases hfG:fitB (F G).1 (F G).2.1 with
  | false =>
   have hun:fitB (forS n b w h r G t x u).1 (forS n b w h r G t x u).2=false:=by
    refine gen_unfit (Nat.le_refl _) ?_
    rw[<- hF]
    exact hfG
   rw[hun]
   simp only[cond_false,some_bind]
   rw[fitsR_eq]
   simp only[some_bind]
   rw[hfG]
   rfl
  | true =>
   have hfl:=fit_len hfG
   have hAl:(gat (eA b w h r G x) (F G).2.2 0).length<=9600:=by
    obtain⟨hl,hv⟩:=gen_vals K G
    obtain⟨_,_,_,_,k4,k5⟩:=K.bx K.g6
    have hle:gW w r G*gW h r G<=40*40:=Nat.mul_le_mul k4 k5
    have:=gat_len' (f:=eA b w h r G x) (m:=6) (genS n b w h r t x u G).2.2 0 (fun i v hm=>eA_len K i v (hv v hm))
    rw[hF]
    omega
   have hA:=endAR (vv:=(F G).1) (cs:=(F G).2.1) K (by omega)
   have hB:=endBR (vv:=(F G).1) (cs:=(F G).2.1++gat (eA b w h r G x) (F G).2.2 0) K (by rw[List.length_append]; omega)
   rw[<- hF] at hA hB
   simp only[cond_true]
   unfold m_R45_ends_o
   rw[hA]
   simp only[some_bind]
   rw[hB]
   simp only[some_bind]
   rw[fitsR_eq]
   simp only[some_bind]
   rw[hfor]
   dsimp only
   cases fitB (F G).1 (((F G).2.1++gat (eA b w h r G x) (F G).2.2 0)++gat (eB w h r G x) (cellsV b (w*h)) 0)<;>rfl
 ·obtain⟨rv1,rX,rY,rW,rH,rvs,rcs⟩:=o
  dsimp only at hu1
  simp only[some_bind]
  rw[fitsR_eq]
  simp only[some_bind]
  rw[hu1,hu2]
  simp only[cond_false,some_bind]
  rw[fitsR_eq]
  simp only[some_bind]
  rw[hu1]
  rfl
theorem next_cl {m:Nat} {ins:Int->Int->List SV} {tr:List SV->List Node} {X Y:Int} {W H:Nat} {v:Int} {cs:List (List Int)} (hW:∀ i:Nat,i < m->WT n b H (ins (X+(i % W:Nat)) (Y+(i / W:Nat))) (tr (ins (X+(i % W:Nat)) (Y+(i / W:Nat))))) (hc:CL cs):∀ i,i<=m->CL (nextS b H ins tr X Y W (v,cs,[]) i).2.1
 | 0,_=>hc
 | i+1,hi=>by
  have ih:=next_cl (v:=v) hW hc i (by omega)
  have wt:=hW i (by omega)
  exact tree_cl' wt ih
theorem gat_cl {α:Type} {f:Nat->α->List (List Int)} {l:List α} {i:Nat} (h:∀ j x,CL (f j x)):CL (gat f l i):=fun d hd=>by
 obtain⟨j,x,_,hc⟩:=gat_mem hd
 exact h j x d hc
theorem gen_cl (K:PK n b w h r G t x u):∀ g,CL (genS n b w h r t x u g).2.1
 | 0=>(cells_cl K.R.sb.b3).app (gat_cl fun _ _=>gat_cl fun _ _=>same_cl _ _)
 | g+1=>by
  obtain⟨hl,hv⟩:=gen_vals K g
  exact next_cl (fun i _=>ins_wt K hl hv _ _) (gen_cl K g) _ (Nat.le_refl _)
theorem for_cl (K:PK n b w h r G t x u):CL (forS n b w h r G t x u).2:=by
 refine ((gen_cl K G).app (gat_cl fun i v=>?_)).app (gat_cl fun i v=>?_)
 ·unfold eA
  dsimp only
  cases isE v.2<;>cases inB 0 0 w h (gX r G+(i % gW w r G:Nat) - x.DX) (gX r G+(i / gW w r G:Nat) - x.DY)
  ·exact fix_cl _ _
  ·exact same_cl _ _
  ·exact CL.nil
  ·exact fix_cl _ _
 ·unfold eB
  cases inB (gX r G) (gX r G) (gW w r G) (gW h r G) ((i % w:Nat)+x.DX) ((i / w:Nat)+x.DY)
  ·exact fix_cl _ _
  ·exact CL.nil
end
theorem formulas_true (t:Tree) (x:Bl):m_L45_UnrollFormulas t x=some true:=by
 obtain⟨y,hy,hs⟩:=small_eq t x
 unfold m_L45_UnrollFormulas
 rw[hy,alive45]
 cases y with
 | false=>rfl
 | true =>
  obtain⟨hsz,hsl⟩:=hs rfl
  simp only[some_bind,bW,Bool.not_true,cond_false]
  by_cases h0:PC.chkE t x=0
  ·obtain⟨n,b,w,h,r,G,L,u,K⟩:=pk_of hsl h0
   rw[forP K hsz h0,forR K hsz h0]
   simp only[some_bind]
   cases hf:fitB (forS n b w h r G t x u).1 (forS n b w h r G t x u).2 with
   | true =>
    simp only[cond_true]
    rw[fit_eq hf (for_cl K).lt]
    simp only[some_bind,cond_true,eqB_self]
   | false =>
    simp only[cond_false]
    rw[equal41 ⟨0,[]⟩ (by simp) (fun c h=>by cases h)]
    rfl
  ·unfold m_unroll_Formula m_R45_Formula
   rw[PC.check_eq hsz (by omega),PC.checkR_eq hsz (by omega)]
   simp only[some_bind]
   rw[show neB (PC.chkE t x) 0=true from by simp[neB,h0],cond_true,cond_true]
   simp only[some_bind]
   rw[equal41 ⟨0,[]⟩ (by simp) (fun c h=>by cases h)]
   simp only[some_bind,cond_true,eqB_self]
end Go.Proofs.YtnkmjlncmlmnbaaGreatDoor
