/- Plain laws: the cells of a box as variables. -/
import Derived.Test.YtlifofijgddjkacGreatDoorUax1
namespace Go.Proofs.YtlifofijgddjkacGreatDoor
open Go.AM Go.Proofs
def exC (n b:Nat) (vs:List Int):List (List Int):=(List.range (2 ^ b - n)).map fun(k:Nat)=>agS vs ((n:Int)+k)
def d9 (b m:Nat):List SV:=(List.range m).map fun(i:Nat)=>((0:Int),cU ((i:Int)*b) b)
def gI (n b m:Nat):List (List Int):=gat (fun _ (v:SV)=>exC n b v.2) (d9 b m) 0
theorem exC_len {n b:Nat} (hb:b<=3) (vs:List Int):(exC n b vs).length<=8:=by
 unfold exC
 rw[List.length_map,List.length_range]
 have:2 ^ b<=2 ^ 3:=Nat.pow_le_pow_right (by omega) hb
 omega
theorem ij (b m:Nat):(d9 b m).length=m:=by simp[d9]
theorem cellsC_len {n b:Nat} (hb:b<=3) (m:Nat):(gI n b m).length<=8*m:=by
 have:=gat_len (f:=fun _ (v:SV)=>exC n b v.2) (m:=8) (fun _ v=>exC_len hb v.2) (d9 b m) 0
 rwa [ij] at this
theorem cellsV_ok {n b m:Nat}:∀ v∈d9 b m,VOk n b v/\v.2.length=b:=fun v hv=>by
 unfold d9 at hv
 obtain⟨i,_,rfl⟩:=List.mem_map.1 hv
 exact⟨.inr ⟨rfl,e6 _ _⟩,e6 _ _⟩
structure SB (n b:Nat):Prop where
 n2:2<=n
 n8:n<=8
 b1:1<=b
 b3:b<=3
 pw:n<=2 ^ b
 bits:PC.bitsOf (n:Int)=(b:Int)
theorem sb_of {n:Nat} (h2:2<=n) (h8:n<=8):∃ b,SB n b:=by
 rcases PC.bits_in (s:=(n:Int)) (by omega) (by omega) with ⟨h,k⟩ | ⟨h,k⟩ | ⟨h,k⟩
 ·exact⟨1,h2,h8,by omega,by omega,by omega,h⟩
 ·exact⟨2,h2,h8,by omega,by omega,by omega,h⟩
 ·exact⟨3,h2,h8,by omega,by omega,by omega,h⟩
theorem shl_b {n b:Nat} (B:SB n b):ishl .i64 1 (b:Int)=some ((2 ^ b:Nat):Int):=by
 have h1:=B.b1
 have h3:=B.b3
 match b,h1,h3 with
 | 1,_,_=>rfl
 | 2,_,_=>rfl
 | 3,_,_=>rfl
section
variable {n b:Nat} {S:Int} {Hd:List Point} {N:List Node} {mp:List (List UInt8×Tree)}
theorem ex_step (n _b:Nat) (vs:List Int) (k:Nat):(List.range (k+1)).map (fun(k:Nat)=>agS vs ((n:Int)+k))=(List.range k).map (fun(k:Nat)=>agS vs ((n:Int)+k))++[agS vs ((n:Int)+k)]:=by
 rw[List.range_succ,List.map_append]
 rfl
theorem exP {box:Box} {l:List Ba} {f a:Int} {v:SV} {cs:List (List Int)} (B:SB n b) (hl:v.2.length=b) (hc:cs.length<=1000000000):bh (cD (n:Int) Hd N (b:Int) mp box l f a (pv v)) bK ((n:Int),cs)=some (cs++exC n b v.2):=by
 have h1:=B.b1
 have h3:=B.b3
 have h8:=B.n8
 have hp:=B.pw
 have hq:2 ^ b<=2 ^ 3:=Nat.pow_le_pow_right (by omega) h3
 obtain⟨r,hr,rfl⟩:=dK (b:=cD (n:Int) Hd N (b:Int) mp box l f a (pv v)) (n:=2 ^ b - n) (s:=((n:Int),cs)) (fun k st=>st=((n:Int)+k,cs++(List.range k).map fun(k:Nat)=>agS v.2 ((n:Int)+k))) (fun r=>r=cs++exC n b v.2) (by omega) (by simp)
  (fun k st hk e=>by
   subst e
   refine .inl ⟨_,?_,rfl⟩
   unfold cD
   dsimp only
   rw[shl_b B]
   simp only[aX]
   rw[show ltB ((n:Int)+(k:Int)) ((2 ^ b:Nat):Int)=true from decide_eq_true (by omega),cond_true,show (pv v).vars=v.2 from rfl,nF (fun e=>by rw[e] at hl; simp at hl; omega),against_eq (by omega)]
   simp only[aX]
   rw[clauseP (by simp; omega),dW (a:=(n:Int)+k) (b:=1) (by omega),ex_step n b v.2 k,<- List.append_assoc]
   simp only[aX]
   rw[show (n:Int)+(k:Int)+1=(n:Int)+((k+1:Nat):Int) by omega])
  (fun st e=>by
   subst e
   refine⟨_,?_,rfl⟩
   unfold cD
   dsimp only
   rw[shl_b B]
   simp only[aX]
   rw[show ltB ((n:Int)+((2 ^ b - n:Nat):Int)) ((2 ^ b:Nat):Int)=false from decide_eq_false (by omega)]
   rfl)
 exact hr
theorem cellsV_succ (b i:Nat):d9 b (i+1)=d9 b i++[((0:Int),cU ((i:Int)*b) b)]:=by
 unfold d9
 rw[List.range_succ,List.map_append]
 rfl
theorem freeP {box:Box} {m:Nat} (B:SB n b) (hm:bO .i64 box.W box.H=(m:Int)) (hm1:m<=1000) :
  dr 0 [] (n:Int) Hd N (b:Int) mp box=some ((d9 b m).map pv,gI n b m,(m:Int)*b):=by
 have h1:=B.b1
 have h3:=B.b3
 have hmul:∀ i:Nat,i<=m->0<=(i:Int)*b/\(i:Int)*b<=1000000:=fun i hi=>by
  have:i*b<=1000*3:=Nat.mul_le_mul (by omega) h3
  have e:((i*b:Nat):Int)=(i:Int)*b:=Int.natCast_mul i b
  omega
 unfold dr
 obtain⟨r,hr,rfl⟩:=dK (b:=d5 [] (n:Int) Hd N (b:Int) mp box) (n:=m) (s:=(0,[],0)) (fun i st=>st=((i:Int),(d9 b i).map pv,(i:Int)*b)) (fun r=>r=((d9 b m).map pv,(m:Int)*b)) (by omega) (by simp[d9])
  (fun i st hi e=>by
   subst e
   refine .inl ⟨_,?_,rfl⟩
   have:=hmul i (by omega)
   unfold d5
   dsimp only
   rw[hm,show ltB (i:Int) (m:Int)=true from decide_eq_true (by omega),cond_true,freshP h3 (by omega) (by omega),d6 (by omega)]
   simp only[aX]
   rw[nF (fun e=>by have h9:=e6 ((i:Int)*b) b; rw[e] at h9; simp at h9; omega)]
   simp only[aX]
   rw[jm (by decide) (by decide) (by rw[List.length_map,ij]; simp; omega),cellsV_succ,List.map_append]
   simp only[aX]
   rw[show ((i+1:Nat):Int)*b=(i:Int)*b+b by rw[Int.natCast_add,Int.add_mul]; simp]
   rfl)
  (fun st e=>by
   subst e
   refine⟨_,?_,rfl⟩
   unfold d5
   dsimp only
   rw[hm,show ltB (m:Int) (m:Int)=false from decide_eq_false (by omega)]
   rfl)
 rw[hr]
 simp only[aX]
 have hg:=nG (b:=cY (n:Int) Hd N (b:Int) mp box ((d9 b m).map pv) ((m:Int)*b)) (d9 b m) (fun _ v=>exC n b v.2) 8 1000000 [] (fun _ v=>exC_len h3 v.2) (by rw[ij]; omega) (by rw[ij]; simp; omega)
  (fun i v ac hv hac=>by
   have hi:=cp hv
   rw[ij] at hi
   unfold cY
   dsimp only
   rw[show ltB (i:Int) (b9 ((d9 b m).map pv))=true from decide_eq_true (by unfold b9; rw[List.length_map,ij]; omega),cond_true,bJ,List.getElem?_map,hv,d6 (by omega)]
   simp only[Option.map_some,aX]
   rw[exP B (cellsV_ok (n:=n) v (List.mem_of_getElem? hv)).2 (by omega)]
   rfl)
  (fun ac=>by
   unfold cY
   dsimp only
   rw[show ltB ((d9 b m).length:Int) (b9 ((d9 b m).map pv))=false from decide_eq_false (by unfold b9; rw[List.length_map]; omega)]
   rfl)
 rw[hg]
 rfl
end
end Go.Proofs.YtlifofijgddjkacGreatDoor
namespace Go.Proofs.YtlifofijgddjkacGreatDoor
open Go.AM Go.Proofs
def inB (X Y:Int) (W H:Nat) (x y:Int):Bool:=leB X x && (ltB x (X+W) && (leB Y y && ltB y (Y+H)))
def atS (X Y:Int) (W H:Nat) (vals:List SV) (x y:Int):SV:=bif inB X Y W H x y then vals.getD ((y - Y).toNat*W+(x - X).toNat) (0,[]) else (0,[])
theorem inB_iff {X Y:Int} {W H:Nat} {x y:Int}:inB X Y W H x y=true↔X<=x/\x < X+W/\Y<=y/\y < Y+H:=by
 unfold inB leB ltB
 simp only[Bool.and_eq_true,decide_eq_true_eq]
theorem lin_lt {a c W H:Nat} (h1:a < H) (h2:c < W):a*W+c < W*H:=by
 have:=Nat.mul_le_mul_right W (show a+1<=H from h1)
 rw[Nat.add_mul,Nat.one_mul,Nat.mul_comm H W] at this
 omega
structure BX (X Y:Int) (W H:Nat):Prop where
 X0:-1000<=X
 X1:X<=1000
 Y0:-1000<=Y
 Y1:Y<=1000
 W1:W<=1000
 H1:H<=1000
theorem out_eq {X Y:Int} {W H:Nat} (B:BX X Y W H) {x y:Int} (hx:-100000<=x/\x<=100000) (hy:-100000<=y/\y<=100000) :
  (bif ltB (cu .i64 x X) 0 then some true else bif geB (cu .i64 x X) (W:Int) then some true else bif ltB (cu .i64 y Y) 0 then some true else some (geB (cu .i64 y Y) (H:Int)))=some (!inB X Y W H x y):=by
 obtain⟨b1,b2,b3,b4,b5,b6⟩:=B
 rw[od (a:=x) (b:=X) (by omega),od (a:=y) (b:=Y) (by omega)]
 simp only[fJ,gn]
 congr 1
 rw[Bool.eq_iff_iff,Bool.not_eq_true',<- Bool.not_eq_true,inB_iff]
 unfold ltB geB
 simp only[Bool.or_eq_true,decide_eq_true_eq]
 omega
theorem at_idx {X Y:Int} {W H:Nat} (B:BX X Y W H) {x y:Int} (hin:inB X Y W H x y=true):bm .i64 (bO .i64 (cu .i64 y Y) (W:Int)) (cu .i64 x X)=(((y - Y).toNat*W+(x - X).toNat:Nat):Int)/\(y - Y).toNat*W+(x - X).toNat < W*H:=by
 obtain⟨b1,b2,b3,b4,b5,b6⟩:=B
 obtain⟨c1,c2,c3,c4⟩:=inB_iff.1 hin
 have hlt:(y - Y).toNat*W+(x - X).toNat < W*H:=lin_lt (by omega) (by omega)
 have hle:W*H<=1000*1000:=Nat.mul_le_mul b5 b6
 have e:(((y - Y).toNat*W:Nat):Int)=(y - Y)*W:=by rw[Int.natCast_mul,Int.toNat_of_nonneg (by omega)]
 refine⟨?_,hlt⟩
 rw[od (a:=x) (b:=X) (by omega),od (a:=y) (b:=Y) (by omega),i7 (a:=y - Y) (b:=(W:Int)) (by omega),dW (by omega)]
 omega
theorem atP {X Y:Int} {W H:Nat} {vals:List SV} (B:BX X Y W H) (hl:vals.length=W*H) {x y:Int} (hx:-100000<=x/\x<=100000) (hy:-100000<=y/\y<=100000) :
  dM ⟨⟨X,Y,W,H⟩,vals.map pv⟩ x y=some (pv (atS X Y W H vals x y)):=by
 unfold dM atS
 dsimp only
 rw[out_eq B hx hy]
 simp only[aX]
 cases hin:inB X Y W H x y with
 | false=>rfl
 | true =>
  obtain⟨e1,e2⟩:=at_idx B hin
  rw[e1,bJ,List.getElem?_map,List.getElem?_eq_getElem (by omega),List.getD_eq_getElem?_getD,List.getElem?_eq_getElem (by omega)]
  rfl
def inS (X Y:Int) (W H:Nat) (vals:List SV) (Hd:List Point) (x y:Int):List SV:=Hd.map fun d=>atS X Y W H vals (x+d.X) (y+d.Y)
def cellN (b H:Nat) (ins:Int->Int->List SV) (tr:List SV->List Node) (X Y:Int) (W i:Nat) (st:FS):FS :=
 let in_:=ins (X+(i % W:Nat)) (Y+(i / W:Nat))
 let T:=dO b H in_ (tr in_) (st.1,st.2.1,[])
 (T.1,T.2.1,st.2.2++[T.2.2.getLastD (0,[])])
def im (b H:Nat) (ins:Int->Int->List SV) (tr:List SV->List Node) (X Y:Int) (W:Nat) (st:FS):Nat->FS
 | 0=>st
 | i+1=>cellN b H ins tr X Y W i (im b H ins tr X Y W st i)
theorem cell_mono (b H:Nat) (ins:Int->Int->List SV) (tr:List SV->List Node) (X Y:Int) (W i:Nat) (st:FS):st.1<=(cellN b H ins tr X Y W i st).1/\st.2.1.length<=(cellN b H ins tr X Y W i st).2.1.length:=tree_mono b H _ _ (st.1,st.2.1,[])
theorem next_mono (b H:Nat) (ins:Int->Int->List SV) (tr:List SV->List Node) (X Y:Int) (W:Nat) (st:FS) (i:Nat):∀ k,(im b H ins tr X Y W st i).1<=(im b H ins tr X Y W st (i+k)).1/\(im b H ins tr X Y W st i).2.1.length<=(im b H ins tr X Y W st (i+k)).2.1.length
 | 0=>⟨Int.le_refl _,Nat.le_refl _⟩
 | k+1=>by
  have h1:=next_mono b H ins tr X Y W st i k
  have h2:=cell_mono b H ins tr X Y W (i+k) (im b H ins tr X Y W st (i+k))
  show _<=(cellN b H ins tr X Y W (i+k) (im b H ins tr X Y W st (i+k))).1/\_<=(cellN b H ins tr X Y W (i+k) (im b H ins tr X Y W st (i+k))).2.1.length
  omega
theorem next_fit {b H:Nat} {ins:Int->Int->List SV} {tr:List SV->List Node} {X Y:Int} {W:Nat} {st:FS} {i m:Nat} (hi:i<=m) (h:jo (im b H ins tr X Y W st m).1 (im b H ins tr X Y W st m).2.1=true):jo (im b H ins tr X Y W st i).1 (im b H ins tr X Y W st i).2.1=true:=by
 have:=next_mono b H ins tr X Y W st i (m - i)
 rw[show i+(m - i)=m by omega] at this
 exact fit_of_le this.1 this.2 h
theorem o8 {α:Type} {l:List α} {d:α} (h:1<=l.length):l.getLastD d∈l:=by
 rw[List.getLastD_eq_getLast?,List.getLast?_eq_getElem?,List.getElem?_eq_getElem (show l.length - 1 < l.length by omega)]
 exact List.getElem_mem _
theorem next_vals {n b H:Nat} {ins:Int->Int->List SV} {tr:List SV->List Node} {X Y:Int} {W m:Nat} {v:Int} {cs:List (List Int)} (hW:∀ i:Nat,i < m->WT n b H (ins (X+(i % W:Nat)) (Y+(i / W:Nat))) (tr (ins (X+(i % W:Nat)) (Y+(i / W:Nat))))):∀ i,i<=m->(im b H ins tr X Y W (v,cs,[]) i).2.2.length=i/\∀ u∈(im b H ins tr X Y W (v,cs,[]) i).2.2,VOk n b u
 | 0,_=>⟨rfl,fun u hu=>by cases hu⟩
 | i+1,hi=>by
  obtain⟨h1,h2⟩:=next_vals (v:=v) (cs:=cs) hW i (by omega)
  have w:=hW i (by omega)
  generalize hs:im b H ins tr X Y W (v,cs,[]) i=st at h1 h2
  have e:im b H ins tr X Y W (v,cs,[]) (i+1)=cellN b H ins tr X Y W i st:=by rw[<- hs]; rfl
  rw[e]
  unfold cellN
  dsimp only
  refine⟨by rw[List.length_append,h1]; rfl,fun u hu=>?_⟩
  rcases List.mem_append.1 hu with hu | hu
  ·exact h2 u hu
  ·rw[List.mem_singleton.1 hu]
   have T:=TI.at_ w (TI.init (n:=n) (b:=b) (n0:=st.1) (cs:=st.2.1)) _ (Nat.le_refl _)
   rw[List.take_length] at T
   exact T.ok _ (o8 (by rw[T.of_]; exact w.ne))
theorem gat_map {α β:Type} (f:α->β):∀ (l:List α) (i:Nat),gat (fun _ d=>[f d]) l i=l.map f
 | [],_=>rfl
 | d::l,i=>by rw[gat,gat_map f l (i+1)]; rfl
section
variable {n b:Nat} {S:Int} {Hd:List Point} {N:List Node}
theorem insP {X Y:Int} {W H:Nat} {vals:List SV} {box:Box} {fixed:Bool} {y x:Int} {l2:List Ba} {l3:List (List Int)} {v2:Int} {mp:List (List UInt8×Tree)} {bb:Int} (B:BX X Y W H) (hl:vals.length=W*H) (hh:Hd.length<=25) (hd:∀ d∈Hd,-2<=d.X/\d.X<=2/\-2<=d.Y/\d.Y<=2) (hx:-10000<=x/\x<=10000) (hy:-10000<=y/\y<=10000) :
  bh (cE S Hd N bb ⟨⟨X,Y,W,H⟩,vals.map pv⟩ box fixed y x l2 l3 v2 mp) bK (0,[])=some ((inS X Y W H vals Hd x y).map pv):=by
 have hg:=nG (b:=cE S Hd N bb ⟨⟨X,Y,W,H⟩,vals.map pv⟩ box fixed y x l2 l3 v2 mp) Hd (fun _ d=>[pv (atS X Y W H vals (x+d.X) (y+d.Y))]) 1 1000 [] (fun _ _=>Nat.le_refl _) (by omega) (by simp; omega)
  (fun i d ac hdi hac=>by
   have hi:=cp hdi
   obtain⟨d1,d2,d3,d4⟩:=hd d (List.mem_of_getElem? hdi)
   unfold cE
   dsimp only
   rw[bG,decide_eq_true hi,cond_true,bJ,hdi,d6 (by omega)]
   simp only[aX]
   rw[dW (a:=x) (b:=d.X) (by omega),dW (a:=y) (b:=d.Y) (by omega),atP B hl (by omega) (by omega)]
   simp only[aX]
   rw[jm (by decide) (by decide) (by simp; omega)]
   rfl)
  (fun ac=>by
   unfold cE
   dsimp only
   rw[bG,decide_eq_false (Nat.lt_irrefl _)]
   rfl)
 rw[hg,List.nil_append,gat_map]
 unfold inS
 rw[List.map_map]
 rfl
theorem nextP {fX fY:Int} {fW fH:Nat} {vals:List SV} {X Y:Int} {W H:Nat} {fixed:Bool} {tr:List SV->List Node} {MOk:List (List UInt8×Tree)->Prop} {v0:Int} {cs0:List (List Int)} {mp0:List (List UInt8×Tree)}
  (Bf:BX fX fY fW fH) (hl:vals.length=fW*fH) (hh:Hd.length<=25) (hd:∀ d∈Hd,-2<=d.X/\d.X<=2/\-2<=d.Y/\d.Y<=2) (Bx:BX X Y W H) (hH1:1<=H) (hW1:1<=W)
  (hW:∀ i:Nat,i < W*H->WT n b Hd.length (inS fX fY fW fH vals Hd (X+(i % W:Nat)) (Y+(i / W:Nat))) (tr (inS fX fY fW fH vals Hd (X+(i % W:Nat)) (Y+(i / W:Nat)))))
  (hfix:∀ v cs mp x y,MOk mp->∃ mp',(bif fixed then
    (eu v cs S Hd N (b:Int) mp ((inS fX fY fW fH vals Hd x y).map pv)).bind fun y1=>some (y1.1,y1.2.1,y1.2.2.1,y1.2.2.2)
   else some (S,Hd,N,mp))=some (S,Hd,tr (inS fX fY fW fH vals Hd x y),mp')/\MOk mp')
  (hm:MOk mp0) (hv0:0<=v0) (hv1:v0<=1000000) (hc0:cs0.length<=100000000) :
  ∃ r,dm v0 cs0 S Hd N (b:Int) mp0 ⟨⟨fX,fY,fW,fH⟩,vals.map pv⟩ ⟨X,Y,W,H⟩ fixed=some r /\
   ((∃ mp,MOk mp/\jo (im b Hd.length (inS fX fY fW fH vals Hd) tr X Y W (v0,cs0,[]) (W*H)).1 (im b Hd.length (inS fX fY fW fH vals Hd) tr X Y W (v0,cs0,[]) (W*H)).2.1=true /\
     r=(X,Y,(W:Int),(H:Int),(im b Hd.length (inS fX fY fW fH vals Hd) tr X Y W (v0,cs0,[]) (W*H)).2.2.map pv,true,(im b Hd.length (inS fX fY fW fH vals Hd) tr X Y W (v0,cs0,[]) (W*H)).1,mp,(im b Hd.length (inS fX fY fW fH vals Hd) tr X Y W (v0,cs0,[]) (W*H)).2.1)) \/
    (jo (im b Hd.length (inS fX fY fW fH vals Hd) tr X Y W (v0,cs0,[]) (W*H)).1 (im b Hd.length (inS fX fY fW fH vals Hd) tr X Y W (v0,cs0,[]) (W*H)).2.1=false/\r.2.2.2.2.2.1=false)):=by
 obtain⟨c1,c2,c3,c4,c5,c6⟩:=id Bx
 have hle:W*H<=1000*1000:=Nat.mul_le_mul c5 c6
 obtain⟨F,hF⟩:∃ F,F=im b Hd.length (inS fX fY fW fH vals Hd) tr X Y W (v0,cs0,[]):=⟨_,rfl⟩
 have hF0:F 0=(v0,cs0,[]):=by rw[hF]; rfl
 have hstep:∀ i,F (i+1)=cellN b Hd.length (inS fX fY fW fH vals Hd) tr X Y W i (F i):=fun i=>by rw[hF]; rfl
 have hval:∀ i,i<=W*H->(F i).2.2.length=i:=fun i hi=>by rw[hF]; exact (next_vals hW i hi).1
 have hfit:∀ {i m:Nat},i<=m->jo (F m).1 (F m).2.1=true->jo (F i).1 (F i).2.1=true:=fun hi h=>by rw[hF] at h ⊢; exact next_fit hi h
 have hlow:∀ i,v0<=(F i).1:=fun i=>by
  have:=next_mono b Hd.length (inS fX fY fW fH vals Hd) tr X Y W (v0,cs0,[]) 0 i
  rw[Nat.zero_add] at this
  rw[hF]
  exact this.1
 rw[<- hF]
 have row:∀ yy mp,yy < H->MOk mp->(yy=0 \/ jo (F (yy*W)).1 (F (yy*W)).2.1=true)->∃ o,bh (co S Hd N (b:Int) ⟨⟨fX,fY,fW,fH⟩,vals.map pv⟩ ⟨X,Y,W,H⟩ fixed (Y+(yy:Int))) bK (X,(F (yy*W)).2.2.map pv,(F (yy*W)).2.1,(F (yy*W)).1,mp)=some o /\
   ((∃ mp',MOk mp'/\jo (F ((yy+1)*W)).1 (F ((yy+1)*W)).2.1=true/\o=.inr ((F ((yy+1)*W)).2.2.map pv,(F ((yy+1)*W)).2.1,(F ((yy+1)*W)).1,mp')) \/ (∃ k r,k<=W*H/\jo (F k).1 (F k).2.1=false/\o=.inl r/\r.2.2.2.2.2.1=false)):=fun yy mp hyy hmp hfy=>by
  have hrow:(yy+1)*W<=W*H:=by rw[Nat.mul_comm W H]; exact Nat.mul_le_mul_right W hyy
  have hsp:(yy+1)*W=yy*W+W:=by rw[Nat.add_mul,Nat.one_mul]
  refine dK (b:=co S Hd N (b:Int) ⟨⟨fX,fY,fW,fH⟩,vals.map pv⟩ ⟨X,Y,W,H⟩ fixed (Y+(yy:Int))) (n:=W)
   (fun j st=>∃ mp,st=(X+(j:Int),(F (yy*W+j)).2.2.map pv,(F (yy*W+j)).2.1,(F (yy*W+j)).1,mp)/\MOk mp/\(yy*W+j=0 \/ jo (F (yy*W+j)).1 (F (yy*W+j)).2.1=true)) _ (by omega) ⟨mp,by simp,hmp,by
    rcases hfy with h | h
    ·exact .inl (by rw[h]; simp)
    ·exact .inr h⟩ (fun j st hj ⟨mp,e,hmp,hf⟩=>?_) (fun st ⟨mp,e,hmp,hf⟩=>?_)
  ·subst e
   have hk:yy*W+j < W*H:=by omega
   have e1:(yy*W+j) % W=j:=by rw[Nat.add_comm,Nat.add_mul_mod_self_right,Nat.mod_eq_of_lt hj]
   have e2:(yy*W+j) / W=yy:=by rw[Nat.add_comm,Nat.add_mul_div_right _ _ (by omega),Nat.div_eq_of_lt hj,Nat.zero_add]
   have hb1:(F (yy*W+j)).1<=1000000/\(F (yy*W+j)).2.1.length<=100000000:=by
    rcases hf with h | h
    ·rw[h,hF0]; exact⟨hv1,hc0⟩
    ·have:=fit_len h; omega
   have hlo:=hlow (yy*W+j)
   have hvl:=hval (yy*W+j) (by omega)
   have hn:=hstep (yy*W+j)
   unfold cellN at hn
   rw[e1,e2] at hn
   dsimp only at hn
   obtain⟨mp',hfx,hmp'⟩:=hfix (F (yy*W+j)).1 (F (yy*W+j)).2.1 mp (X+(j:Int)) (Y+(yy:Int)) hmp
   have w:=hW (yy*W+j) hk
   rw[e1,e2] at w
   have hT:=treeP (t:=⟨S,Hd,tr (inS fX fY fW fH vals Hd (X+(j:Int)) (Y+(yy:Int)))⟩) (S:=S) (Hd:=Hd) (N:=N) (mp:=mp') (v:=(F (yy*W+j)).1) (cs:=(F (yy*W+j)).2.1) w (by omega) (by omega) (by omega)
   dsimp only at hT
   have hbody:co S Hd N (b:Int) ⟨⟨fX,fY,fW,fH⟩,vals.map pv⟩ ⟨X,Y,W,H⟩ fixed (Y+(yy:Int)) (X+(j:Int),(F (yy*W+j)).2.2.map pv,(F (yy*W+j)).2.1,(F (yy*W+j)).1,mp) =
     some (bif !jo (F (yy*W+j+1)).1 (F (yy*W+j+1)).2.1 then .out (.inl (0,0,0,0,[],false,(F (yy*W+j+1)).1,mp',(F (yy*W+j+1)).2.1)) else .next (X+((j+1:Nat):Int),(F (yy*W+j+1)).2.2.map pv,(F (yy*W+j+1)).2.1,(F (yy*W+j+1)).1,mp')):=by
    unfold co
    dsimp only
    rw[dW (a:=X) (b:=(W:Int)) (by omega),show ltB (X+(j:Int)) (X+(W:Int))=true from decide_eq_true (by omega),cond_true,insP Bf hl hh hd (by omega) (by omega)]
    simp only[aX]
    rw[hfx]
    simp only[aX]
    rw[hT]
    simp only[aX]
    rw[jm (by decide) (by decide) (by simp[hvl]; omega)]
    simp only[aX]
    rw[largeP_eq]
    simp only[aX]
    rw[hn,dW (a:=X+(j:Int)) (b:=1) (by omega),fJ]
    dsimp only
    rw[List.map_append,show X+(j:Int)+1=X+((j+1:Nat):Int) by omega]
    rfl
   rw[hbody]
   cases hft:jo (F (yy*W+j+1)).1 (F (yy*W+j+1)).2.1 with
   | true=>exact .inl ⟨_,rfl,mp',rfl,hmp',.inr rfl⟩
   | false=>exact .inr ⟨_,rfl,.inr ⟨_,_,by omega,hft,rfl,rfl⟩⟩
  ·subst e
   refine⟨.inr ((F (yy*W+W)).2.2.map pv,(F (yy*W+W)).2.1,(F (yy*W+W)).1,mp),?_,.inl ⟨mp,hmp,?_,by rw[hsp]⟩⟩
   ·unfold co
    dsimp only
    rw[dW (a:=X) (b:=(W:Int)) (by omega),show ltB (X+(W:Int)) (X+(W:Int))=false from decide_eq_false (by omega)]
    rfl
   ·rw[hsp]
    rcases hf with h | h
    ·omega
    ·exact h
 unfold dm
 obtain⟨o,ho,hq⟩:=dK (b:=cW S Hd N (b:Int) ⟨⟨fX,fY,fW,fH⟩,vals.map pv⟩ ⟨X,Y,W,H⟩ fixed) (n:=H) (s:=(Y,[],cs0,v0,mp0))
  (fun yy st=>∃ mp,st=(Y+(yy:Int),(F (yy*W)).2.2.map pv,(F (yy*W)).2.1,(F (yy*W)).1,mp)/\MOk mp/\(yy=0 \/ jo (F (yy*W)).1 (F (yy*W)).2.1=true))
  (fun o=>(∃ mp',MOk mp'/\jo (F (W*H)).1 (F (W*H)).2.1=true/\o=.inr ((F (W*H)).2.2.map pv,(F (W*H)).2.1,(F (W*H)).1,mp')) \/ (∃ k r,k<=W*H/\jo (F k).1 (F k).2.1=false/\o=.inl r/\r.2.2.2.2.2.1=false)) (by omega)
  ⟨mp0,by simp[hF0],hm,.inl rfl⟩
  (fun yy st hyy ⟨mp,e,hmp,hf⟩=>by
   subst e
   obtain⟨o,ho,hq⟩:=row yy mp hyy hmp hf
   unfold cW
   dsimp only
   rw[dW (a:=Y) (b:=(H:Int)) (by omega),show ltB (Y+(yy:Int)) (Y+(H:Int))=true from decide_eq_true (by omega),cond_true,ho,dW (a:=Y+(yy:Int)) (b:=1) (by omega)]
   rcases hq with ⟨mp',h1,h2,rfl⟩ | ⟨k,r,h1,h2,rfl,h3⟩
   ·exact .inl ⟨_,rfl,mp',by rw[show Y+(yy:Int)+1=Y+((yy+1:Nat):Int) by omega],h1,.inr h2⟩
   ·exact .inr ⟨_,rfl,.inr ⟨k,r,h1,h2,rfl,h3⟩⟩)
  (fun st ⟨mp,e,hmp,hf⟩=>by
   subst e
   refine⟨.inr ((F (W*H)).2.2.map pv,(F (W*H)).2.1,(F (W*H)).1,mp),?_,.inl ⟨mp,hmp,?_,rfl⟩⟩
   ·unfold cW
    dsimp only
    rw[dW (a:=Y) (b:=(H:Int)) (by omega),show ltB (Y+(H:Int)) (Y+(H:Int))=false from decide_eq_false (by omega),Nat.mul_comm H W]
    rfl
   ·rw[Nat.mul_comm W H]
    rcases hf with h | h
    ·omega
    ·exact h)
 rw[ho]
 rcases hq with ⟨mp',h1,h2,rfl⟩ | ⟨k,r,h1,h2,rfl,h3⟩
 ·exact⟨_,rfl,.inl ⟨mp',h1,h2,rfl⟩⟩
 ·refine⟨_,rfl,.inr ⟨?_,h3⟩⟩
  cases hft:jo (F (W*H)).1 (F (W*H)).2.1 with
  | false=>rfl
  | true=>rw[hfit h1 hft] at h2; cases h2
end
end Go.Proofs.YtlifofijgddjkacGreatDoor
namespace Go.Proofs.YtlifofijgddjkacGreatDoor
open Go.AM Go.Proofs
theorem small_eq (t:Tree) (x:B8):∃ y,l6 t x=some y/\(y=true->Sz t/\x.Syms.length<=20):=by
 unfold l6
 simp only[fJ,aX,gn,bif_some_f]
 cases h1:gtB (b9 t.Nodes) 150 with
 | true=>exact⟨false,rfl,fun h=>by cases h⟩
 | false =>
  cases h2:gtB (b9 t.Hood) 9 with
  | true=>exact⟨false,rfl,fun h=>by cases h⟩
  | false =>
   cases h3:gtB (b9 x.Syms) 20 with
   | true=>exact⟨false,rfl,fun h=>by cases h⟩
   | false =>
    have e1:=of_decide_eq_false h1
    have e2:=of_decide_eq_false h2
    have e3:=of_decide_eq_false h3
    unfold b9 at e1 e2 e3
    rw[loop_any t.Nodes (fun _ n=>gtB (b9 n.Next) 20) false (by omega) (fun i n hn=>by
     unfold jB
     dsimp only
     rw[bG,decide_eq_true (cp hn),cond_true,bJ,hn,d6 (by have:=cp hn; omega)]
     simp only[aX,fJ]) (by
     unfold jB
     dsimp only
     rw[bG,decide_eq_false (Nat.lt_irrefl _)]
     rfl)]
    cases hG:gtB x.Gens 3 && leB x.Gens 6 with
    | true=>exact⟨false,rfl,fun h=>by cases h⟩
    | false =>
     cases ha:jJ (fun _ n=>gtB (b9 n.Next) 20) t.Nodes 0 with
     | true=>exact⟨false,rfl,fun h=>by cases h⟩
     | false =>
      refine⟨_,rfl,fun _=>⟨⟨by omega,by omega,fun n hn=>?_⟩,by omega⟩⟩
      obtain⟨j,hj⟩:=List.getElem?_of_mem hn
      have:=gj ha j n hj
      have:=of_decide_eq_false this
      unfold b9 at this
      omega
theorem hood_pts {l:List Point} (h:ju l=true):1<=l.length/\l.length<=25/\∀ d∈l,-2<=d.X/\d.X<=2/\-2<=d.Y/\d.Y<=2:=by
 simp only[ju,Bool.and_eq_true,Bool.not_eq_true',Bool.or_eq_false_iff] at h
 have c1:=of_decide_eq_false h.1.1
 have c2:=of_decide_eq_false h.1.2
 unfold b9 at c1 c2
 refine⟨by omega,by omega,fun d hd=>?_⟩
 obtain⟨i,hi⟩:=List.mem_iff_getElem?.1 hd
 have hb:=gj h.2 i d hi
 rw[Nat.zero_add] at hb
 unfold badP at hb
 simp only[Bool.or_eq_false_iff] at hb
 obtain⟨e1,e2,e3,e4,_⟩:=hb
 have f1:=of_decide_eq_false e1
 have f2:=of_decide_eq_false e2
 have f3:=of_decide_eq_false e3
 have f4:=of_decide_eq_false e4
 omega
theorem ineg_in {a:Int} (h:-1000000<=a/\a<=1000000):cQ .i64 a=-a:=by unfold cQ; rw[i64_in (by omega)]; omega
theorem rad_of {l:List Point} (h:ju l=true):∃ r:Nat,dw l=some (r:Int)/\i6 l=some (r:Int)/\r<=2/\∀ d∈l,-(r:Int)<=d.X/\d.X<=r/\-(r:Int)<=d.Y/\d.Y<=r:=by
 obtain⟨h1,h25,hp⟩:=hood_pts h
 obtain⟨r,hr,hq⟩:=dK (b:=dT l) (n:=l.length) (s:=(0,0)) (fun i st=>st.2=(i:Int)/\0<=st.1/\st.1<=2/\∀ (j:Nat) d,j < i->l[j]?=some d->-st.1<=d.X/\d.X<=st.1/\-st.1<=d.Y/\d.Y<=st.1)
  (fun r=>0<=r/\r<=2/\∀ d∈l,-r<=d.X/\d.X<=r/\-r<=d.Y/\d.Y<=r) (by omega) ⟨rfl,Int.le_refl _,by show (0:Int)<=2; omega,fun j d hj=>by omega⟩
  (fun i st hi ⟨e,e1,e2,e3⟩=>by
   obtain⟨q,a⟩:=st
   dsimp only at e e1 e2 e3
   subst e
   have hx:l[i]?=some l[i]:=List.getElem?_eq_getElem hi
   generalize l[i]=d at hx
   obtain⟨d1,d2,d3,d4⟩:=hp d (List.mem_of_getElem? hx)
   refine .inl ⟨(gy (gy (gy (gy q d.X) (cQ .i64 d.X)) d.Y) (cQ .i64 d.Y),((i+1:Nat):Int)),?_,?_⟩
   ·unfold dT
    dsimp only
    rw[bG,decide_eq_true hi,cond_true,bJ,hx,d6 (by omega)]
    rfl
   ·rw[ineg_in (by omega),ineg_in (by omega)]
    have m1:=imax_is q d.X
    have m2:=imax_is (gy q d.X) (-d.X)
    have m3:=imax_is (gy (gy q d.X) (-d.X)) d.Y
    have m4:=imax_is (gy (gy (gy q d.X) (-d.X)) d.Y) (-d.Y)
    dsimp only
    refine⟨rfl,by omega,by omega,fun j d' hj hd'=>?_⟩
    rcases Nat.lt_succ_iff_lt_or_eq.1 hj with hj | rfl
    ·have:=e3 j d' hj hd'
     omega
    ·rw[hx] at hd'
     cases hd'
     omega)
  (fun st ⟨e,e1,e2,e3⟩=>by
   obtain⟨q,a⟩:=st
   dsimp only at e e1 e2 e3
   subst e
   refine⟨q,?_,e1,e2,fun d hd=>?_⟩
   ·unfold dT
    dsimp only
    rw[bG,decide_eq_false (Nat.lt_irrefl _)]
    rfl
   ·obtain⟨j,hj⟩:=List.mem_iff_getElem?.1 hd
    exact e3 j d (cp hj) hj)
 have hR:dw l=some r:=by
  unfold dw
  rw[hood_eq (by omega),h]
  simp only[aX,cond_true]
  rw[hr]
  rfl
 refine⟨r.toNat,by rw[hR]; congr 1; omega,by rw[rad_eq (by omega),hR]; congr 1; omega,by omega,fun d hd=>?_⟩
 have:=hq.2.2 d hd
 omega
def sizeB (g:Grid):Bool:=geB g.W 1 && (leB g.W 256 && (geB g.H 1 && (leB g.H 256 && (leB (bO .i64 g.W g.H) 4096 && (geB g.Edge 0 && leB g.Edge 2)))))
def badG (_:Nat) (s:Int):Bool:=ltB s 0 || geB s 8
def oE (g:Grid):Bool:=sizeB g && (eqB (b9 g.Cells) (bO .i64 g.W g.H) && !jJ badG g.Cells 0)
theorem loop_find {α:Type} {b:Int->Option (Lp Int (Int ⊕ Unit))} (l:List α) (bad:Nat->α->Bool) (hl:l.length < 1099511627776)
  (hs:∀ (i:Nat) (x:α),l[i]?=some x->b i=some (bif bad i x then .out (.inl (i:Int)) else .next ((i+1:Nat):Int)))
  (he:b (l.length:Nat)=some (.out (.inr ()))):∃ o,bh b bK 0=some o/\((jJ bad l 0=true/\∃ k:Nat,o=.inl (k:Int)) \/ (jJ bad l 0=false/\o=.inr ())):=by
 obtain⟨o,ho,hq⟩:=dK (b:=b) (n:=l.length) (s:=0) (fun i st=>st=(i:Int)/\∀ (j:Nat) x,j < i->l[j]?=some x->bad j x=false)
  (fun o=>(jJ bad l 0=true/\∃ k:Nat,o=.inl (k:Int)) \/ (jJ bad l 0=false/\o=.inr ())) hl ⟨rfl,fun j x hj=>by omega⟩
  (fun i st hi ⟨e,h⟩=>by
   subst e
   have hx:l[i]?=some l[i]:=List.getElem?_eq_getElem hi
   generalize l[i]=x at hx
   rw[hs i x hx]
   cases hb:bad i x with
   | false =>
    refine .inl ⟨_,rfl,rfl,fun j y hj hy=>?_⟩
    rcases Nat.lt_succ_iff_lt_or_eq.1 hj with hj | rfl
    ·exact h j y hj hy
    ·rw[hx] at hy; cases hy; exact hb
   | true =>
    refine .inr ⟨_,rfl,.inl ⟨?_,i,rfl⟩⟩
    rw[<- Bool.not_eq_false]
    intro ha
    have:=gj ha i x hx
    rw[Nat.zero_add,hb] at this
    cases this)
  (fun st ⟨e,h⟩=>by
   subst e
   exact⟨_,he,.inr ⟨anyB_of_false fun j x hx=>by rw[Nat.zero_add]; exact h j x (cp hx) hx,rfl⟩⟩)
 exact⟨o,ho,hq⟩
theorem grid_eq {g:Grid} (hl:g.Cells.length < 1099511627776):kr g=some (oE g):=by
 have hc:bX g.Cells=some (jJ badG g.Cells 0):=by
  unfold bX cC
  obtain⟨o,ho,hq⟩:=loop_find (b:=bM g.Cells) g.Cells badG hl (fun i x hx=>by
   unfold bM kw badG
   dsimp only
   rw[bG,decide_eq_true (cp hx),cond_true,bJ,hx,d6 (by have:=cp hx; omega)]
   simp only[aX,fJ,gn]) (by
   unfold bM
   dsimp only
   rw[bG,decide_eq_false (Nat.lt_irrefl _)]
   rfl)
  rw[ho]
  rcases hq with ⟨h1,k,rfl⟩ | ⟨h1,rfl⟩
  ·rw[h1]
   simp only[aX]
   rw[show geB (k:Int) 0=true from decide_eq_true (by omega)]
  ·rw[h1]
   rfl
 unfold kr lT oE sizeB
 rw[hc]
 simp only[fJ,aX,bif_some_f,fi]
structure GOk (g:Grid) (w h:Nat):Prop where
 W:g.W=(w:Int)
 H:g.H=(h:Int)
 w1:1<=w
 w2:w<=256
 h1:1<=h
 h2:h<=256
 len:g.Cells.length=w*h
 cell:∀ s∈g.Cells,0<=s/\s < 8
theorem grid_ok {g:Grid} (h:oE g=true):∃ w h,GOk g w h:=by
 unfold oE sizeB at h
 simp only[Bool.and_eq_true,Bool.not_eq_true'] at h
 obtain⟨⟨h1,h2,h3,h4,_⟩,h5,h6⟩:=h
 have e1:=of_decide_eq_true h1
 have e2:=of_decide_eq_true h2
 have e3:=of_decide_eq_true h3
 have e4:=of_decide_eq_true h4
 have hm0:0<=g.W*g.H:=Int.mul_nonneg (by omega) (by omega)
 have hm1:g.W*g.H<=256*256:=Int.mul_le_mul (by omega) (by omega) (by omega) (by omega)
 have e5:b9 g.Cells=bO .i64 g.W g.H:=by simpa [eqB] using h5
 rw[i7 (by omega)] at e5
 unfold b9 at e5
 refine⟨g.W.toNat,g.H.toNat,by omega,by omega,by omega,by omega,by omega,by omega,?_,fun s hs=>?_⟩
 ·have:((g.W.toNat*g.H.toNat:Nat):Int)=g.W*g.H:=by rw[Int.natCast_mul,Int.toNat_of_nonneg (by omega),Int.toNat_of_nonneg (by omega)]
  omega
 ·obtain⟨j,hj⟩:=List.mem_iff_getElem?.1 hs
  have:=gj h6 j s hj
  simp only[badG,Bool.or_eq_false_iff] at this
  have f1:=of_decide_eq_false this.1
  have f2:=of_decide_eq_false this.2
  omega
end Go.Proofs.YtlifofijgddjkacGreatDoor
namespace Go.Proofs.YtlifofijgddjkacGreatDoor
open Go.AM Go.Proofs
structure RT (n b:Nat) (t:Tree) (ns:List Node):Prop where
 sb:SB n b
 st:t.States=(n:Int)
 ok:iS t=true
 tok:TOk n t
 red:TOk n ⟨t.States,t.Hood,ns⟩
 P:ge t=some ⟨t.States,t.Hood,ns⟩
theorem rt_of {t:Tree} (hok:iS t=true):∃ n b ns,RT n b t ns:=by
 obtain⟨n,h⟩:=ok_tree hok
 obtain⟨b,B⟩:=sb_of h.n2 h.n8
 obtain⟨L,i,u,hi,hL,hr,_⟩:=h.rep
 have h1:=reduce_P hok h hi hL hr
 exact⟨n,b,_,B,h.st,hok,h,(h.red hL hr).1,h1⟩
theorem startP {n b:Nat} {t:Tree} {ns:List Node} (R:RT n b t ns):gO t=some ((n:Int),t.Hood,ns,(b:Int)):=by
 unfold gO
 rw[R.P,PC.bits_eq]
 simp only[aX]
 rw[R.st,R.sb.bits]
theorem wt_free {n b:Nat} {t:Tree} {ns:List Node} (R:RT n b t ns) {in_:List SV} (hl:in_.length=t.Hood.length) (hv:∀ v∈in_,VOk n b v/\v.2.length=b):WT n b t.Hood.length in_ ns:=by
 have h:=R.red
 obtain⟨i,x,e1,e2,_⟩:=h.root
 refine⟨R.sb.n2,R.sb.n8,R.sb.b1,R.sb.b3,h.h25,h.nodes,by show 1<=ns.length; dsimp only at e1; omega,h.good,h.lev,hl,fun v hv'=>(hv v hv').1,fun x hx _ e=>?_⟩
 obtain⟨j,hj⟩:=List.mem_iff_getElem?.1 hx
 have h1:=h.good.lev j x hj
 have h2:=h.lev x hx
 have hH:=h.h1
 dsimp only at h2 hH
 unfold rdS at e
 have hlt:t.Hood.length - x.Level.toNat < in_.length:=by omega
 rw[List.getD_eq_getElem?_getD,List.getElem?_eq_getElem hlt] at e
 have:=(hv _ (List.getElem_mem hlt)).2
 have hb:=R.sb.b1
 simp only[Option.getD_some] at e
 rw[e] at this
 simp at this
 omega
def endC (u:SV) (s:Int):List (List Int):=bif isE u.2 then (bif neB u.1 s then [[]] else []) else fixS u.2 s
def parC (b H:Nat) (ins:Int->Int->List SV) (ns:List Node) (w:Nat) (cells:List Int) (i:Nat) (st:Int×List (List Int)):Int×List (List Int) :=
 let T:=dO b H (ins (i % w:Nat) (i / w:Nat)) ns (st.1,st.2,[])
 (T.1,T.2.1++endC (T.2.2.getLastD (0,[])) (cells.getD i 0))
def iP (b H:Nat) (ins:Int->Int->List SV) (ns:List Node) (w:Nat) (cells:List Int) (st:Int×List (List Int)):Nat->Int×List (List Int)
 | 0=>st
 | i+1=>parC b H ins ns w cells i (iP b H ins ns w cells st i)
section
variable {n b H:Nat} {ins:Int->Int->List SV} {ns:List Node} {w:Nat} {cells:List Int} {st:Int×List (List Int)}
theorem parC_mono (i:Nat) (st:Int×List (List Int)):st.1<=(parC b H ins ns w cells i st).1/\st.2.length<=(parC b H ins ns w cells i st).2.length/\(dO b H (ins (i % w:Nat) (i / w:Nat)) ns (st.1,st.2,[])).1<=(parC b H ins ns w cells i st).1/\(dO b H (ins (i % w:Nat) (i / w:Nat)) ns (st.1,st.2,[])).2.1.length<=(parC b H ins ns w cells i st).2.length:=by
 have:=tree_mono b H (ins (i % w:Nat) (i / w:Nat)) ns (st.1,st.2,[])
 unfold parC
 simp only[List.length_append]
 dsimp only at this
 omega
theorem par_mono (i:Nat):∀ k,(iP b H ins ns w cells st i).1<=(iP b H ins ns w cells st (i+k)).1/\(iP b H ins ns w cells st i).2.length<=(iP b H ins ns w cells st (i+k)).2.length
 | 0=>⟨Int.le_refl _,Nat.le_refl _⟩
 | k+1=>by
  have h1:=par_mono i k
  have h2:=parC_mono (b:=b) (H:=H) (ins:=ins) (ns:=ns) (w:=w) (cells:=cells) (i+k) (iP b H ins ns w cells st (i+k))
  show _<=(parC b H ins ns w cells (i+k) (iP b H ins ns w cells st (i+k))).1/\_<=(parC b H ins ns w cells (i+k) (iP b H ins ns w cells st (i+k))).2.length
  omega
theorem par_unfit {i m:Nat} (hi:i<=m) (h:jo (iP b H ins ns w cells st i).1 (iP b H ins ns w cells st i).2=false):jo (iP b H ins ns w cells st m).1 (iP b H ins ns w cells st m).2=false:=by
 have:=par_mono (b:=b) (H:=H) (ins:=ins) (ns:=ns) (w:=w) (cells:=cells) (st:=st) i (m - i)
 rw[show i+(m - i)=m by omega] at this
 cases hf:jo (iP b H ins ns w cells st m).1 (iP b H ins ns w cells st m).2 with
 | false=>rfl
 | true=>rw[fit_of_le this.1 this.2 hf] at h; cases h
theorem par_tree_unfit {i m:Nat} (hi:i+1<=m) (h:jo (dO b H (ins (i % w:Nat) (i / w:Nat)) ns ((iP b H ins ns w cells st i).1,(iP b H ins ns w cells st i).2,[])).1 (dO b H (ins (i % w:Nat) (i / w:Nat)) ns ((iP b H ins ns w cells st i).1,(iP b H ins ns w cells st i).2,[])).2.1=false):jo (iP b H ins ns w cells st m).1 (iP b H ins ns w cells st m).2=false:=by
 refine par_unfit hi ?_
 have:=parC_mono (b:=b) (H:=H) (ins:=ins) (ns:=ns) (w:=w) (cells:=cells) i (iP b H ins ns w cells st i)
 cases hf:jo (iP b H ins ns w cells st (i+1)).1 (iP b H ins ns w cells st (i+1)).2 with
 | false=>rfl
 | true=>rw[fit_of_le this.2.2.1 this.2.2.2 hf] at h; cases h
end
theorem endC_len {n b:Nat} {u:SV} (hu:VOk n b u) (hb:b<=3) (s:Int):(endC u s).length<=3:=by
 unfold endC
 cases he:isE u.2 with
 | true=>cases neB u.1 s<;>simp
 | false =>
  rw[cond_false,fixS_len,vok_len hu he]
  exact hb
theorem last_ok {n b H:Nat} {in_:List SV} {ns:List Node} {v:Int} {cs:List (List Int)} (W:WT n b H in_ ns):VOk n b ((dO b H in_ ns (v,cs,[])).2.2.getLastD (0,[])):=by
 have T:=TI.at_ W (TI.init (n:=n) (b:=b) (n0:=v) (cs:=cs)) _ (Nat.le_refl _)
 rw[List.take_length] at T
 exact T.ok _ (o8 (by rw[T.of_]; exact W.ne))
theorem one_cell (b H:Nat) (ins:Int->Int->List SV) (ns:List Node) (X Y:Int) (v:Int) (cs:List (List Int)) :
  im b H ins (fun _=>ns) X Y 1 (v,cs,[]) 1=((dO b H (ins X Y) ns (v,cs,[])).1,(dO b H (ins X Y) ns (v,cs,[])).2.1,[(dO b H (ins X Y) ns (v,cs,[])).2.2.getLastD (0,[])]):=by
 show cellN b H ins (fun _=>ns) X Y 1 0 (v,cs,[])=_
 unfold cellN
 simp
theorem idiv_nat {i w:Nat} (hw:1<=w) (hi:i < 1000000000):irem (i:Int) (w:Int)=some ((i % w:Nat):Int)/\iquo .i64 (i:Int) (w:Int)=some ((i / w:Nat):Int):=by
 constructor
 ·unfold irem
  rw[if_neg (by omega)]
  congr 1
 ·unfold iquo
  rw[if_neg (by omega)]
  congr 1
  have h2:=Nat.div_le_self i w
  have z1:=Int.natCast_nonneg (i / w)
  rw[show (i:Int).tdiv (w:Int)=((i / w:Nat):Int) from rfl,i64_in (by omega)]
section
variable {n b:Nat} {t:Tree} {ns:List Node} {g:Grid} {w h r:Nat}
structure GL_ (n b:Nat) (t:Tree) (ns:List Node) (g:Grid) (w h r:Nat):Prop where
 R:RT n b t ns
 G:GOk g w h
 r2:r<=2
 pts:∀ d∈t.Hood,-(r:Int)<=d.X/\d.X<=r/\-(r:Int)<=d.Y/\d.Y<=r
 sz:(w+2*r)*(h+2*r)<=16
theorem GL_.ins (A:GL_ n b t ns g w h r) {i:Nat} (hi:i < w*h) :
  inS (-(r:Int)) (-(r:Int)) (w+2*r) (h+2*r) (d9 b ((w+2*r)*(h+2*r))) t.Hood (i % w:Nat) (i / w:Nat) =
   t.Hood.map fun d=>(d9 b ((w+2*r)*(h+2*r))).getD ((((i / w:Nat):Int)+d.Y+r).toNat*(w+2*r)+(((i % w:Nat):Int)+d.X+r).toNat) (0,[]):=by
 have hw:=A.G.w1
 have h1:i % w < w:=Nat.mod_lt _ (by omega)
 have h2:i / w < h:=Nat.div_lt_of_lt_mul hi
 have z1:=Int.natCast_nonneg (i / w)
 unfold inS
 apply List.map_congr_left
 intro d hd
 obtain⟨d1,d2,d3,d4⟩:=A.pts d hd
 unfold atS
 rw[inB_iff.2 ⟨by omega,by omega,by omega,by omega⟩,cond_true]
 rw[show ((i / w:Nat):Int)+d.Y - -(r:Int)=((i / w:Nat):Int)+d.Y+r by omega,show ((i % w:Nat):Int)+d.X - -(r:Int)=((i % w:Nat):Int)+d.X+r by omega]
theorem GL_.idx (A:GL_ n b t ns g w h r) {i:Nat} (hi:i < w*h) {d:Point} (hd:d∈t.Hood):(((i / w:Nat):Int)+d.Y+r).toNat*(w+2*r)+(((i % w:Nat):Int)+d.X+r).toNat < (w+2*r)*(h+2*r)/\0<=((i / w:Nat):Int)+d.Y+r/\0<=((i % w:Nat):Int)+d.X+r:=by
 have hw:=A.G.w1
 have h1:i % w < w:=Nat.mod_lt _ (by omega)
 have h2:i / w < h:=Nat.div_lt_of_lt_mul hi
 have z1:=Int.natCast_nonneg (i / w)
 obtain⟨d1,d2,d3,d4⟩:=A.pts d hd
 exact⟨lin_lt (by omega) (by omega),by omega,by omega⟩
theorem GL_.wt (A:GL_ n b t ns g w h r) {i:Nat} (hi:i < w*h):WT n b t.Hood.length (inS (-(r:Int)) (-(r:Int)) (w+2*r) (h+2*r) (d9 b ((w+2*r)*(h+2*r))) t.Hood (i % w:Nat) (i / w:Nat)) ns:=by
 refine wt_free A.R (by unfold inS; rw[List.length_map]) fun v hv=>?_
 rw[A.ins hi] at hv
 obtain⟨d,hd,rfl⟩:=List.mem_map.1 hv
 obtain⟨h1,_,_⟩:=A.idx hi hd
 rw[List.getD_eq_getElem?_getD,List.getElem?_eq_getElem (by rw[ij]; exact h1)]
 exact cellsV_ok _ (List.getElem_mem _)
theorem GL_.w16 (A:GL_ n b t ns g w h r):w+2*r<=16/\h+2*r<=16/\w*h<=16:=by
 have h1:=A.G.w1
 have h2:=A.G.h1
 have h3:=A.sz
 have a1:=Nat.mul_le_mul_left (w+2*r) (show 1<=h+2*r by omega)
 have a2:=Nat.mul_le_mul_right (h+2*r) (show 1<=w+2*r by omega)
 have a3:w*h<=(w+2*r)*(h+2*r):=Nat.mul_le_mul (by omega) (by omega)
 omega
def parF (b:Nat) (t:Tree) (ns:List Node) (g:Grid) (n w h r:Nat):Int×List (List Int) :=
 iP b t.Hood.length (inS (-(r:Int)) (-(r:Int)) (w+2*r) (h+2*r) (d9 b ((w+2*r)*(h+2*r))) t.Hood) ns w g.Cells ((((w+2*r)*(h+2*r):Nat):Int)*b,gI n b ((w+2*r)*(h+2*r))) (w*h)
theorem vars0 (A:GL_ n b t ns g w h r):0<=((((w+2*r)*(h+2*r):Nat):Int)*b)/\((((w+2*r)*(h+2*r):Nat):Int)*b)<=48/\(gI n b ((w+2*r)*(h+2*r))).length<=128:=by
 have h1:=A.sz
 have h3:=A.R.sb.b3
 have:(w+2*r)*(h+2*r)*b<=16*3:=Nat.mul_le_mul h1 h3
 have e:(((w+2*r)*(h+2*r)*b:Nat):Int)=(((w+2*r)*(h+2*r):Nat):Int)*b:=Int.natCast_mul _ _
 have:=cellsC_len (n:=n) h3 ((w+2*r)*(h+2*r))
 omega
theorem par_bound (A:GL_ n b t ns g w h r):∀ i,i<=w*h->let F:=iP b t.Hood.length (inS (-(r:Int)) (-(r:Int)) (w+2*r) (h+2*r) (d9 b ((w+2*r)*(h+2*r))) t.Hood) ns w g.Cells ((((w+2*r)*(h+2*r):Nat):Int)*b,gI n b ((w+2*r)*(h+2*r)))
  0<=(F i).1/\(F i).1<=48+12288*i/\(F i).2.length<=128+196611*i
 | 0,_=>by
  have:=vars0 A
  dsimp only [iP]
  omega
 | i+1,hi=>by
  have ih:=par_bound A i (by omega)
  have w1:=A.wt (i:=i) (by omega)
  dsimp only at ih ⊢
  rw[iP]
  generalize iP b t.Hood.length (inS (-(r:Int)) (-(r:Int)) (w+2*r) (h+2*r) (d9 b ((w+2*r)*(h+2*r))) t.Hood) ns w g.Cells ((((w+2*r)*(h+2*r):Nat):Int)*b,gI n b ((w+2*r)*(h+2*r))) i=st at ih
  have T:=TI.at_ w1 (TI.init (n:=n) (b:=b) (n0:=st.1) (cs:=st.2)) _ (Nat.le_refl _)
  rw[List.take_length] at T
  have t1:=T.lo
  have t2:=T.hi
  have t3:=T.cs
  have t4:=w1.len
  have t5:=endC_len (last_ok w1 (v:=st.1) (cs:=st.2)) A.R.sb.b3 (g.Cells.getD i 0)
  unfold parC
  simp only[List.length_append]
  omega
theorem parP (A:GL_ n b t ns g w h r) (hr:dw t.Hood=some (r:Int)) (hg:oE g=true) (hc:jJ (fun _ s=>geB s t.States) g.Cells 0=false) :
  e7 t g=some (bif jo (parF b t ns g n w h r).1 (parF b t ns g n w h r).2 then (⟨(parF b t ns g n w h r).1,(parF b t ns g n w h r).2⟩,(((w+2*r)*(h+2*r):Nat):Int)*b,0) else (⟨0,[]⟩,0,6)):=by
 obtain⟨k1,k2,k3⟩:=A.w16
 have hr2:=A.r2
 have hlen:=A.G.len
 have hgW:=A.G.W
 have hmul:bO .i64 ((w+2*r:Nat):Int) ((h+2*r:Nat):Int)=(((w+2*r)*(h+2*r):Nat):Int):=by
  have:=A.sz
  have e:=Int.natCast_mul (w+2*r) (h+2*r)
  rw[i7 (by omega),e]
 have e1:bm .i64 g.W (bO .i64 2 (r:Int))=((w+2*r:Nat):Int):=by rw[A.G.W,i7 (by omega),dW (by omega)]; omega
 have e2:bm .i64 g.H (bO .i64 2 (r:Int))=((h+2*r:Nat):Int):=by rw[A.G.H,i7 (by omega),dW (by omega)]; omega
 have e3:cQ .i64 (r:Int)=-(r:Int):=ineg_in (by omega)
 have hsz:=sz_of A.R.tok
 have hcon:bB g.Cells t=some false:=by
  unfold bB bW
  obtain⟨o,ho,hq⟩:=loop_find (b:=bo g.Cells t) g.Cells (fun _ s=>geB s t.States) (by omega) (fun i x hx=>by
   unfold bo fL
   dsimp only
   rw[bG,decide_eq_true (cp hx),cond_true,bJ,hx,d6 (by have:=cp hx; omega)]
   simp only[aX,fJ]) (by
   unfold bo
   dsimp only
   rw[bG,decide_eq_false (Nat.lt_irrefl _)]
   rfl)
  rw[ho]
  rcases hq with ⟨h1,_⟩ | ⟨_,rfl⟩
  ·rw[hc] at h1; cases h1
  ·rfl
 unfold e7
 rw[tree_eq hsz,A.R.ok,grid_eq (by omega),hg,hcon,hr]
 simp only[aX,fi,Bool.not_true,cond_false]
 rw[e1,e2,e3,hmul,show gtB (((w+2*r)*(h+2*r):Nat):Int) 16=false from decide_eq_false (by have:=A.sz; omega),cond_false,startP A.R]
 simp only[aX]
 rw[freeP A.R.sb (m:=(w+2*r)*(h+2*r)) hmul (by have:=A.sz; omega)]
 simp only[aX]
 obtain⟨F,hF⟩:∃ F,F=iP b t.Hood.length (inS (-(r:Int)) (-(r:Int)) (w+2*r) (h+2*r) (d9 b ((w+2*r)*(h+2*r))) t.Hood) ns w g.Cells ((((w+2*r)*(h+2*r):Nat):Int)*b,gI n b ((w+2*r)*(h+2*r))):=⟨_,rfl⟩
 have hPF:parF b t ns g n w h r=F (w*h):=by rw[hF]; rfl
 have hbd:=fun i hi=>par_bound A i hi
 rw[<- hF] at hbd
 dsimp only at hbd
 rw[hPF]
 obtain⟨o,ho,hq⟩:=dK (b:=dY g (r:Int) ((n:Int),t.Hood,ns,(b:Int)) ((d9 b ((w+2*r)*(h+2*r))).map pv,gI n b ((w+2*r)*(h+2*r)),(((w+2*r)*(h+2*r):Nat):Int)*b)) (n:=w*h) (s:=(0,[],(((w+2*r)*(h+2*r):Nat):Int)*b,gI n b ((w+2*r)*(h+2*r))))
  (fun i st=>∃ mp,st=((i:Int),mp,(F i).1,(F i).2)) (fun o=>(∃ mp,o=.inr (mp,(F (w*h)).1,(F (w*h)).2)) \/ (o=.inl (⟨0,[]⟩,0,6)/\jo (F (w*h)).1 (F (w*h)).2=false)) (by omega) ⟨[],by rw[hF]; rfl⟩
  (fun i st hi ⟨mp,e⟩=>by
   subst e
   have hci:g.Cells[i]?=some (g.Cells.getD i 0):=by rw[List.getD_eq_getElem?_getD,List.getElem?_eq_getElem (by omega)]; rfl
   obtain⟨q1,q2⟩:=idiv_nat (i:=i) A.G.w1 (by omega)
   have hw1:=A.G.w1
   have hml:i % w < w:=Nat.mod_lt _ (by omega)
   have hdl:i / w<=i:=Nat.div_le_self i w
   have z1:=Int.natCast_nonneg (i / w)
   obtain⟨b1,b2,b3⟩:=hbd i (by omega)
   have wt:=A.wt hi
   obtain⟨rs,hrs,hqs⟩:=nextP (n:=n) (b:=b) (S:=(n:Int)) (Hd:=t.Hood) (N:=ns) (fX:=-(r:Int)) (fY:=-(r:Int)) (fW:=w+2*r) (fH:=h+2*r) (vals:=d9 b ((w+2*r)*(h+2*r))) (X:=((i % w:Nat):Int)) (Y:=((i / w:Nat):Int)) (W:=1) (H:=1) (fixed:=false) (tr:=fun _=>ns) (MOk:=fun _=>True) (v0:=(F i).1) (cs0:=(F i).2) (mp0:=mp)
    ⟨by omega,by omega,by omega,by omega,by omega,by omega⟩ (ij _ _) A.R.tok.h25 (fun d hd=>by have:=A.pts d hd; omega) ⟨by omega,by omega,by omega,by omega,by omega,by omega⟩ (Nat.le_refl _) (Nat.le_refl _)
    (fun j hj=>by
     obtain rfl:j=0:=by omega
     simpa using wt)
    (fun v cs mp x y _=>⟨mp,rfl,trivial⟩) trivial (by omega) (by omega) (by omega)
   rw[Nat.mul_one,one_cell] at hqs
   rw[show ((1:Nat):Int)=1 from rfl] at hrs
   have hFs:F (i+1)=parC b t.Hood.length (inS (-(r:Int)) (-(r:Int)) (w+2*r) (h+2*r) (d9 b ((w+2*r)*(h+2*r))) t.Hood) ns w g.Cells i (F i):=by rw[hF]; rfl
   have hun:=fun hh=>par_tree_unfit (b:=b) (H:=t.Hood.length) (ins:=inS (-(r:Int)) (-(r:Int)) (w+2*r) (h+2*r) (d9 b ((w+2*r)*(h+2*r))) t.Hood) (ns:=ns) (w:=w) (cells:=g.Cells) (st:=((((w+2*r)*(h+2*r):Nat):Int)*b,gI n b ((w+2*r)*(h+2*r)))) (i:=i) (m:=w*h) (by omega) hh
   rw[<- hF] at hun
   unfold parC at hFs
   dsimp only at hFs
   have hlo:=last_ok wt (v:=(F i).1) (cs:=(F i).2)
   have TT:=TI.at_ wt (TI.init (n:=n) (b:=b) (n0:=(F i).1) (cs:=(F i).2)) _ (Nat.le_refl _)
   rw[List.take_length] at TT
   have t3:=TT.cs
   have t4:=wt.len
   generalize dO b t.Hood.length (inS (-(r:Int)) (-(r:Int)) (w+2*r) (h+2*r) (d9 b ((w+2*r)*(h+2*r))) t.Hood (i % w:Nat) (i / w:Nat)) ns ((F i).1,(F i).2,[])=T at hqs hFs hun hlo t3
   obtain⟨tv,tc,to_⟩:=T
   dsimp only at hqs hFs hun hlo t3
   rcases hqs with ⟨mp',_,hft,rfl⟩ | ⟨hft,hfl⟩
   ·refine .inl ⟨(((i+1:Nat):Int),mp',(F (i+1)).1,(F (i+1)).2),?_,mp',rfl⟩
    unfold dY
    dsimp only
    rw[show ltB (i:Int) (b9 g.Cells)=true from decide_eq_true (by unfold b9; omega),cond_true,bJ,hci,hgW,q1,q2]
    simp only[aX]
    rw[<- hgW,e1,e2,e3,hrs]
    simp only[aX]
    rw[d6 (by omega)]
    simp only[fi,Bool.not_true,cond_false]
    rw[show idx (List.map pv [to_.getLastD (0,[])]) 0=some (pv (to_.getLastD (0,[]))) from rfl]
    simp only[aX]
    rw[hFs]
    generalize to_.getLastD (0,[])=u at hlo
    unfold endC
    dsimp only [pv]
    cases he:isE u.2 with
    | false =>
     simp only[Bool.not_false,cond_true,cond_false]
     rw[nF (fun e=>by rw[e] at he; cases he)]
     simp only[aX]
     rw[fixP _ (by omega) (by have:=vok_len hlo he; have:=A.R.sb.b3; omega)]
     rfl
    | true =>
     simp only[Bool.not_true,cond_true,cond_false]
     cases hnb:neB u.1 (g.Cells.getD i 0) with
     | false=>simp only[cond_false,List.append_nil]
     | true =>
      simp only[cond_true]
      unfold ec
      rw[jm (by decide) (by decide) (by simp; omega)]
      rfl
   ·refine .inr ⟨.inl (⟨0,[]⟩,0,6),?_,.inr ⟨rfl,hun hft⟩⟩
    unfold dY
    dsimp only
    rw[show ltB (i:Int) (b9 g.Cells)=true from decide_eq_true (by unfold b9; omega),cond_true,bJ,hci,hgW,q1,q2]
    simp only[aX]
    rw[<- hgW,e1,e2,e3,hrs]
    simp only[aX]
    rw[d6 (by omega)]
    rw[hfl]
    rfl)
  (fun st ⟨mp,e⟩=>by
   subst e
   refine⟨.inr (mp,(F (w*h)).1,(F (w*h)).2),?_,.inl ⟨mp,rfl⟩⟩
   unfold dY
   dsimp only
   rw[show ltB ((w*h:Nat):Int) (b9 g.Cells)=false from decide_eq_false (by unfold b9; omega)]
   rfl)
 rw[ho]
 rcases hq with ⟨mp,rfl⟩ | ⟨rfl,hft⟩
 ·simp only[aX]
  rw[largeP_eq]
  simp only[aX]
  cases jo (F (w*h)).1 (F (w*h)).2<;>rfl
 ·rw[hft]
  rfl
end
end Go.Proofs.YtlifofijgddjkacGreatDoor
