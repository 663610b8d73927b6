/- Plain laws: the cells of a box as variables. -/
import Derived.Test.YtjlckgeecihpbaaGreatDoorUax1
namespace Go.Proofs.YtjlckgeecihpbaaGreatDoor
open Go.AM Go.Proofs
def exC (n b:Nat) (vs:List Int):List (List Int):=(List.range (2 ^ b - n)).map fun(k:Nat)=>agS vs ((n:Int)+k)
def bw (b m:Nat):List SV:=(List.range m).map fun(i:Nat)=>((0:Int),d7 ((i:Int)*b) b)
def kv (n b m:Nat):List (List Int):=gat (fun _ (v:SV)=>exC n b v.2) (bw b m) 0
theorem exC_len {n b:Nat} (hb:b<=3) (vs:List Int):(exC n b vs).length<=8:=by
 unfold exC
 rw[List.length_map,List.length_range]
 have:2 ^ b<=2 ^ 3:=Nat.pow_le_pow_right (by omega) hb
 omega
theorem bW (b m:Nat):(bw b m).length=m:=by simp[bw]
theorem cellsC_len {n b:Nat} (hb:b<=3) (m:Nat):(kv n b m).length<=8*m:=by
 have:=gat_len (f:=fun _ (v:SV)=>exC n b v.2) (m:=8) (fun _ v=>exC_len hb v.2) (bw b m) 0
 rwa [bW] at this
theorem im {n b m:Nat}:∀ v∈bw b m,VOk n b v/\v.2.length=b:=fun v hv=>by
 unfold bw at hv
 obtain⟨i,_,rfl⟩:=List.mem_map.1 hv
 exact⟨.inr ⟨rfl,ev _ _⟩,ev _ _⟩
structure SB (n b:Nat):Prop where
 n2:2<=n
 n8:n<=8
 b1:1<=b
 b3:b<=3
 pw:n<=2 ^ b
 bits:PC.bitsOf (n:Int)=(b:Int)
theorem sb_of {n:Nat} (h2:2<=n) (h8:n<=8):∃ b,SB n b:=by
 rcases PC.bits_in (s:=(n:Int)) (by omega) (by omega) with ⟨h,k⟩ | ⟨h,k⟩ | ⟨h,k⟩
 ·exact⟨1,h2,h8,by omega,by omega,by omega,h⟩
 ·exact⟨2,h2,h8,by omega,by omega,by omega,h⟩
 ·exact⟨3,h2,h8,by omega,by omega,by omega,h⟩
theorem shl_b {n b:Nat} (B:SB n b):ishl .i64 1 (b:Int)=some ((2 ^ b:Nat):Int):=by
 have h1:=B.b1
 have h3:=B.b3
 match b,h1,h3 with
 | 1,_,_=>rfl
 | 2,_,_=>rfl
 | 3,_,_=>rfl
section
variable {n b:Nat} {S:Int} {Hd:List Point} {N:List Node} {mp:List (List UInt8×Tree)}
theorem ex_step (n _b:Nat) (vs:List Int) (k:Nat):(List.range (k+1)).map (fun(k:Nat)=>agS vs ((n:Int)+k))=(List.range k).map (fun(k:Nat)=>agS vs ((n:Int)+k))++[agS vs ((n:Int)+k)]:=by
 rw[List.range_succ,List.map_append]
 rfl
theorem exP {box:Box} {l:List Bi} {f a:Int} {v:SV} {cs:List (List Int)} (B:SB n b) (hl:v.2.length=b) (hc:cs.length<=1000000000):ba (cE (n:Int) Hd N (b:Int) mp box l f a (pv v)) bp ((n:Int),cs)=some (cs++exC n b v.2):=by
 have h1:=B.b1
 have h3:=B.b3
 have h8:=B.n8
 have hp:=B.pw
 have hq:2 ^ b<=2 ^ 3:=Nat.pow_le_pow_right (by omega) h3
 obtain⟨r,hr,rfl⟩:=bX (b:=cE (n:Int) Hd N (b:Int) mp box l f a (pv v)) (n:=2 ^ b - n) (s:=((n:Int),cs)) (fun k st=>st=((n:Int)+k,cs++(List.range k).map fun(k:Nat)=>agS v.2 ((n:Int)+k))) (fun r=>r=cs++exC n b v.2) (by omega) (by simp)
  (fun k st hk e=>by
   subst e
   refine .inl ⟨_,?_,rfl⟩
   unfold cE
   dsimp only
   rw[shl_b B]
   simp only[aX]
   rw[show ltB ((n:Int)+(k:Int)) ((2 ^ b:Nat):Int)=true from decide_eq_true (by omega),cond_true,show (pv v).vars=v.2 from rfl,j1 (fun e=>by rw[e] at hl; simp at hl; omega),against_eq (by omega)]
   simp only[aX]
   rw[clauseP (by simp; omega),cw (a:=(n:Int)+k) (b:=1) (by omega),ex_step n b v.2 k,<- List.append_assoc]
   simp only[aX]
   rw[show (n:Int)+(k:Int)+1=(n:Int)+((k+1:Nat):Int) by omega])
  (fun st e=>by
   subst e
   refine⟨_,?_,rfl⟩
   unfold cE
   dsimp only
   rw[shl_b B]
   simp only[aX]
   rw[show ltB ((n:Int)+((2 ^ b - n:Nat):Int)) ((2 ^ b:Nat):Int)=false from decide_eq_false (by omega)]
   rfl)
 exact hr
theorem cellsV_succ (b i:Nat):bw b (i+1)=bw b i++[((0:Int),d7 ((i:Int)*b) b)]:=by
 unfold bw
 rw[List.range_succ,List.map_append]
 rfl
theorem freeP {box:Box} {m:Nat} (B:SB n b) (hm:ck .i64 box.W box.H=(m:Int)) (hm1:m<=1000) :
  dw 0 [] (n:Int) Hd N (b:Int) mp box=some ((bw b m).map pv,kv n b m,(m:Int)*b):=by
 have h1:=B.b1
 have h3:=B.b3
 have hmul:∀ i:Nat,i<=m->0<=(i:Int)*b/\(i:Int)*b<=1000000:=fun i hi=>by
  have:i*b<=1000*3:=Nat.mul_le_mul (by omega) h3
  have e:((i*b:Nat):Int)=(i:Int)*b:=Int.natCast_mul i b
  omega
 unfold dw
 obtain⟨r,hr,rfl⟩:=bX (b:=cX [] (n:Int) Hd N (b:Int) mp box) (n:=m) (s:=(0,[],0)) (fun i st=>st=((i:Int),(bw b i).map pv,(i:Int)*b)) (fun r=>r=((bw b m).map pv,(m:Int)*b)) (by omega) (by simp[bw])
  (fun i st hi e=>by
   subst e
   refine .inl ⟨_,?_,rfl⟩
   have:=hmul i (by omega)
   unfold cX
   dsimp only
   rw[hm,show ltB (i:Int) (m:Int)=true from decide_eq_true (by omega),cond_true,freshP h3 (by omega) (by omega),bJ (by omega)]
   simp only[aX]
   rw[j1 (fun e=>by have h9:=ev ((i:Int)*b) b; rw[e] at h9; simp at h9; omega)]
   simp only[aX]
   rw[jL (by decide) (by decide) (by rw[List.length_map,bW]; simp; omega),cellsV_succ,List.map_append]
   simp only[aX]
   rw[show ((i+1:Nat):Int)*b=(i:Int)*b+b by rw[Int.natCast_add,Int.add_mul]; simp]
   rfl)
  (fun st e=>by
   subst e
   refine⟨_,?_,rfl⟩
   unfold cX
   dsimp only
   rw[hm,show ltB (m:Int) (m:Int)=false from decide_eq_false (by omega)]
   rfl)
 rw[hr]
 simp only[aX]
 have hg:=nt (b:=cW (n:Int) Hd N (b:Int) mp box ((bw b m).map pv) ((m:Int)*b)) (bw b m) (fun _ v=>exC n b v.2) 8 1000000 [] (fun _ v=>exC_len h3 v.2) (by rw[bW]; omega) (by rw[bW]; simp; omega)
  (fun i v ac hv hac=>by
   have hi:=bq hv
   rw[bW] at hi
   unfold cW
   dsimp only
   rw[show ltB (i:Int) (b8 ((bw b m).map pv))=true from decide_eq_true (by unfold b8; rw[List.length_map,bW]; omega),cond_true,bl,List.getElem?_map,hv,bJ (by omega)]
   simp only[Option.map_some,aX]
   rw[exP B (im (n:=n) v (List.mem_of_getElem? hv)).2 (by omega)]
   rfl)
  (fun ac=>by
   unfold cW
   dsimp only
   rw[show ltB ((bw b m).length:Int) (b8 ((bw b m).map pv))=false from decide_eq_false (by unfold b8; rw[List.length_map]; omega)]
   rfl)
 rw[hg]
 rfl
end
end Go.Proofs.YtjlckgeecihpbaaGreatDoor
namespace Go.Proofs.YtjlckgeecihpbaaGreatDoor
open Go.AM Go.Proofs
def inB (X Y:Int) (W H:Nat) (x y:Int):Bool:=leB X x && (ltB x (X+W) && (leB Y y && ltB y (Y+H)))
def atS (X Y:Int) (W H:Nat) (vals:List SV) (x y:Int):SV:=bif inB X Y W H x y then vals.getD ((y - Y).toNat*W+(x - X).toNat) (0,[]) else (0,[])
theorem gy {X Y:Int} {W H:Nat} {x y:Int}:inB X Y W H x y=true↔X<=x/\x < X+W/\Y<=y/\y < Y+H:=by
 unfold inB leB ltB
 simp only[Bool.and_eq_true,decide_eq_true_eq]
theorem pI {a c W H:Nat} (h1:a < H) (h2:c < W):a*W+c < W*H:=by
 have:=Nat.mul_le_mul_right W (show a+1<=H from h1)
 rw[Nat.add_mul,Nat.one_mul,Nat.mul_comm H W] at this
 omega
structure BX (X Y:Int) (W H:Nat):Prop where
 X0:-1000<=X
 X1:X<=1000
 Y0:-1000<=Y
 Y1:Y<=1000
 W1:W<=1000
 H1:H<=1000
theorem out_eq {X Y:Int} {W H:Nat} (B:BX X Y W H) {x y:Int} (hx:-100000<=x/\x<=100000) (hy:-100000<=y/\y<=100000) :
  (bif ltB (bL .i64 x X) 0 then some true else bif geB (bL .i64 x X) (W:Int) then some true else bif ltB (bL .i64 y Y) 0 then some true else some (geB (bL .i64 y Y) (H:Int)))=some (!inB X Y W H x y):=by
 obtain⟨b1,b2,b3,b4,b5,b6⟩:=B
 rw[fN (a:=x) (b:=X) (by omega),fN (a:=y) (b:=Y) (by omega)]
 simp only[cR,cZ]
 congr 1
 rw[Bool.eq_iff_iff,Bool.not_eq_true',<- Bool.not_eq_true,gy]
 unfold ltB geB
 simp only[Bool.or_eq_true,decide_eq_true_eq]
 omega
theorem at_idx {X Y:Int} {W H:Nat} (B:BX X Y W H) {x y:Int} (hin:inB X Y W H x y=true):bo .i64 (ck .i64 (bL .i64 y Y) (W:Int)) (bL .i64 x X)=(((y - Y).toNat*W+(x - X).toNat:Nat):Int)/\(y - Y).toNat*W+(x - X).toNat < W*H:=by
 obtain⟨b1,b2,b3,b4,b5,b6⟩:=B
 obtain⟨c1,c2,c3,c4⟩:=gy.1 hin
 have hlt:(y - Y).toNat*W+(x - X).toNat < W*H:=pI (by omega) (by omega)
 have hle:W*H<=1000*1000:=Nat.mul_le_mul b5 b6
 have e:(((y - Y).toNat*W:Nat):Int)=(y - Y)*W:=by rw[Int.natCast_mul,Int.toNat_of_nonneg (by omega)]
 refine⟨?_,hlt⟩
 rw[fN (a:=x) (b:=X) (by omega),fN (a:=y) (b:=Y) (by omega),jm (a:=y - Y) (b:=(W:Int)) (by omega),cw (by omega)]
 omega
theorem atP {X Y:Int} {W H:Nat} {vals:List SV} (B:BX X Y W H) (hl:vals.length=W*H) {x y:Int} (hx:-100000<=x/\x<=100000) (hy:-100000<=y/\y<=100000) :
  dS ⟨⟨X,Y,W,H⟩,vals.map pv⟩ x y=some (pv (atS X Y W H vals x y)):=by
 unfold dS atS
 dsimp only
 rw[out_eq B hx hy]
 simp only[aX]
 cases hin:inB X Y W H x y with
 | false=>rfl
 | true =>
  obtain⟨e1,e2⟩:=at_idx B hin
  rw[e1,bl,List.getElem?_map,List.getElem?_eq_getElem (by omega),List.getD_eq_getElem?_getD,List.getElem?_eq_getElem (by omega)]
  rfl
theorem inP {X Y:Int} {W H:Nat} {vs:List Bi} (B:BX X Y W H) {x y:Int}:ff ⟨⟨X,Y,W,H⟩,vs⟩ x y=some (inB X Y W H x y):=by
 obtain⟨b1,b2,b3,b4,b5,b6⟩:=B
 unfold ff inB
 dsimp only
 rw[cw (a:=X) (b:=(W:Int)) (by omega),cw (a:=Y) (b:=(H:Int)) (by omega),show geB x X=leB X x from decide_eq_decide.2 Iff.rfl,show geB y Y=leB Y y from decide_eq_decide.2 Iff.rfl]
 cases leB X x<;>cases ltB x (X+W)<;>cases leB Y y<;>rfl
theorem atS_ok {n b:Nat} {X Y:Int} {W H:Nat} {vals:List SV} (hn:1<=n) (hl:vals.length=W*H) (hv:∀ v∈vals,VOk n b v) (x y:Int):VOk n b (atS X Y W H vals x y):=by
 unfold atS
 cases hin:inB X Y W H x y with
 | false=>exact .inl ⟨rfl,Int.le_refl _,by show (0:Int) < n; omega⟩
 | true =>
  obtain⟨c1,c2,c3,c4⟩:=gy.1 hin
  have hlt:(y - Y).toNat*W+(x - X).toNat < W*H:=pI (by omega) (by omega)
  rw[cond_true,List.getD_eq_getElem?_getD,List.getElem?_eq_getElem (by omega)]
  exact hv _ (List.getElem_mem _)
def inS (X Y:Int) (W H:Nat) (vals:List SV) (Hd:List Point) (x y:Int):List SV:=Hd.map fun d=>atS X Y W H vals (x+d.X) (y+d.Y)
def cellN (b H:Nat) (ins:Int->Int->List SV) (tr:List SV->List Node) (X Y:Int) (W i:Nat) (st:FS):FS :=
 let in_:=ins (X+(i % W:Nat)) (Y+(i / W:Nat))
 let T:=eO b H in_ (tr in_) (st.1,st.2.1,[])
 (T.1,T.2.1,st.2.2++[T.2.2.getLastD (0,[])])
def fD (b H:Nat) (ins:Int->Int->List SV) (tr:List SV->List Node) (X Y:Int) (W:Nat) (st:FS):Nat->FS
 | 0=>st
 | i+1=>cellN b H ins tr X Y W i (fD b H ins tr X Y W st i)
theorem cell_mono (b H:Nat) (ins:Int->Int->List SV) (tr:List SV->List Node) (X Y:Int) (W i:Nat) (st:FS):st.1<=(cellN b H ins tr X Y W i st).1/\st.2.1.length<=(cellN b H ins tr X Y W i st).2.1.length:=tree_mono b H _ _ (st.1,st.2.1,[])
theorem nl (b H:Nat) (ins:Int->Int->List SV) (tr:List SV->List Node) (X Y:Int) (W:Nat) (st:FS) (i:Nat):∀ k,(fD b H ins tr X Y W st i).1<=(fD b H ins tr X Y W st (i+k)).1/\(fD b H ins tr X Y W st i).2.1.length<=(fD b H ins tr X Y W st (i+k)).2.1.length
 | 0=>⟨Int.le_refl _,Nat.le_refl _⟩
 | k+1=>by
  have h1:=nl b H ins tr X Y W st i k
  have h2:=cell_mono b H ins tr X Y W (i+k) (fD b H ins tr X Y W st (i+k))
  show _<=(cellN b H ins tr X Y W (i+k) (fD b H ins tr X Y W st (i+k))).1/\_<=(cellN b H ins tr X Y W (i+k) (fD b H ins tr X Y W st (i+k))).2.1.length
  omega
theorem next_fit {b H:Nat} {ins:Int->Int->List SV} {tr:List SV->List Node} {X Y:Int} {W:Nat} {st:FS} {i m:Nat} (hi:i<=m) (h:jz (fD b H ins tr X Y W st m).1 (fD b H ins tr X Y W st m).2.1=true):jz (fD b H ins tr X Y W st i).1 (fD b H ins tr X Y W st i).2.1=true:=by
 have:=nl b H ins tr X Y W st i (m - i)
 rw[show i+(m - i)=m by omega] at this
 exact fit_of_le this.1 this.2 h
theorem getLastD_mem {α:Type} {l:List α} {d:α} (h:1<=l.length):l.getLastD d∈l:=by
 rw[List.getLastD_eq_getLast?,List.getLast?_eq_getElem?,List.getElem?_eq_getElem (show l.length - 1 < l.length by omega)]
 exact List.getElem_mem _
theorem next_vals {n b H:Nat} {ins:Int->Int->List SV} {tr:List SV->List Node} {X Y:Int} {W m:Nat} {v:Int} {cs:List (List Int)} (hW:∀ i:Nat,i < m->WT n b H (ins (X+(i % W:Nat)) (Y+(i / W:Nat))) (tr (ins (X+(i % W:Nat)) (Y+(i / W:Nat))))):∀ i,i<=m->(fD b H ins tr X Y W (v,cs,[]) i).2.2.length=i/\∀ u∈(fD b H ins tr X Y W (v,cs,[]) i).2.2,VOk n b u
 | 0,_=>⟨rfl,fun u hu=>by cases hu⟩
 | i+1,hi=>by
  obtain⟨h1,h2⟩:=next_vals (v:=v) (cs:=cs) hW i (by omega)
  have w:=hW i (by omega)
  generalize hs:fD b H ins tr X Y W (v,cs,[]) i=st at h1 h2
  have e:fD b H ins tr X Y W (v,cs,[]) (i+1)=cellN b H ins tr X Y W i st:=by rw[<- hs]; rfl
  rw[e]
  unfold cellN
  dsimp only
  refine⟨by rw[List.length_append,h1]; rfl,fun u hu=>?_⟩
  rcases List.mem_append.1 hu with hu | hu
  ·exact h2 u hu
  ·rw[List.mem_singleton.1 hu]
   have T:=TI.at_ w (TI.init (n:=n) (b:=b) (n0:=st.1) (cs:=st.2.1)) _ (Nat.le_refl _)
   rw[List.take_length] at T
   exact T.ok _ (getLastD_mem (by rw[T.of_]; exact w.ne))
theorem gat_map {α β:Type} (f:α->β):∀ (l:List α) (i:Nat),gat (fun _ d=>[f d]) l i=l.map f
 | [],_=>rfl
 | d::l,i=>by rw[gat,gat_map f l (i+1)]; rfl
section
variable {n b:Nat} {S:Int} {Hd:List Point} {N:List Node}
theorem insP {X Y:Int} {W H:Nat} {vals:List SV} {box:Box} {fixed:Bool} {y x:Int} {l2:List Bi} {l3:List (List Int)} {v2:Int} {mp:List (List UInt8×Tree)} {bb:Int} (B:BX X Y W H) (hl:vals.length=W*H) (hh:Hd.length<=25) (hd:∀ d∈Hd,-2<=d.X/\d.X<=2/\-2<=d.Y/\d.Y<=2) (hx:-10000<=x/\x<=10000) (hy:-10000<=y/\y<=10000) :
  ba (cF S Hd N bb ⟨⟨X,Y,W,H⟩,vals.map pv⟩ box fixed y x l2 l3 v2 mp) bp (0,[])=some ((inS X Y W H vals Hd x y).map pv):=by
 have hg:=nt (b:=cF S Hd N bb ⟨⟨X,Y,W,H⟩,vals.map pv⟩ box fixed y x l2 l3 v2 mp) Hd (fun _ d=>[pv (atS X Y W H vals (x+d.X) (y+d.Y))]) 1 1000 [] (fun _ _=>Nat.le_refl _) (by omega) (by simp; omega)
  (fun i d ac hdi hac=>by
   have hi:=bq hdi
   obtain⟨d1,d2,d3,d4⟩:=hd d (List.mem_of_getElem? hdi)
   unfold cF
   dsimp only
   rw[bh,decide_eq_true hi,cond_true,bl,hdi,bJ (by omega)]
   simp only[aX]
   rw[cw (a:=x) (b:=d.X) (by omega),cw (a:=y) (b:=d.Y) (by omega),atP B hl (by omega) (by omega)]
   simp only[aX]
   rw[jL (by decide) (by decide) (by simp; omega)]
   rfl)
  (fun ac=>by
   unfold cF
   dsimp only
   rw[bh,decide_eq_false (Nat.lt_irrefl _)]
   rfl)
 rw[hg,List.nil_append,gat_map]
 unfold inS
 rw[List.map_map]
 rfl
theorem nextP {fX fY:Int} {fW fH:Nat} {vals:List SV} {X Y:Int} {W H:Nat} {fixed:Bool} {tr:List SV->List Node} {MOk:List (List UInt8×Tree)->Prop} {v0:Int} {cs0:List (List Int)} {mp0:List (List UInt8×Tree)}
  (Bf:BX fX fY fW fH) (hl:vals.length=fW*fH) (hh:Hd.length<=25) (hd:∀ d∈Hd,-2<=d.X/\d.X<=2/\-2<=d.Y/\d.Y<=2) (Bx:BX X Y W H) (hH1:1<=H) (hW1:1<=W)
  (hW:∀ i:Nat,i < W*H->WT n b Hd.length (inS fX fY fW fH vals Hd (X+(i % W:Nat)) (Y+(i / W:Nat))) (tr (inS fX fY fW fH vals Hd (X+(i % W:Nat)) (Y+(i / W:Nat)))))
  (hfix:∀ v cs mp x y,MOk mp->∃ mp',(bif fixed then
    (cT v cs S Hd N (b:Int) mp ((inS fX fY fW fH vals Hd x y).map pv)).bind fun y1=>some (y1.1,y1.2.1,y1.2.2.1,y1.2.2.2)
   else some (S,Hd,N,mp))=some (S,Hd,tr (inS fX fY fW fH vals Hd x y),mp')/\MOk mp')
  (hm:MOk mp0) (hv0:0<=v0) (hv1:v0<=1000000) (hc0:cs0.length<=100000000) :
  ∃ r,dv v0 cs0 S Hd N (b:Int) mp0 ⟨⟨fX,fY,fW,fH⟩,vals.map pv⟩ ⟨X,Y,W,H⟩ fixed=some r /\
   ((∃ mp,MOk mp/\jz (fD b Hd.length (inS fX fY fW fH vals Hd) tr X Y W (v0,cs0,[]) (W*H)).1 (fD b Hd.length (inS fX fY fW fH vals Hd) tr X Y W (v0,cs0,[]) (W*H)).2.1=true /\
     r=(X,Y,(W:Int),(H:Int),(fD b Hd.length (inS fX fY fW fH vals Hd) tr X Y W (v0,cs0,[]) (W*H)).2.2.map pv,true,(fD b Hd.length (inS fX fY fW fH vals Hd) tr X Y W (v0,cs0,[]) (W*H)).1,mp,(fD b Hd.length (inS fX fY fW fH vals Hd) tr X Y W (v0,cs0,[]) (W*H)).2.1)) \/
    (jz (fD b Hd.length (inS fX fY fW fH vals Hd) tr X Y W (v0,cs0,[]) (W*H)).1 (fD b Hd.length (inS fX fY fW fH vals Hd) tr X Y W (v0,cs0,[]) (W*H)).2.1=false/\r.2.2.2.2.2.1=false)):=by
 obtain⟨c1,c2,c3,c4,c5,c6⟩:=id Bx
 have hle:W*H<=1000*1000:=Nat.mul_le_mul c5 c6
 obtain⟨F,hF⟩:∃ F,F=fD b Hd.length (inS fX fY fW fH vals Hd) tr X Y W (v0,cs0,[]):=⟨_,rfl⟩
 have hF0:F 0=(v0,cs0,[]):=by rw[hF]; rfl
 have hstep:∀ i,F (i+1)=cellN b Hd.length (inS fX fY fW fH vals Hd) tr X Y W i (F i):=fun i=>by rw[hF]; rfl
 have hval:∀ i,i<=W*H->(F i).2.2.length=i:=fun i hi=>by rw[hF]; exact (next_vals hW i hi).1
 have hfit:∀ {i m:Nat},i<=m->jz (F m).1 (F m).2.1=true->jz (F i).1 (F i).2.1=true:=fun hi h=>by rw[hF] at h ⊢; exact next_fit hi h
 have hlow:∀ i,v0<=(F i).1:=fun i=>by
  have:=nl b Hd.length (inS fX fY fW fH vals Hd) tr X Y W (v0,cs0,[]) 0 i
  rw[Nat.zero_add] at this
  rw[hF]
  exact this.1
 rw[<- hF]
 have row:∀ yy mp,yy < H->MOk mp->(yy=0 \/ jz (F (yy*W)).1 (F (yy*W)).2.1=true)->∃ o,ba (cq S Hd N (b:Int) ⟨⟨fX,fY,fW,fH⟩,vals.map pv⟩ ⟨X,Y,W,H⟩ fixed (Y+(yy:Int))) bp (X,(F (yy*W)).2.2.map pv,(F (yy*W)).2.1,(F (yy*W)).1,mp)=some o /\
   ((∃ mp',MOk mp'/\jz (F ((yy+1)*W)).1 (F ((yy+1)*W)).2.1=true/\o=.inr ((F ((yy+1)*W)).2.2.map pv,(F ((yy+1)*W)).2.1,(F ((yy+1)*W)).1,mp')) \/ (∃ k r,k<=W*H/\jz (F k).1 (F k).2.1=false/\o=.inl r/\r.2.2.2.2.2.1=false)):=fun yy mp hyy hmp hfy=>by
  have hrow:(yy+1)*W<=W*H:=by rw[Nat.mul_comm W H]; exact Nat.mul_le_mul_right W hyy
  have hsp:(yy+1)*W=yy*W+W:=by rw[Nat.add_mul,Nat.one_mul]
  refine bX (b:=cq S Hd N (b:Int) ⟨⟨fX,fY,fW,fH⟩,vals.map pv⟩ ⟨X,Y,W,H⟩ fixed (Y+(yy:Int))) (n:=W)
   (fun j st=>∃ mp,st=(X+(j:Int),(F (yy*W+j)).2.2.map pv,(F (yy*W+j)).2.1,(F (yy*W+j)).1,mp)/\MOk mp/\(yy*W+j=0 \/ jz (F (yy*W+j)).1 (F (yy*W+j)).2.1=true)) _ (by omega) ⟨mp,by simp,hmp,by
    rcases hfy with h | h
    ·exact .inl (by rw[h]; simp)
    ·exact .inr h⟩ (fun j st hj ⟨mp,e,hmp,hf⟩=>?_) (fun st ⟨mp,e,hmp,hf⟩=>?_)
  ·subst e
   have hk:yy*W+j < W*H:=by omega
   have e1:(yy*W+j) % W=j:=by rw[Nat.add_comm,Nat.add_mul_mod_self_right,Nat.mod_eq_of_lt hj]
   have e2:(yy*W+j) / W=yy:=by rw[Nat.add_comm,Nat.add_mul_div_right _ _ (by omega),Nat.div_eq_of_lt hj,Nat.zero_add]
   have hb1:(F (yy*W+j)).1<=1000000/\(F (yy*W+j)).2.1.length<=100000000:=by
    rcases hf with h | h
    ·rw[h,hF0]; exact⟨hv1,hc0⟩
    ·have:=fit_len h; omega
   have hlo:=hlow (yy*W+j)
   have hvl:=hval (yy*W+j) (by omega)
   have hn:=hstep (yy*W+j)
   unfold cellN at hn
   rw[e1,e2] at hn
   dsimp only at hn
   obtain⟨mp',hfx,hmp'⟩:=hfix (F (yy*W+j)).1 (F (yy*W+j)).2.1 mp (X+(j:Int)) (Y+(yy:Int)) hmp
   have w:=hW (yy*W+j) hk
   rw[e1,e2] at w
   have hT:=treeP (t:=⟨S,Hd,tr (inS fX fY fW fH vals Hd (X+(j:Int)) (Y+(yy:Int)))⟩) (S:=S) (Hd:=Hd) (N:=N) (mp:=mp') (v:=(F (yy*W+j)).1) (cs:=(F (yy*W+j)).2.1) w (by omega) (by omega) (by omega)
   dsimp only at hT
   have hbody:cq S Hd N (b:Int) ⟨⟨fX,fY,fW,fH⟩,vals.map pv⟩ ⟨X,Y,W,H⟩ fixed (Y+(yy:Int)) (X+(j:Int),(F (yy*W+j)).2.2.map pv,(F (yy*W+j)).2.1,(F (yy*W+j)).1,mp) =
     some (bif !jz (F (yy*W+j+1)).1 (F (yy*W+j+1)).2.1 then .out (.inl (0,0,0,0,[],false,(F (yy*W+j+1)).1,mp',(F (yy*W+j+1)).2.1)) else .next (X+((j+1:Nat):Int),(F (yy*W+j+1)).2.2.map pv,(F (yy*W+j+1)).2.1,(F (yy*W+j+1)).1,mp')):=by
    unfold cq
    dsimp only
    rw[cw (a:=X) (b:=(W:Int)) (by omega),show ltB (X+(j:Int)) (X+(W:Int))=true from decide_eq_true (by omega),cond_true,insP Bf hl hh hd (by omega) (by omega)]
    simp only[aX]
    rw[hfx]
    simp only[aX]
    rw[hT]
    simp only[aX]
    rw[jL (by decide) (by decide) (by simp[hvl]; omega)]
    simp only[aX]
    rw[largeP_eq]
    simp only[aX]
    rw[hn,cw (a:=X+(j:Int)) (b:=1) (by omega),cR]
    dsimp only
    rw[List.map_append,show X+(j:Int)+1=X+((j+1:Nat):Int) by omega]
    rfl
   rw[hbody]
   cases hft:jz (F (yy*W+j+1)).1 (F (yy*W+j+1)).2.1 with
   | true=>exact .inl ⟨_,rfl,mp',rfl,hmp',.inr rfl⟩
   | false=>exact .inr ⟨_,rfl,.inr ⟨_,_,by omega,hft,rfl,rfl⟩⟩
  ·subst e
   refine⟨.inr ((F (yy*W+W)).2.2.map pv,(F (yy*W+W)).2.1,(F (yy*W+W)).1,mp),?_,.inl ⟨mp,hmp,?_,by rw[hsp]⟩⟩
   ·unfold cq
    dsimp only
    rw[cw (a:=X) (b:=(W:Int)) (by omega),show ltB (X+(W:Int)) (X+(W:Int))=false from decide_eq_false (by omega)]
    rfl
   ·rw[hsp]
    rcases hf with h | h
    ·omega
    ·exact h
 unfold dv
 obtain⟨o,ho,hq⟩:=bX (b:=cY S Hd N (b:Int) ⟨⟨fX,fY,fW,fH⟩,vals.map pv⟩ ⟨X,Y,W,H⟩ fixed) (n:=H) (s:=(Y,[],cs0,v0,mp0))
  (fun yy st=>∃ mp,st=(Y+(yy:Int),(F (yy*W)).2.2.map pv,(F (yy*W)).2.1,(F (yy*W)).1,mp)/\MOk mp/\(yy=0 \/ jz (F (yy*W)).1 (F (yy*W)).2.1=true))
  (fun o=>(∃ mp',MOk mp'/\jz (F (W*H)).1 (F (W*H)).2.1=true/\o=.inr ((F (W*H)).2.2.map pv,(F (W*H)).2.1,(F (W*H)).1,mp')) \/ (∃ k r,k<=W*H/\jz (F k).1 (F k).2.1=false/\o=.inl r/\r.2.2.2.2.2.1=false)) (by omega)
  ⟨mp0,by simp[hF0],hm,.inl rfl⟩
  (fun yy st hyy ⟨mp,e,hmp,hf⟩=>by
   subst e
   obtain⟨o,ho,hq⟩:=row yy mp hyy hmp hf
   unfold cY
   dsimp only
   rw[cw (a:=Y) (b:=(H:Int)) (by omega),show ltB (Y+(yy:Int)) (Y+(H:Int))=true from decide_eq_true (by omega),cond_true,ho,cw (a:=Y+(yy:Int)) (b:=1) (by omega)]
   rcases hq with ⟨mp',h1,h2,rfl⟩ | ⟨k,r,h1,h2,rfl,h3⟩
   ·exact .inl ⟨_,rfl,mp',by rw[show Y+(yy:Int)+1=Y+((yy+1:Nat):Int) by omega],h1,.inr h2⟩
   ·exact .inr ⟨_,rfl,.inr ⟨k,r,h1,h2,rfl,h3⟩⟩)
  (fun st ⟨mp,e,hmp,hf⟩=>by
   subst e
   refine⟨.inr ((F (W*H)).2.2.map pv,(F (W*H)).2.1,(F (W*H)).1,mp),?_,.inl ⟨mp,hmp,?_,rfl⟩⟩
   ·unfold cY
    dsimp only
    rw[cw (a:=Y) (b:=(H:Int)) (by omega),show ltB (Y+(H:Int)) (Y+(H:Int))=false from decide_eq_false (by omega),Nat.mul_comm H W]
    rfl
   ·rw[Nat.mul_comm W H]
    rcases hf with h | h
    ·omega
    ·exact h)
 rw[ho]
 rcases hq with ⟨mp',h1,h2,rfl⟩ | ⟨k,r,h1,h2,rfl,h3⟩
 ·exact⟨_,rfl,.inl ⟨mp',h1,h2,rfl⟩⟩
 ·refine⟨_,rfl,.inr ⟨?_,h3⟩⟩
  cases hft:jz (F (W*H)).1 (F (W*H)).2.1 with
  | false=>rfl
  | true=>rw[hfit h1 hft] at h2; cases h2
end
end Go.Proofs.YtjlckgeecihpbaaGreatDoor
namespace Go.Proofs.YtjlckgeecihpbaaGreatDoor
open Go.AM Go.Proofs
theorem small_eq (t:Tree) (x:Bg):∃ y,mn t x=some y/\(y=true->Sz t/\x.Syms.length<=20):=by
 unfold mn
 simp only[cR,aX,cZ,lS]
 cases h1:gtB (b8 t.Nodes) 150 with
 | true=>exact⟨false,rfl,fun h=>by cases h⟩
 | false =>
  cases h2:gtB (b8 t.Hood) 9 with
  | true=>exact⟨false,rfl,fun h=>by cases h⟩
  | false =>
   cases h3:gtB (b8 x.Syms) 20 with
   | true=>exact⟨false,rfl,fun h=>by cases h⟩
   | false =>
    have e1:=of_decide_eq_false h1
    have e2:=of_decide_eq_false h2
    have e3:=of_decide_eq_false h3
    unfold b8 at e1 e2 e3
    rw[gg t.Nodes (fun _ n=>gtB (b8 n.Next) 20) false (by omega) (fun i n hn=>by
     unfold ki
     dsimp only
     rw[bh,decide_eq_true (bq hn),cond_true,bl,hn,bJ (by have:=bq hn; omega)]
     simp only[aX,cR]) (by
     unfold ki
     dsimp only
     rw[bh,decide_eq_false (Nat.lt_irrefl _)]
     rfl)]
    cases hG:gtB x.Gens 3 && leB x.Gens 6 with
    | true=>exact⟨false,rfl,fun h=>by cases h⟩
    | false =>
     cases ha:fR (fun _ n=>gtB (b8 n.Next) 20) t.Nodes 0 with
     | true=>exact⟨false,rfl,fun h=>by cases h⟩
     | false =>
      refine⟨_,rfl,fun _=>⟨⟨by omega,by omega,fun n hn=>?_⟩,by omega⟩⟩
      obtain⟨j,hj⟩:=List.getElem?_of_mem hn
      have:=fm ha j n hj
      have:=of_decide_eq_false this
      unfold b8 at this
      omega
theorem hood_pts {l:List Point} (h:iB l=true):1<=l.length/\l.length<=25/\∀ d∈l,-2<=d.X/\d.X<=2/\-2<=d.Y/\d.Y<=2:=by
 simp only[iB,Bool.and_eq_true,Bool.not_eq_true',Bool.or_eq_false_iff] at h
 have c1:=of_decide_eq_false h.1.1
 have c2:=of_decide_eq_false h.1.2
 unfold b8 at c1 c2
 refine⟨by omega,by omega,fun d hd=>?_⟩
 obtain⟨i,hi⟩:=List.mem_iff_getElem?.1 hd
 have hb:=fm h.2 i d hi
 rw[Nat.zero_add] at hb
 unfold badP at hb
 simp only[Bool.or_eq_false_iff] at hb
 obtain⟨e1,e2,e3,e4,_⟩:=hb
 have f1:=of_decide_eq_false e1
 have f2:=of_decide_eq_false e2
 have f3:=of_decide_eq_false e3
 have f4:=of_decide_eq_false e4
 omega
theorem ineg_in {a:Int} (h:-1000000<=a/\a<=1000000):cz .i64 a=-a:=by unfold cz; rw[i64_in (by omega)]; omega
theorem rad_of {l:List Point} (h:iB l=true):∃ r:Nat,fQ l=some (r:Int)/\r<=2/\∀ d∈l,-(r:Int)<=d.X/\d.X<=r/\-(r:Int)<=d.Y/\d.Y<=r:=by
 obtain⟨h1,h25,hp⟩:=hood_pts h
 obtain⟨r,hr,hq⟩:=bX (b:=gL l) (n:=l.length) (s:=(0,0)) (fun i st=>st.2=(i:Int)/\0<=st.1/\st.1<=2/\∀ (j:Nat) d,j < i->l[j]?=some d->-st.1<=d.X/\d.X<=st.1/\-st.1<=d.Y/\d.Y<=st.1)
  (fun r=>0<=r/\r<=2/\∀ d∈l,-r<=d.X/\d.X<=r/\-r<=d.Y/\d.Y<=r) (by omega) ⟨rfl,Int.le_refl _,by show (0:Int)<=2; omega,fun j d hj=>by omega⟩
  (fun i st hi ⟨e,e1,e2,e3⟩=>by
   obtain⟨q,a⟩:=st
   dsimp only at e e1 e2 e3
   subst e
   have hx:l[i]?=some l[i]:=List.getElem?_eq_getElem hi
   generalize l[i]=d at hx
   obtain⟨d1,d2,d3,d4⟩:=hp d (List.mem_of_getElem? hx)
   refine .inl ⟨(fB (fB (fB (fB q d.X) (cz .i64 d.X)) d.Y) (cz .i64 d.Y),((i+1:Nat):Int)),?_,?_⟩
   ·unfold gL
    dsimp only
    rw[bh,decide_eq_true hi,cond_true,bl,hx,bJ (by omega)]
    rfl
   ·rw[ineg_in (by omega),ineg_in (by omega)]
    have m1:=oC q d.X
    have m2:=oC (fB q d.X) (-d.X)
    have m3:=oC (fB (fB q d.X) (-d.X)) d.Y
    have m4:=oC (fB (fB (fB q d.X) (-d.X)) d.Y) (-d.Y)
    dsimp only
    refine⟨rfl,by omega,by omega,fun j d' hj hd'=>?_⟩
    rcases Nat.lt_succ_iff_lt_or_eq.1 hj with hj | rfl
    ·have:=e3 j d' hj hd'
     omega
    ·rw[hx] at hd'
     cases hd'
     omega)
  (fun st ⟨e,e1,e2,e3⟩=>by
   obtain⟨q,a⟩:=st
   dsimp only at e e1 e2 e3
   subst e
   refine⟨q,?_,e1,e2,fun d hd=>?_⟩
   ·unfold gL
    dsimp only
    rw[bh,decide_eq_false (Nat.lt_irrefl _)]
    rfl
   ·obtain⟨j,hj⟩:=List.mem_iff_getElem?.1 hd
    exact e3 j d (bq hj) hj)
 have hR:fQ l=some r:=by
  unfold fQ
  rw[hood_eq (by omega),h]
  simp only[aX,cond_true]
  rw[hr]
  rfl
 refine⟨r.toNat,by rw[hR]; congr 1; omega,by omega,fun d hd=>?_⟩
 have:=hq.2.2 d hd
 omega
structure GOk (g:Grid) (w h:Nat):Prop where
 W:g.W=(w:Int)
 H:g.H=(h:Int)
 w1:1<=w
 w2:w<=256
 h1:1<=h
 h2:h<=256
 len:g.Cells.length=w*h
 cell:∀ s∈g.Cells,0<=s/\s < 8
end Go.Proofs.YtjlckgeecihpbaaGreatDoor
namespace Go.Proofs.YtjlckgeecihpbaaGreatDoor
open Go.AM Go.Proofs
structure RT (n b:Nat) (t:Tree) (ns:List Node):Prop where
 sb:SB n b
 st:t.States=(n:Int)
 ok:gF t=true
 tok:TOk n t
 red:TOk n ⟨t.States,t.Hood,ns⟩
 P:gJ t=some ⟨t.States,t.Hood,ns⟩
theorem startP {n b:Nat} {t:Tree} {ns:List Node} (R:RT n b t ns):iq t=some ((n:Int),t.Hood,ns,(b:Int)):=by
 unfold iq
 rw[R.P,PC.bits_eq]
 simp only[aX]
 rw[R.st,R.sb.bits]
theorem wt_free {n b:Nat} {t:Tree} {ns:List Node} (R:RT n b t ns) {in_:List SV} (hl:in_.length=t.Hood.length) (hv:∀ v∈in_,VOk n b v/\v.2.length=b):WT n b t.Hood.length in_ ns:=by
 have h:=R.red
 obtain⟨i,x,e1,e2,_⟩:=h.root
 refine⟨R.sb.n2,R.sb.n8,R.sb.b1,R.sb.b3,h.h25,h.nodes,by show 1<=ns.length; dsimp only at e1; omega,h.good,h.lev,hl,fun v hv'=>(hv v hv').1,fun x hx _ e=>?_⟩
 obtain⟨j,hj⟩:=List.mem_iff_getElem?.1 hx
 have h1:=h.good.lev j x hj
 have h2:=h.lev x hx
 have hH:=h.h1
 dsimp only at h2 hH
 unfold rdS at e
 have hlt:t.Hood.length - x.Level.toNat < in_.length:=by omega
 rw[List.getD_eq_getElem?_getD,List.getElem?_eq_getElem hlt] at e
 have:=(hv _ (List.getElem_mem hlt)).2
 have hb:=R.sb.b1
 simp only[Option.getD_some] at e
 rw[e] at this
 simp at this
 omega
section
variable {n b H:Nat} {ins:Int->Int->List SV} {ns:List Node} {w:Nat} {cells:List Int} {st:Int×List (List Int)}
end
theorem idiv_nat {i w:Nat} (hw:1<=w) (hi:i < 1000000000):irem (i:Int) (w:Int)=some ((i % w:Nat):Int)/\iquo .i64 (i:Int) (w:Int)=some ((i / w:Nat):Int):=by
 constructor
 ·unfold irem
  rw[if_neg (by omega)]
  congr 1
 ·unfold iquo
  rw[if_neg (by omega)]
  congr 1
  have h2:=Nat.div_le_self i w
  have z1:=Int.natCast_nonneg (i / w)
  rw[show (i:Int).tdiv (w:Int)=((i / w:Nat):Int) from rfl,i64_in (by omega)]
section
variable {n b:Nat} {t:Tree} {ns:List Node} {g:Grid} {w h r:Nat}
structure GL_ (n b:Nat) (t:Tree) (ns:List Node) (g:Grid) (w h r:Nat):Prop where
 R:RT n b t ns
 G:GOk g w h
 r2:r<=2
 pts:∀ d∈t.Hood,-(r:Int)<=d.X/\d.X<=r/\-(r:Int)<=d.Y/\d.Y<=r
 sz:(w+2*r)*(h+2*r)<=16
theorem GL_.ins (A:GL_ n b t ns g w h r) {i:Nat} (hi:i < w*h) :
  inS (-(r:Int)) (-(r:Int)) (w+2*r) (h+2*r) (bw b ((w+2*r)*(h+2*r))) t.Hood (i % w:Nat) (i / w:Nat) =
   t.Hood.map fun d=>(bw b ((w+2*r)*(h+2*r))).getD ((((i / w:Nat):Int)+d.Y+r).toNat*(w+2*r)+(((i % w:Nat):Int)+d.X+r).toNat) (0,[]):=by
 have hw:=A.G.w1
 have h1:i % w < w:=Nat.mod_lt _ (by omega)
 have h2:i / w < h:=Nat.div_lt_of_lt_mul hi
 have z1:=Int.natCast_nonneg (i / w)
 unfold inS
 apply List.map_congr_left
 intro d hd
 obtain⟨d1,d2,d3,d4⟩:=A.pts d hd
 unfold atS
 rw[gy.2 ⟨by omega,by omega,by omega,by omega⟩,cond_true]
 rw[show ((i / w:Nat):Int)+d.Y - -(r:Int)=((i / w:Nat):Int)+d.Y+r by omega,show ((i % w:Nat):Int)+d.X - -(r:Int)=((i % w:Nat):Int)+d.X+r by omega]
theorem GL_.idx (A:GL_ n b t ns g w h r) {i:Nat} (hi:i < w*h) {d:Point} (hd:d∈t.Hood):(((i / w:Nat):Int)+d.Y+r).toNat*(w+2*r)+(((i % w:Nat):Int)+d.X+r).toNat < (w+2*r)*(h+2*r)/\0<=((i / w:Nat):Int)+d.Y+r/\0<=((i % w:Nat):Int)+d.X+r:=by
 have hw:=A.G.w1
 have h1:i % w < w:=Nat.mod_lt _ (by omega)
 have h2:i / w < h:=Nat.div_lt_of_lt_mul hi
 have z1:=Int.natCast_nonneg (i / w)
 obtain⟨d1,d2,d3,d4⟩:=A.pts d hd
 exact⟨pI (by omega) (by omega),by omega,by omega⟩
theorem GL_.wt (A:GL_ n b t ns g w h r) {i:Nat} (hi:i < w*h):WT n b t.Hood.length (inS (-(r:Int)) (-(r:Int)) (w+2*r) (h+2*r) (bw b ((w+2*r)*(h+2*r))) t.Hood (i % w:Nat) (i / w:Nat)) ns:=by
 refine wt_free A.R (by unfold inS; rw[List.length_map]) fun v hv=>?_
 rw[A.ins hi] at hv
 obtain⟨d,hd,rfl⟩:=List.mem_map.1 hv
 obtain⟨h1,_,_⟩:=A.idx hi hd
 rw[List.getD_eq_getElem?_getD,List.getElem?_eq_getElem (by rw[bW]; exact h1)]
 exact im _ (List.getElem_mem _)
theorem GL_.w16 (A:GL_ n b t ns g w h r):w+2*r<=16/\h+2*r<=16/\w*h<=16:=by
 have h1:=A.G.w1
 have h2:=A.G.h1
 have h3:=A.sz
 have a1:=Nat.mul_le_mul_left (w+2*r) (show 1<=h+2*r by omega)
 have a2:=Nat.mul_le_mul_right (h+2*r) (show 1<=w+2*r by omega)
 have a3:w*h<=(w+2*r)*(h+2*r):=Nat.mul_le_mul (by omega) (by omega)
 omega
end
end Go.Proofs.YtjlckgeecihpbaaGreatDoor
