/- The types of the program, as lists and numbers. -/
import Derived.Test.YtlifofijgddjkacGreatDoorAmAp
import Derived.Test.YtlifofijgddjkacGreatDoorAmFz
import Derived.Test.YtlifofijgddjkacGreatDoorAmPm
import Derived.Test.YtlifofijgddjkacGreatDoorAmNw
namespace Go.Proofs.YtlifofijgddjkacGreatDoor
open Go.AM Go.Proofs
theorem rsetI (k:IntKind) (l:List Int) (i:Nat) (x:Int):(List.map (rI k) l).set i [L.int k x]=List.map (rI k) (l.set i x):=by rw[List.map_set]; rfl
theorem rsetB (l:List Bool) (i:Nat) (x:Bool):(List.map rB l).set i [L.bool x]=List.map rB (l.set i x):=by rw[List.map_set]; rfl
structure Point where
 X:Int
 Y:Int
 deriving DecidableEq,Inhabited
def Point.row (x:Point):List L:=[.int .i64 x.X,.int .i64 x.Y]
theorem Point.row_eq (x:Point):x.row=[.int .i64 x.X,.int .i64 x.Y]:=rfl
def Point.key (x:Point):Key:=.ints [x.X,x.Y]
def Point.ints (x:Point):List Int:=[x.X,x.Y]
instance:KeyF Point.key:=⟨fun a b h=>by unfold Point.key at h; cases a; cases b; injection h with h; simp only[List.cons.injEq,and_true] at h; simp only[Point.mk.injEq]; exact h⟩
structure Node where
 Level:Int
 Next:List Int
 deriving DecidableEq,Inhabited
def Node.row (x:Node):List L:=[.int .i64 x.Level,.sl 1 (List.map (rI .i64) x.Next)]
theorem Node.row_eq (x:Node):x.row=[.int .i64 x.Level,.sl 1 (List.map (rI .i64) x.Next)]:=rfl
structure Tree where
 States:Int
 Hood:List Point
 Nodes:List Node
 deriving DecidableEq,Inhabited
def Tree.row (x:Tree):List L:=[.int .i64 x.States,.sl 2 (List.map Point.row x.Hood),.sl 2 (List.map Node.row x.Nodes)]
theorem Tree.row_eq (x:Tree):x.row=[.int .i64 x.States,.sl 2 (List.map Point.row x.Hood),.sl 2 (List.map Node.row x.Nodes)]:=rfl
structure Grid where
 W:Int
 H:Int
 Edge:Int
 Cells:List Int
 deriving DecidableEq,Inhabited
def Grid.row (x:Grid):List L:=[.int .i64 x.W,.int .i64 x.H,.int .i64 x.Edge,.sl 1 (List.map (rI .i64) x.Cells)]
theorem Grid.row_eq (x:Grid):x.row=[.int .i64 x.W,.int .i64 x.H,.int .i64 x.Edge,.sl 1 (List.map (rI .i64) x.Cells)]:=rfl
structure B8 where
 W:Int
 H:Int
 Gens:Int
 DX:Int
 DY:Int
 Syms:List Int
 deriving DecidableEq,Inhabited
def B8.row (x:B8):List L:=[.int .i64 x.W,.int .i64 x.H,.int .i64 x.Gens,.int .i64 x.DX,.int .i64 x.DY,.sl 1 (List.map (rI .i64) x.Syms)]
theorem B8.row_eq (x:B8):x.row=[.int .i64 x.W,.int .i64 x.H,.int .i64 x.Gens,.int .i64 x.DX,.int .i64 x.DY,.sl 1 (List.map (rI .i64) x.Syms)]:=rfl
structure B9 where
 Vars:Int
 Clauses:List (List Int)
 deriving DecidableEq,Inhabited
def B9.row (x:B9):List L:=[.int .i64 x.Vars,.sl 1 (List.map (rS 1 (rI .i64)) x.Clauses)]
theorem B9.row_eq (x:B9):x.row=[.int .i64 x.Vars,.sl 1 (List.map (rS 1 (rI .i64)) x.Clauses)]:=rfl
structure Cell where
 X:Int
 Y:Int
 S:Int
 deriving DecidableEq,Inhabited
def Cell.row (x:Cell):List L:=[.int .i64 x.X,.int .i64 x.Y,.int .i64 x.S]
theorem Cell.row_eq (x:Cell):x.row=[.int .i64 x.X,.int .i64 x.Y,.int .i64 x.S]:=rfl
def Cell.key (x:Cell):Key:=.ints [x.X,x.Y,x.S]
def Cell.ints (x:Cell):List Int:=[x.X,x.Y,x.S]
instance:KeyF Cell.key:=⟨fun a b h=>by unfold Cell.key at h; cases a; cases b; injection h with h; simp only[List.cons.injEq,and_true] at h; simp only[Cell.mk.injEq]; exact h⟩
structure Box where
 X:Int
 Y:Int
 W:Int
 H:Int
 deriving DecidableEq,Inhabited
def Box.row (x:Box):List L:=[.int .i64 x.X,.int .i64 x.Y,.int .i64 x.W,.int .i64 x.H]
theorem Box.row_eq (x:Box):x.row=[.int .i64 x.X,.int .i64 x.Y,.int .i64 x.W,.int .i64 x.H]:=rfl
def Box.key (x:Box):Key:=.ints [x.X,x.Y,x.W,x.H]
def Box.ints (x:Box):List Int:=[x.X,x.Y,x.W,x.H]
instance:KeyF Box.key:=⟨fun a b h=>by unfold Box.key at h; cases a; cases b; injection h with h; simp only[List.cons.injEq,and_true] at h; simp only[Box.mk.injEq]; exact h⟩
structure Ba where
 constant:Int
 vars:List Int
 deriving DecidableEq,Inhabited
def Ba.row (x:Ba):List L:=[.int .i64 x.constant,pnil 1 (List.map (rI .i64) x.vars)]
theorem Ba.row_eq (x:Ba):x.row=[.int .i64 x.constant,pnil 1 (List.map (rI .i64) x.vars)]:=rfl
structure Bc where
 box:Box
 values:List Ba
 deriving DecidableEq,Inhabited
def Bc.row (x:Bc):List L:=[.int .i64 x.box.X,.int .i64 x.box.Y,.int .i64 x.box.W,.int .i64 x.box.H,.sl 2 (List.map Ba.row x.values)]
theorem Bc.row_eq (x:Bc):x.row=[.int .i64 x.box.X,.int .i64 x.box.Y,.int .i64 x.box.W,.int .i64 x.box.H,.sl 2 (List.map Ba.row x.values)]:=rfl
attribute [simp] Point.row_eq Node.row_eq Tree.row_eq Grid.row_eq B8.row_eq B9.row_eq Cell.row_eq Box.row_eq Ba.row_eq Bc.row_eq
def g0R:List (Int×Int×Int×Int):=[(1,0,0,1),(0,(-1),1,0),((-1),0,0,(-1)),(0,1,(-1),0),((-1),0,0,1),(0,(-1),(-1),0),(1,0,0,(-1)),(0,1,1,0)]
end Go.Proofs.YtlifofijgddjkacGreatDoor
namespace Go.Proofs.YtlifofijgddjkacGreatDoor
end Go.Proofs.YtlifofijgddjkacGreatDoor
namespace Go.Proofs.YtlifofijgddjkacGreatDoor
open Go.AM Go.Proofs
def jB (t:Tree) (_x:B8) (stt:Int):Option (Lp (Int) (Bool ⊕ Unit)):=match stt with
 | a1 =>
  (bif (ltB a1 (b9 t.Nodes)) then
   (idx t.Nodes a1).bind fun x1 =>
   (bif (gtB (b9 x1.Next) 20) then
    some (.out (.inl false))
   else
    some (.next (bm .i64 a1 1)))
  else
   some (.out (.inr ())))
def l6 (t:Tree) (x:B8):Option (Bool) :=
 ((bif (gtB (b9 t.Nodes) 150) then
  some true
 else
  (bif (gtB (b9 t.Hood) 9) then
   some true
  else
   (bif (gtB (b9 x.Syms) 20) then
    some true
   else
    (bif (gtB x.Gens 3) then
     some (leB x.Gens 6)
    else
     some false))))).bind fun a =>
 (bif a then
  some false
 else
  (bh (jB t x) bK 0).bind fun o=>match o with
   | .inl r =>
    some r
   | .inr _u =>
    ((bif (ltB x.W 1) then
     some true
    else
     (bif (ltB x.H 1) then
      some true
     else
      (bif (gtB x.W 16) then
       some true
      else
       (bif (gtB x.H 16) then
        some true
       else
        (bif (leB (bO .i64 x.W x.H) 9) then
         some true
        else
         some (gtB (bO .i64 x.W x.H) 16))))))).bind fun a1 =>
    some a1)
def m_L45_keep:Option (Tree) :=
 some (⟨2,[(⟨0,0⟩:Point)],[(⟨1,[0,1]⟩:Node)]⟩:Tree)
def iw (x:Int):Option (Bool) :=
 some (neB x x)
def f7 (x y:Int):Option (Int) :=
 (iw x).bind fun y1 =>
 (iw y).bind fun y2 =>
 (bif y1 then
  (bif y2 then
   some 0
  else
   some (-1))
 else
  (bif y2 then
   some 1
  else
   (bif (ltB x y) then
    some (-1)
   else
    (bif (gtB x y) then
     some 1
    else
     some 0))))
def gH (vals:List Int) (stt:Int):Option (Lp (Int) (Int ⊕ Unit)):=match stt with
 | a =>
  (bif (ltB a (b9 vals)) then
   (idx vals a).bind fun x =>
   (bif (neB x 0) then
    some (.out (.inl x))
   else
    some (.next (bm .i64 a 1)))
  else
   some (.out (.inr ())))
def kz (vals:List Int):Option (Int) :=
 (bh (gH vals) bK 0).bind fun o=>match o with
  | .inl r =>
   some r
  | .inr _u =>
   some 0
def gb (a b:Point):Option (Int) :=
 (f7 a.Y b.Y).bind fun y =>
 (f7 a.X b.X).bind fun y1 =>
 (kz [y,y1]).bind fun y2 =>
 some y2
def jc (l:List Point) (stt:Int):Option (Lp (Int) (Bool ⊕ Unit)):=match stt with
 | a1 =>
  (bif (ltB a1 (b9 l)) then
   (idx l a1).bind fun x =>
   ((bif (ltB x.X (-2)) then
    some true
   else
    (bif (gtB x.X 2) then
     some true
    else
     (bif (ltB x.Y (-2)) then
      some true
     else
      (bif (gtB x.Y 2) then
       some true
      else
       (bif (gtB a1 0) then
        (idx l (cu .i64 a1 1)).bind fun x1 =>
        (gb x1 x).bind fun y =>
        some (geB y 0)
       else
        some false)))))).bind fun a2 =>
   (bif a2 then
    some (.out (.inl false))
   else
    some (.next (bm .i64 a1 1)))
  else
   some (.out (.inr ())))
def jh (l:List Point):Option (Bool) :=
 ((bif (ltB (b9 l) 1) then
  some true
 else
  some (gtB (b9 l) 25))).bind fun a =>
 (bif a then
  some false
 else
  (bh (jc l) bK 0).bind fun o=>match o with
   | .inl r =>
    some r
   | .inr _u =>
    some true)
def gM (t:Tree) (a1:Int) (x:Node) (stt:Int):Option (Lp (Int) (Bool ⊕ Unit)):=match stt with
 | a3 =>
  (bif (ltB a3 (b9 x.Next)) then
   (idx x.Next a3).bind fun x1 =>
   ((bif (ltB x1 0) then
    some true
   else
    (bif (eqB x.Level 1) then
     (bif (geB x1 t.States) then
      some true
     else
      (bif (gtB x.Level 1) then
       (bif (geB x1 a1) then
        some true
       else
        (idx t.Nodes x1).bind fun x2 =>
        some (neB x2.Level (cu .i64 x.Level 1)))
      else
       some false))
    else
     (bif (gtB x.Level 1) then
      (bif (geB x1 a1) then
       some true
      else
       (idx t.Nodes x1).bind fun x2 =>
       some (neB x2.Level (cu .i64 x.Level 1)))
     else
      some false)))).bind fun a4 =>
   (bif a4 then
    some (.out (.inl false))
   else
    some (.next (bm .i64 a3 1)))
  else
   some (.out (.inr ())))
def gA (t:Tree) (stt:Int):Option (Lp (Int) (Bool ⊕ Unit)):=match stt with
 | a1 =>
  (bif (ltB a1 (b9 t.Nodes)) then
   (idx t.Nodes a1).bind fun x =>
   ((bif (ltB x.Level 1) then
    some true
   else
    (bif (gtB x.Level (b9 t.Hood)) then
     some true
    else
     some (neB (b9 x.Next) t.States)))).bind fun a2 =>
   (bif a2 then
    some (.out (.inl false))
   else
    (bh (gM t a1 x) bK 0).bind fun o=>match o with
     | .inl r =>
      some (.out (.inl r))
     | .inr _u =>
      some (.next (bm .i64 a1 1)))
  else
   some (.out (.inr ())))
def gh (t:Tree):Option (Bool) :=
 ((bif (ltB t.States 2) then
  some true
 else
  (bif (gtB t.States 8) then
   some true
  else
   (jh t.Hood).bind fun y =>
   (bif (fi y) then
    some true
   else
    (bif (ltB (b9 t.Nodes) 1) then
     some true
    else
     (bif (gtB (b9 t.Nodes) 4096) then
      some true
     else
      (idx t.Nodes (cu .i64 (b9 t.Nodes) 1)).bind fun x =>
      some (neB x.Level (b9 t.Hood)))))))).bind fun a =>
 (bif a then
  some false
 else
  (bh (gA t) bK 0).bind fun o=>match o with
   | .inl r =>
    some r
   | .inr _u =>
    some true)
def mi (t:Tree) (in_:List Int) (stt:Int×Int):Option (Lp (Int×Int) (Int)):=match stt with
 | (k,a) =>
  (bif (ltB a (b9 in_)) then
   (idx in_ a).bind fun x =>
   (idx t.Nodes k).bind fun x1 =>
   (idx x1.Next x).bind fun x2 =>
   some (.next (x2,(bm .i64 a 1)))
  else
   some (.out k))
def oy (t:Tree) (in_:List Int):Option (Int) :=
 (bh (mi t in_) bK ((cu .i64 (b9 t.Nodes) 1),0)).bind fun k =>
 some k
def oo (t:Tree):Option (Bool) :=
 ((gh t).bind fun y =>
 (bif y then
  (mkL 8 (b9 t.Hood) (b9 t.Hood) 0).bind fun _l =>
  (oy t (List.replicate (b9 t.Hood).toNat 0)).bind fun y1 =>
  some (eqB y1 0)
 else
  some false)).bind fun a =>
 some a
def kj (cv:Cell):Option (Point) :=
 some (⟨cv.X,cv.Y⟩:Point)
def kN (p:Point):Option (Bool) :=
 ((bif (leB (gy p.X p.Y) 1048576) then
  some (geB (imin p.X p.Y) (-1048576))
 else
  some false)).bind fun a =>
 some a
def lC (a b:Cell):Option (Int) :=
 (kj a).bind fun y =>
 (kj b).bind fun y1 =>
 (gb y y1).bind fun y2 =>
 some y2
def kc (p:List Cell) (stt:Int):Option (Lp (Int) (Bool ⊕ Unit)):=match stt with
 | a =>
  (bif (ltB a (b9 p)) then
   (idx p a).bind fun x =>
   ((kj x).bind fun y =>
   (kN y).bind fun y1 =>
   (bif (fi y1) then
    some true
   else
    (bif (ltB x.S 1) then
     some true
    else
     (bif (geB x.S 8) then
      some true
     else
      (bif (gtB a 0) then
       (idx p (cu .i64 a 1)).bind fun x1 =>
       (lC x1 x).bind fun y2 =>
       some (geB y2 0)
      else
       some false))))).bind fun a1 =>
   (bif a1 then
    some (.out (.inl false))
   else
    some (.next (bm .i64 a 1)))
  else
   some (.out (.inr ())))
def jE (p:List Cell):Option (Bool) :=
 (bif (gtB (b9 p) 5000) then
  some false
 else
  (bh (kc p) bK 0).bind fun o=>match o with
   | .inl r =>
    some r
   | .inr _u =>
    some true)
def lv (p:List Cell) (stt:Int×Int):Option (Lp (Int×Int) (Int)):=match stt with
 | (n,a) =>
  (bif (ltB a (b9 p)) then
   (idx p a).bind fun x =>
   some (.next ((gy n x.S),(bm .i64 a 1)))
  else
   some (.out n))
def kQ (p:List Cell):Option (Int) :=
 (bh (lv p) bK (0,0)).bind fun n =>
 some n
def ma (t:Tree) (p:List Cell):Option (Int) :=
 (oo t).bind fun y =>
 (bif (fi y) then
  some 11
 else
  (jE p).bind fun y1 =>
  (bif (fi y1) then
   some 2
  else
   (kQ p).bind fun y2 =>
   (bif (geB y2 t.States) then
    some 10
   else
    some 0)))
def mB (_t:Tree) (_p:List Cell) (n:Int) (stt:Unit):Option (Lp (Unit) (Unit)):=match stt with
 | _u =>
  (bif (ltB 0 n) then
   none
  else
   some (.out ()))
def oQ (t:Tree) (p:List Cell) (n:Int):Option ((List Cell)×Int) :=
 (ma t p).bind fun y =>
 (bif (neB y 0) then
  some ([],y)
 else
  ((bif (ltB n 0) then
   some true
  else
   some (gtB n 10000))).bind fun a =>
  (bif a then
   some ([],2)
  else
   (bh (mB t p n) bK ()).bind fun _u =>
   some (p,0)))
def kJ (x:B8) (stt:Int×(List Bool)):Option (Lp (Int×(List Bool)) (Bool ⊕ Unit)):=match stt with
 | (a,seen) =>
  (bif (ltB a (b9 x.Syms)) then
   (idx x.Syms a).bind fun x1 =>
   ((bif (ltB x1 0) then
    some true
   else
    (bif (geB x1 8) then
     some true
    else
     (o6 8 seen x1).bind fun x2 =>
     (bif x2 then
      some true
     else
      (irem x1 2).bind fun n =>
      (bif (eqB n 1) then
       some (neB x.W x.H)
      else
       some false))))).bind fun a1 =>
   (bif a1 then
    some (.out (.inl false))
   else
    (o6 8 seen x1).bind fun _x2 =>
    some (.next ((bm .i64 a 1),(seen.set x1.toNat true))))
  else
   some (.out (.inr ())))
def mt (x:B8):Option (Bool) :=
 (bh (kJ x) bK (0,[false,false,false,false,false,false,false,false])).bind fun o=>match o with
  | .inl r =>
   some r
  | .inr _u =>
   some true
def lr (x:B8):Option (Int) :=
 (bif (ltB (imin x.W x.H) 1) then
  some 2
 else
  ((bif (gtB (gy x.W x.H) 16) then
   some true
  else
   some (gtB (bO .i64 x.W x.H) 16))).bind fun a =>
  (bif a then
   some 6
  else
   ((bif (ltB x.Gens 1) then
    some true
   else
    (bif (gtB x.Gens 6) then
     some true
    else
     (bif (gtB (gy x.DX x.DY) 24) then
      some true
     else
      (bif (ltB (imin x.DX x.DY) (-24)) then
       some true
      else
       (mt x).bind fun y =>
       some (fi y)))))).bind fun a1 =>
   (bif a1 then
    some 2
   else
    some 0)))
def ir (t:Tree) (x:B8):Option (Int) :=
 (oQ t [] 0).bind fun y =>
 (bif (neB y.2 0) then
  some y.2
 else
  (lr x).bind fun y1 =>
  some y1)
def cg (l:List Int):Option (List Int):=ik 8 [] l
def iI (_x:Int) (next:List Int):Option (List Int) :=
 some next
def cO (l:List Int) (n base:Int):Option (List Int):=appUM l n base
def dy (i base:Int):Option (List Int) :=
 ((bif (ltB i 0) then
  (ik 1 [] [45]).bind fun _l =>
  some ((cQ .u64 (mb .u64 i)),([]++[45]))
 else
  some ((mb .u64 i),[]))).bind fun(u,dst) =>
 (cO dst u base).bind fun y =>
 some y
def dN (i base:Int):Option (List Int) :=
 (dy i base).bind fun y =>
 some y
def dz (dst:List Int) (i base:Int):Option (List Int) :=
 ((bif (ltB i 0) then
  (ik 1 dst [45]).bind fun _l =>
  some ((cQ .u64 (mb .u64 i)),(dst++[45]))
 else
  some ((mb .u64 i),dst))).bind fun(u,dst1) =>
 (cO dst1 u base).bind fun y =>
 some y
def dd (dst:List Int) (i base:Int):Option (List Int) :=
 (dz dst i base).bind fun y =>
 some y
def eI (_ax:List Node) (_al:List (List UInt8×Int)) (_level:Int) (next:List Int) (stt:Int×(List Int)):Option (Lp (Int×(List Int)) ((List Int))):=match stt with
 | (a,keyv) =>
  (bif (ltB a (b9 next)) then
   (idx next a).bind fun x =>
   (ik 1 keyv [32]).bind fun _l =>
   (dd (keyv++[32]) x 10).bind fun y1 =>
   some (.next ((bm .i64 a 1),y1))
  else
   some (.out keyv))
def dp (ax:List Node) (al:List (List UInt8×Int)) (level:Int) (next:List Int):Option (Int×(List (List UInt8×Int))×(List Node)) :=
 (dN level 10).bind fun y =>
 (bh (eI ax al level next) bK (0,y)).bind fun keyv =>
 (kckS (ofBytes keyv)).bind fun _u =>
 (bif (kZ al (ofBytes keyv)) then
  some ((mgetD al (ofBytes keyv) 0),al,ax)
 else
  (ik 32 ax [(⟨level,next⟩:Node)]).bind fun _l =>
  some ((cu .i64 ((b9 ax)+1) 1),(msetL al (ofBytes keyv) (cu .i64 ((b9 ax)+1) 1)),(ax++[(⟨level,next⟩:Node)])))
def cf (l:List Point):Option (List Point):=ik 16 [] l
def bR (rcv:(Int->(List Int)->(List Node)->(List Node)->Option (Int×(List Int)×(List Node)))) (_k:Int) (a1:List Node) (x1:Node) (y:List Int) (stt:Int×(List Int)×(List Node)×(List Int)):Option (Lp (Int×(List Int)×(List Node)×(List Int)) (((List Int)×(List Node)×(List Int)))):=match stt with
 | (a2,l,l2,l1) =>
  (bif (ltB a2 (b9 y)) then
   ((idx l a2).bind fun x2 =>
   (bif (gtB x1.Level 1) then
    (rcv x2 l1 a1 l2).bind fun y1 =>
    some ((l.set a2.toNat y1.1),y1.2.1,y1.2.2)
   else
    some (l,l1,l2))).bind fun(l3,l4,l5) =>
   some (.next ((bm .i64 a2 1),l3,l5,l4))
  else
   some (.out (l,l2,l1)))
def bV (rcv:(Int->(List Int)->(List Node)->(List Node)->Option (Int×(List Int)×(List Node)))) (k:Int) (a:List Int) (a1 cv:List Node):Option (Int×(List Int)×(List Node)) :=
 (idx a k).bind fun x =>
 (bif (gtB x 0) then
  some ((cu .i64 x 1),a,cv)
 else
  (idx a1 k).bind fun x1 =>
  (cg x1.Next).bind fun y =>
  (bh (bR rcv k a1 x1 y) bK (0,y,cv,a)).bind fun(l,l1,l2) =>
  (ik 32 l1 [(⟨x1.Level,l⟩:Node)]).bind fun _l3 =>
  (idx l2 k).bind fun _x2 =>
  some ((cu .i64 ((b9 l1)+1) 1),(l2.set k.toNat ((b9 l1)+1)),(l1++[(⟨x1.Level,l⟩:Node)])))
def fI (k:Int) (a:List Int) (a1 cv:List Node):Option (Int×(List Int)×(List Node)):=recN bV (fun _ _ _ _=>none) recF k a a1 cv
def fA (nodes:List Node) (root:Int):Option (List Node) :=
 (mkL 8 (b9 nodes) (b9 nodes) 0).bind fun _l =>
 (fI root (List.replicate (b9 nodes).toNat 0) nodes []).bind fun y =>
 some y.2.2
def bA (_t:Tree) (_a:Int) (_mp:List (List UInt8×Int)) (_l:List Node) (to_:List Int) (x:Node) (y:List Int) (stt:Int×(List Int)):Option (Lp (Int×(List Int)) ((List Int))):=match stt with
 | (a1,next) =>
  (bif (ltB a1 (b9 y)) then
   ((idx next a1).bind fun x1 =>
   (bif (gtB x.Level 1) then
    (idx to_ x1).bind fun x2 =>
    some (next.set a1.toNat x2)
   else
    some next)).bind fun aG =>
   some (.next ((bm .i64 a1 1),aG))
  else
   some (.out next))
def bT (t:Tree) (stt:Int×(List (List UInt8×Int))×(List Node)×(List Int)):Option (Lp (Int×(List (List UInt8×Int))×(List Node)×(List Int)) (((List (List UInt8×Int))×(List Node)×(List Int)))):=match stt with
 | (a,mp,l,to_) =>
  (bif (ltB a (b9 t.Nodes)) then
   (idx t.Nodes a).bind fun x =>
   (cg x.Next).bind fun y =>
   (bh (bA t a mp l to_ x y) bK (0,y)).bind fun next =>
   (iI x.Level next).bind fun y1 =>
   (dp l mp x.Level y1).bind fun y2 =>
   (ik 8 to_ [y2.1]).bind fun _l1 =>
   some (.next ((bm .i64 a 1),y2.2.1,y2.2.2,(to_++[y2.1])))
  else
   some (.out (mp,l,to_)))
def cG (t:Tree):Option (Tree) :=
 (bh (bT t) bK (0,[],[],[])).bind fun(_mp,l,to_) =>
 (cf t.Hood).bind fun y =>
 (idx to_ (cu .i64 (b9 to_) 1)).bind fun x =>
 (fA l x).bind fun y1 =>
 some (⟨t.States,y,y1⟩:Tree)
def ge (t:Tree):Option (Tree) :=
 (gh t).bind fun y =>
 (bif (fi y) then
  some (⟨0,[],[]⟩:Tree)
 else
  (cG t).bind fun y1 =>
  some y1)
def hX (states:Int):Option (Int) :=
 (bif (eqB states 2) then
  some 1
 else
  ((bif (eqB states 3) then
   some (eqB states 3)
  else
   some (eqB states 4))).bind fun a =>
  (bif a then
   some 2
  else
   ((bif (gtB states 4) then
    some (leB states 8)
   else
    some false)).bind fun a1 =>
   (bif a1 then
    some 3
   else
    some 0)))
def gO (t:Tree):Option (Int×(List Point)×(List Node)×Int) :=
 (ge t).bind fun y =>
 (hX t.States).bind fun y1 =>
 some (y.States,y.Hood,y.Nodes,y1)
def dT (l:List Point) (stt:Int×Int):Option (Lp (Int×Int) (Int)):=match stt with
 | (r_,a) =>
  (bif (ltB a (b9 l)) then
   (idx l a).bind fun x =>
   some (.next ((gy (gy (gy (gy r_ x.X) (cQ .i64 x.X)) x.Y) (cQ .i64 x.Y)),(bm .i64 a 1)))
  else
   some (.out r_))
def dw (l:List Point):Option (Int) :=
 ((jh l).bind fun y =>
 (bif y then
  (bh (dT l) bK (0,0)).bind fun r_ =>
  some r_
 else
  some 0)).bind fun r_ =>
 some r_
def cS (_ah:List (List Int)) (_aa:Int) (_ag:List Point) (_ae:List Node) (ak:Int) (_ai:List (List UInt8×Tree)) (stt:Int×(List Int)×Int):Option (Lp (Int×(List Int)×Int) (((List Int)×Int))):=match stt with
 | (a,l,aj) =>
  (bif (ltB a ak) then
   (ik 8 l [(bm .i64 aj 1)]).bind fun _l1 =>
   some (.next ((bm .i64 a 1),(l++[(bm .i64 aj 1)]),(bm .i64 aj 1)))
  else
   some (.out (l,aj)))
def dc (ab:Int) (ah:List (List Int)) (aa:Int) (ag:List Point) (ae:List Node) (ak:Int) (ai:List (List UInt8×Tree)):Option ((List Int)×Int) :=
 (bh (cS ah aa ag ae ak ai) bK (0,[],ab)).bind fun(l,aj) =>
 some (l,aj)
def eM (cv:Int) (y:List Int) (stt:Int×(List Int)):Option (Lp (Int×(List Int)) ((List Int))):=match stt with
 | (a,l) =>
  (bif (ltB a (b9 y)) then
   ((ishr .i64 cv a).bind fun n =>
   (bif (eqB (iand .i64 n 1) 1) then
    (idx l a).bind fun x =>
    some (l.set a.toNat (cQ .i64 x))
   else
    some l)).bind fun l1 =>
   some (.next ((bm .i64 a 1),l1))
  else
   some (.out l))
def fB (vars:List Int) (cv:Int):Option (List Int) :=
 (cg vars).bind fun y =>
 (bh (eM cv y) bK (0,y)).bind fun l =>
 some l
def cn (_ab:Int) (ah:List (List Int)) (_aa:Int) (_ag:List Point) (_ae:List Node) (_ak:Int) (_ai:List (List UInt8×Tree)) (l:List Int):Option (Unit) :=
 (ik 24 ah [l]).bind fun _l1 =>
 some ()
def d5 (ah:List (List Int)) (aa:Int) (ag:List Point) (ae:List Node) (ak:Int) (ai:List (List UInt8×Tree)) (box:Box) (stt:Int×(List Ba)×Int):Option (Lp (Int×(List Ba)×Int) (((List Ba)×Int))):=match stt with
 | (a,l,aj) =>
  (bif (ltB a (bO .i64 box.W box.H)) then
   (dc aj ah aa ag ae ak ai).bind fun y =>
   (neE y.1).bind fun _u =>
   (ik 32 l [(⟨0,y.1⟩:Ba)]).bind fun _l1 =>
   some (.next ((bm .i64 a 1),(l++[(⟨0,y.1⟩:Ba)]),y.2))
  else
   some (.out (l,aj)))
def cD (aa:Int) (ag:List Point) (ae:List Node) (ak:Int) (ai:List (List UInt8×Tree)) (_box:Box) (_l:List Ba) (aj _a:Int) (x:Ba) (stt:Int×(List (List Int))):Option (Lp (Int×(List (List Int))) ((List (List Int)))):=match stt with
 | (cv,l2) =>
  (ishl .i64 1 ak).bind fun n =>
  (bif (ltB cv n) then
   (neE x.vars).bind fun _u =>
   (fB x.vars cv).bind fun y =>
   (cn aj l2 aa ag ae ak ai y).bind fun _y1 =>
   some (.next ((bm .i64 cv 1),(l2++[y])))
  else
   some (.out l2))
def cY (aa:Int) (ag:List Point) (ae:List Node) (ak:Int) (ai:List (List UInt8×Tree)) (box:Box) (l:List Ba) (aj:Int) (stt:Int×(List (List Int))):Option (Lp (Int×(List (List Int))) ((List (List Int)))):=match stt with
 | (a,l1) =>
  (bif (ltB a (b9 l)) then
   (idx l a).bind fun x =>
   (bh (cD aa ag ae ak ai box l aj a x) bK (aa,l1)).bind fun l2 =>
   some (.next ((bm .i64 a 1),l2))
  else
   some (.out l1))
def dr (ab:Int) (ah:List (List Int)) (aa:Int) (ag:List Point) (ae:List Node) (ak:Int) (ai:List (List UInt8×Tree)) (box:Box):Option ((List Ba)×(List (List Int))×Int) :=
 (bh (d5 ah aa ag ae ak ai box) bK (0,[],ab)).bind fun(l,aj) =>
 (bh (cY aa ag ae ak ai box l aj) bK (0,ah)).bind fun l1 =>
 some (l,l1,aj)
def kF (n:Int):Option (Bool) :=
 ((bif (geB n (-1048576)) then
  some (leB n 1048576)
 else
  some false)).bind fun a =>
 some a
def jw (b:Box):Option (Bool) :=
 ((bif (geB b.W 1) then
  (bif (ltB b.W 2097154) then
   (bif (geB b.H 1) then
    (bif (ltB b.H 2097154) then
     (kF b.X).bind fun y =>
     (bif y then
      (kF b.Y).bind fun y1 =>
      (bif y1 then
       (kF (cu .i64 (bm .i64 b.X b.W) 1)).bind fun y2 =>
       (bif y2 then
        (kF (cu .i64 (bm .i64 b.Y b.H) 1)).bind fun y3 =>
        some y3
       else
        some false)
      else
       some false)
     else
      some false)
    else
     some false)
   else
    some false)
  else
   some false)
 else
  some false)).bind fun a =>
 some a
def gK (k:Int) (p:Point):Option (Point) :=
 (o6 8 g0R (iand .i64 k 7)).bind fun x =>
 some (⟨(bm .i64 (bO .i64 x.1 p.X) (bO .i64 x.2.1 p.Y)),(bm .i64 (bO .i64 x.2.2.1 p.X) (bO .i64 x.2.2.2 p.Y))⟩:Point)
def ls (k:Int) (b:Box):Option (Box) :=
 (jw b).bind fun y =>
 (bif (fi y) then
  some (⟨0,0,0,0⟩:Box)
 else
  (gK k (⟨b.X,b.Y⟩:Point)).bind fun y1 =>
  (gK k (⟨(cu .i64 (bm .i64 b.X b.W) 1),(cu .i64 (bm .i64 b.Y b.H) 1)⟩:Point)).bind fun y2 =>
  some (⟨(imin y1.X y2.X),(imin y1.Y y2.Y),(bm .i64 (cu .i64 (gy y1.X y2.X) (imin y1.X y2.X)) 1),(bm .i64 (cu .i64 (gy y1.Y y2.Y) (imin y1.Y y2.Y)) 1)⟩:Box))
def k5 (k:Int) (b:Box) (p:Point):Option (Point) :=
 ((jw b).bind fun y =>
 (bif (fi y) then
  some true
 else
  (jw (⟨p.X,p.Y,1,1⟩:Box)).bind fun y1 =>
  some (fi y1))).bind fun a =>
 (bif a then
  some (⟨0,0⟩:Point)
 else
  (ls k b).bind fun y =>
  (gK k p).bind fun y1 =>
  some (⟨(cu .i64 y1.X y.X),(cu .i64 y1.Y y.Y)⟩:Point))
def dM (f:Bc) (x y:Int):Option (Ba) :=
 ((bif (ltB (cu .i64 x f.box.X) 0) then
  some true
 else
  (bif (geB (cu .i64 x f.box.X) f.box.W) then
   some true
  else
   (bif (ltB (cu .i64 y f.box.Y) 0) then
    some true
   else
    some (geB (cu .i64 y f.box.Y) f.box.H))))).bind fun a =>
 (bif a then
  some (⟨0,[]⟩:Ba)
 else
  (idx f.values (bm .i64 (bO .i64 (cu .i64 y f.box.Y) f.box.W) (cu .i64 x f.box.X))).bind fun x1 =>
  some x1)
def fV (ab aa:Int) (ag:List Point) (ae:List Node) (ak:Int) (ai:List (List UInt8×Tree)) (x y:List Int) (stt:Int×(List (List Int))):Option (Lp (Int×(List (List Int))) ((List (List Int)))):=match stt with
 | (a,l) =>
  (bif (ltB a (b9 x)) then
   (idx x a).bind fun x1 =>
   (idx y a).bind fun x2 =>
   (cn ab l aa ag ae ak ai [(cQ .i64 x1),x2]).bind fun _y1 =>
   (cn ab (l++[[(cQ .i64 x1),x2]]) aa ag ae ak ai [x1,(cQ .i64 x2)]).bind fun _y2 =>
   some (.next ((bm .i64 a 1),((l++[[(cQ .i64 x1),x2]])++[[x1,(cQ .i64 x2)]])))
  else
   some (.out l))
def eY (ab:Int) (ah:List (List Int)) (aa:Int) (ag:List Point) (ae:List Node) (ak:Int) (ai:List (List UInt8×Tree)) (x y:List Int):Option (List (List Int)) :=
 (bh (fV ab aa ag ae ak ai x y) bK (0,ah)).bind fun l =>
 some l
def gp (next:List Int) (_aH:Int) (_aO:List Point) (_aL:List Node) (_a a1:Int) (stt:Int×(List Int)):Option (Lp (Int×(List Int)) ((List Int))):=match stt with
 | (a2,aG) =>
  (bif (ltB a2 (b9 next)) then
   ((bif (neB a2 a1) then
    (idx aG a1).bind fun x =>
    (idx aG a2).bind fun _x1 =>
    some (aG.set a2.toNat x)
   else
    some aG)).bind fun next2 =>
   some (.next ((bm .i64 a2 1),next2))
  else
   some (.out aG))
def i8 (level:Int) (next:List Int) (aH:Int) (aO:List Point) (aL:List Node) (a a1:Int):Option (List Int) :=
 ((bif (eqB level (cu .i64 (b9 aO) a)) then
  (bh (gp next aH aO aL a a1) bK (0,next)).bind fun aG =>
  some aG
 else
  some next)).bind fun aG =>
 some aG
def fp (_ax:List Node) (_al:List (List UInt8×Int)) (_level:Int) (next:List Int) (stt:Int×(List Int)):Option (Lp (Int×(List Int)) ((List Int))):=match stt with
 | (a,keyv) =>
  (bif (ltB a (b9 next)) then
   (idx next a).bind fun x =>
   (ik 1 keyv [32]).bind fun _l =>
   (dd (keyv++[32]) x 10).bind fun y1 =>
   some (.next ((bm .i64 a 1),y1))
  else
   some (.out keyv))
def fZ (ax:List Node) (al:List (List UInt8×Int)) (level:Int) (next:List Int):Option (Int×(List (List UInt8×Int))×(List Node)) :=
 (dN level 10).bind fun y =>
 (bh (fp ax al level next) bK (0,y)).bind fun keyv =>
 (kckS (ofBytes keyv)).bind fun _u =>
 (bif (kZ al (ofBytes keyv)) then
  some ((mgetD al (ofBytes keyv) 0),al,ax)
 else
  (ik 32 ax [(⟨level,next⟩:Node)]).bind fun _l =>
  some ((cu .i64 ((b9 ax)+1) 1),(msetL al (ofBytes keyv) (cu .i64 ((b9 ax)+1) 1)),(ax++[(⟨level,next⟩:Node)])))
def dD (_t:Tree) (_aA:Int) (_aI:List Point) (_aC:List Node) (_cv _cv1 _a:Int) (_mp:List (List UInt8×Int)) (_l:List Node) (to_:List Int) (x:Node) (y:List Int) (stt:Int×(List Int)):Option (Lp (Int×(List Int)) ((List Int))):=match stt with
 | (a1,next) =>
  (bif (ltB a1 (b9 y)) then
   ((idx next a1).bind fun x1 =>
   (bif (gtB x.Level 1) then
    (idx to_ x1).bind fun x2 =>
    some (next.set a1.toNat x2)
   else
    some next)).bind fun aG =>
   some (.next ((bm .i64 a1 1),aG))
  else
   some (.out next))
def dA (t:Tree) (aA:Int) (aI:List Point) (aC:List Node) (cv cv1:Int) (stt:Int×(List (List UInt8×Int))×(List Node)×(List Int)):Option (Lp (Int×(List (List UInt8×Int))×(List Node)×(List Int)) (((List (List UInt8×Int))×(List Node)×(List Int)))):=match stt with
 | (a,mp,l,to_) =>
  (bif (ltB a (b9 t.Nodes)) then
   (idx t.Nodes a).bind fun x =>
   (cg x.Next).bind fun y =>
   (bh (dD t aA aI aC cv cv1 a mp l to_ x y) bK (0,y)).bind fun next =>
   (i8 x.Level next aA aI aC cv cv1).bind fun y1 =>
   (fZ l mp x.Level y1).bind fun y2 =>
   (ik 8 to_ [y2.1]).bind fun _l1 =>
   some (.next ((bm .i64 a 1),y2.2.1,y2.2.2,(to_++[y2.1])))
  else
   some (.out (mp,l,to_)))
def dQ (t:Tree) (aA:Int) (aI:List Point) (aC:List Node) (cv cv1:Int):Option ((List Point)×(List Node)) :=
 (bh (dA t aA aI aC cv cv1) bK (0,[],[],[])).bind fun(_mp,l,to_) =>
 (cf t.Hood).bind fun y =>
 (idx to_ (cu .i64 (b9 to_) 1)).bind fun x =>
 (fA l x).bind fun y1 =>
 some (y,y1)
def ot (t:Tree) (k s:Int):Option (Tree×Int) :=
 (gh t).bind fun y =>
 (bif (fi y) then
  some ((⟨0,[],[]⟩:Tree),11)
 else
  ((bif (ltB k 0) then
   some true
  else
   some (geB k (b9 t.Hood)))).bind fun a =>
  (bif a then
   some ((⟨0,[],[]⟩:Tree),2)
  else
   ((bif (ltB s 0) then
    some true
   else
    some (geB s t.States))).bind fun a1 =>
   (bif a1 then
    some ((⟨0,[],[]⟩:Tree),10)
   else
    (dQ t t.States t.Hood t.Nodes k s).bind fun y1 =>
    some ((⟨t.States,y1.1,y1.2⟩:Tree),0))))
def fj (_ab:Int) (_ah:List (List Int)) (_aa:Int) (_ag:List Point) (_ae:List Node) (_ak:Int) (_ai:List (List UInt8×Tree)) (in_:List Ba) (stt:Int×(List Int)):Option (Lp (Int×(List Int)) ((List Int))):=match stt with
 | (a,keyv) =>
  (bif (ltB a (b9 in_)) then
   (idx in_ a).bind fun x =>
   ((bif (fi (isE x.vars)) then
    some 255
   else
    some (mb .u8 x.constant))).bind fun k =>
   (ik 1 keyv [k]).bind fun _l =>
   some (.next ((bm .i64 a 1),(keyv++[k])))
  else
   some (.out keyv))
def fh (_ab:Int) (_ah:List (List Int)) (_aa:Int) (_ag:List Point) (_ae:List Node) (_ak:Int) (_ai:List (List UInt8×Tree)) (in_:List Ba) (_keyv:List Int) (_u:Unit) (stt:Int×Int×(List Point)×(List Node)):Option (Lp (Int×Int×(List Point)×(List Node)) ((Int×(List Point)×(List Node)))):=match stt with
 | (a,az,aF,aB) =>
  (bif (ltB a (b9 in_)) then
   ((idx in_ a).bind fun x =>
   (bif (isE x.vars) then
    (ot (⟨az,aF,aB⟩:Tree) a x.constant).bind fun y =>
    some (y.1.States,y.1.Hood,y.1.Nodes)
   else
    some (az,aF,aB))).bind fun(aS,tHood1,tNodes1) =>
   some (.next ((bm .i64 a 1),aS,tHood1,tNodes1))
  else
   some (.out (az,aF,aB)))
def eu (ab:Int) (ah:List (List Int)) (aa:Int) (ag:List Point) (ae:List Node) (ak:Int) (ai:List (List UInt8×Tree)) (in_:List Ba):Option (Int×(List Point)×(List Node)×(List (List UInt8×Tree))) :=
 (bh (fj ab ah aa ag ae ak ai in_) bK (0,[])).bind fun keyv =>
 (kckS (ofBytes keyv)).bind fun u =>
 (bif (kZ ai (ofBytes keyv)) then
  (kC ai (ofBytes keyv)).bind fun v =>
  some (v.States,v.Hood,v.Nodes,ai)
 else
  (bh (fh ab ah aa ag ae ak ai in_ keyv u) bK (0,aa,ag,ae)).bind fun(az,aF,aB) =>
  some (az,aF,aB,(msetL ai (ofBytes keyv) (⟨az,aF,aB⟩:Tree))))
def fg (n:Int) (a:Node):Option (Bool) :=
 (idx a.Next 0).bind fun x =>
 some (neB n x)
def bE (s:List Int) (cv:Node) (stt:Int):Option (Lp (Int) (Int ⊕ Unit)):=match stt with
 | a =>
  (bif (ltB a (b9 s)) then
   (idx s a).bind fun x =>
   (fg x cv).bind fun y =>
   (bif y then
    some (.out (.inl a))
   else
    some (.next (bm .i64 a 1)))
  else
   some (.out (.inr ())))
def ca (s:List Int) (cv:Node):Option (Int) :=
 (bh (bE s cv) bK 0).bind fun o=>match o with
  | .inl r =>
   some r
  | .inr _u =>
   some (-1)
def bH (s:List Int) (cv:Node):Option (Bool) :=
 (ca s cv).bind fun y =>
 some (geB y 0)
def cd (s aT:Int) (aNext:List Int) (a:List Ba):Option (Int×(List Int)) :=
 (bif (eqB aT 1) then
  (idx aNext s).bind fun x =>
  some (x,[])
 else
  (idx aNext s).bind fun x =>
  (idx a x).bind fun x1 =>
  some (x1.constant,x1.vars))
def dl (_ab:Int) (ah:List (List Int)) (_aa:Int) (_ag:List Point) (_ae:List Node) (_ak:Int) (_ai:List (List UInt8×Tree)) (l:List Int):Option (Unit) :=
 (ik 24 ah [l]).bind fun _l1 =>
 some ()
def bU (l:List Int) (aK:Int) (aE:List (List Int)) (aM:Int) (aP:List Point) (aN:List Node) (abits:Int) (aR:List (List UInt8×Tree)) (a:List Int):Option (List (List Int)) :=
 (cg a).bind fun y =>
 (ik 8 y l).bind fun _l1 =>
 (dl aK aE aM aP aN abits aR (y++l)).bind fun _y1 =>
 some (aE++[(y++l)])
def db (ab aa:Int) (ag:List Point) (ae:List Node) (ak:Int) (ai:List (List UInt8×Tree)) (aD own:List Int) (v:Ba) (stt:Int×(List (List Int))):Option (Lp (Int×(List (List Int))) ((List (List Int)))):=match stt with
 | (a,l) =>
  (bif (ltB a (b9 own)) then
   ((idx own a).bind fun x =>
   (bif (fi (isE v.vars)) then
    (neE v.vars).bind fun _u =>
    (idx v.vars a).bind fun x1 =>
    (bU [(cQ .i64 x),x1] ab l aa ag ae ak ai aD).bind fun y =>
    (bU [x,(cQ .i64 x1)] ab y aa ag ae ak ai aD).bind fun y1 =>
    some y1
   else
    (ishr .i64 v.constant a).bind fun n =>
    (bif (eqB (iand .i64 n 1) 1) then
     (bU [x] ab l aa ag ae ak ai aD).bind fun y =>
     some y
    else
     (bU [(cQ .i64 x)] ab l aa ag ae ak ai aD).bind fun y =>
     some y))).bind fun l1 =>
   some (.next ((bm .i64 a 1),l1))
  else
   some (.out l))
def du (ab:Int) (ah:List (List Int)) (aa:Int) (ag:List Point) (ae:List Node) (ak:Int) (ai:List (List UInt8×Tree)) (aD own:List Int) (v:Ba):Option (List (List Int)) :=
 (bh (db ab aa ag ae ak ai aD own v) bK (0,ah)).bind fun l =>
 some l
def cN (aa:Int) (ag:List Point) (ae:List Node) (ak:Int) (ai:List (List UInt8×Tree)) (_t:Tree) (_in_:List Ba) (a:Int) (l1:List Ba) (x:Node) (x1:Ba) (y1:(List Int)×Int) (x2:Ba) (_u:Unit) (stt:Int×(List (List Int))):Option (Lp (Int×(List (List Int))) ((List (List Int)))):=match stt with
 | (a1,l3) =>
  (bif (ltB a1 (b9 x.Next)) then
   (neE x1.vars).bind fun _u1 =>
   (fB x1.vars a1).bind fun y2 =>
   (cd a1 x.Level x.Next (l1.set a.toNat (⟨x2.constant,y1.1⟩:Ba))).bind fun y3 =>
   (du y1.2 l3 aa ag ae ak ai y2 y1.1 (⟨y3.1,y3.2⟩:Ba)).bind fun y4 =>
   some (.next ((bm .i64 a1 1),y4))
  else
   some (.out l3))
def cM (aa:Int) (ag:List Point) (ae:List Node) (ak:Int) (ai:List (List UInt8×Tree)) (t:Tree) (in_:List Ba) (stt:Int×(List Ba)×(List (List Int))×Int):Option (Lp (Int×(List Ba)×(List (List Int))×Int) (((List Ba)×(List (List Int))×Int))):=match stt with
 | (a,l1,l2,aj) =>
  (bif (ltB a (b9 t.Nodes)) then
   (idx t.Nodes a).bind fun x =>
   (bH x.Next x).bind fun y =>
   (bif (fi y) then
    (cd 0 x.Level x.Next l1).bind fun y1 =>
    (idx l1 a).bind fun _x1 =>
    some (.next ((bm .i64 a 1),(l1.set a.toNat (⟨y1.1,y1.2⟩:Ba)),l2,aj))
   else
    (idx in_ (cu .i64 (b9 t.Hood) x.Level)).bind fun x1 =>
    (dc aj l2 aa ag ae ak ai).bind fun y1 =>
    (idx l1 a).bind fun x2 =>
    (neE y1.1).bind fun u =>
    (bh (cN aa ag ae ak ai t in_ a l1 x x1 y1 x2 u) bK (0,l2)).bind fun l3 =>
    some (.next ((bm .i64 a 1),(l1.set a.toNat (⟨x2.constant,y1.1⟩:Ba)),l3,y1.2)))
  else
   some (.out (l1,l2,aj)))
def dF (ab:Int) (ah:List (List Int)) (aa:Int) (ag:List Point) (ae:List Node) (ak:Int) (ai:List (List UInt8×Tree)) (t:Tree) (in_:List Ba):Option (Int×(List Int)×(List (List Int))×Int) :=
 (mkL 32 (b9 t.Nodes) (b9 t.Nodes) (⟨0,[]⟩:Ba)).bind fun _l =>
 (bh (cM aa ag ae ak ai t in_) bK (0,(List.replicate (b9 t.Nodes).toNat (⟨0,[]⟩:Ba)),ah,ab)).bind fun(l1,l2,aj) =>
 (idx l1 (cu .i64 (b9 l1) 1)).bind fun x =>
 some (x.constant,x.vars,l2,aj)
def cJ (ab:Int) (ah:List (List Int)) (_aa:Int) (_ag:List Point) (_ae:List Node) (_ak:Int) (_ai:List (List UInt8×Tree)):Option (Bool) :=
 ((bif (gtB ab 65536) then
  some true
 else
  some (gtB (b9 ah) 262144))).bind fun a =>
 some a
def cE (_aa:Int) (ag:List Point) (_ae:List Node) (_ak:Int) (f:Bc) (_box:Box) (_fixed:Bool) (y x:Int) (_l2:List Ba) (_l3:List (List Int)) (_ar:Int) (_mp1:List (List UInt8×Tree)) (stt:Int×(List Ba)):Option (Lp (Int×(List Ba)) ((List Ba))):=match stt with
 | (a,in_) =>
  (bif (ltB a (b9 ag)) then
   (idx ag a).bind fun x1 =>
   (dM f (bm .i64 x x1.X) (bm .i64 y x1.Y)).bind fun y1 =>
   (ik 32 in_ [y1]).bind fun _l4 =>
   some (.next ((bm .i64 a 1),(in_++[y1])))
  else
   some (.out in_))
def co (aa:Int) (ag:List Point) (ae:List Node) (ak:Int) (f:Bc) (box:Box) (fixed:Bool) (y:Int) (stt:Int×(List Ba)×(List (List Int))×Int×(List (List UInt8×Tree))):Option (Lp (Int×(List Ba)×(List (List Int))×Int×(List (List UInt8×Tree))) ((Int×Int×Int×Int×(List Ba)×Bool×Int×(List (List UInt8×Tree))×(List (List Int))) ⊕ ((List Ba)×(List (List Int))×Int×(List (List UInt8×Tree))))):=match stt with
 | (x,l2,l3,ar,mp1) =>
  (bif (ltB x (bm .i64 box.X box.W)) then
   (bh (cE aa ag ae ak f box fixed y x l2 l3 ar mp1) bK (0,[])).bind fun in_ =>
   ((bif fixed then
    (eu ar l3 aa ag ae ak mp1 in_).bind fun y1 =>
    some (y1.1,y1.2.1,y1.2.2.1,y1.2.2.2)
   else
    some (aa,ag,ae,mp1))).bind fun(az,aF,aB,mp2) =>
   (dF ar l3 aa ag ae ak mp2 (⟨az,aF,aB⟩:Tree) in_).bind fun y1 =>
   (ik 32 l2 [(⟨y1.1,y1.2.1⟩:Ba)]).bind fun _l4 =>
   (cJ y1.2.2.2 y1.2.2.1 aa ag ae ak mp2).bind fun y2 =>
   (bif y2 then
    some (.out (.inl (0,0,0,0,[],false,y1.2.2.2,mp2,y1.2.2.1)))
   else
    some (.next ((bm .i64 x 1),(l2++[(⟨y1.1,y1.2.1⟩:Ba)]),y1.2.2.1,y1.2.2.2,mp2)))
  else
   some (.out (.inr (l2,l3,ar,mp1))))
def cW (aa:Int) (ag:List Point) (ae:List Node) (ak:Int) (f:Bc) (box:Box) (fixed:Bool) (stt:Int×(List Ba)×(List (List Int))×Int×(List (List UInt8×Tree))):Option (Lp (Int×(List Ba)×(List (List Int))×Int×(List (List UInt8×Tree))) ((Int×Int×Int×Int×(List Ba)×Bool×Int×(List (List UInt8×Tree))×(List (List Int))) ⊕ ((List Ba)×(List (List Int))×Int×(List (List UInt8×Tree))))):=match stt with
 | (y,l,l1,aj,mp) =>
  (bif (ltB y (bm .i64 box.Y box.H)) then
   (bh (co aa ag ae ak f box fixed y) bK (box.X,l,l1,aj,mp)).bind fun o=>match o with
    | .inl r =>
     some (.out (.inl r))
    | .inr (l2,l3,ar,mp1) =>
     some (.next ((bm .i64 y 1),l2,l3,ar,mp1))
  else
   some (.out (.inr (l,l1,aj,mp))))
def dm (ab:Int) (ah:List (List Int)) (aa:Int) (ag:List Point) (ae:List Node) (ak:Int) (ai:List (List UInt8×Tree)) (f:Bc) (box:Box) (fixed:Bool):Option (Int×Int×Int×Int×(List Ba)×Bool×Int×(List (List UInt8×Tree))×(List (List Int))) :=
 (bh (cW aa ag ae ak f box fixed) bK (box.Y,[],ah,ab,ai)).bind fun o=>match o with
  | .inl r =>
   some r
  | .inr (l,l1,aj,mp) =>
   some (box.X,box.Y,box.W,box.H,l,true,aj,mp,l1)
def iM (f:Bc) (x y:Int):Option (Bool) :=
 ((bif (geB x f.box.X) then
  (bif (ltB x (bm .i64 f.box.X f.box.W)) then
   (bif (geB y f.box.Y) then
    some (ltB y (bm .i64 f.box.Y f.box.H))
   else
    some false)
  else
   some false)
 else
  some false)).bind fun a =>
 some a
def dP (ab aa:Int) (ag:List Point) (ae:List Node) (ak:Int) (ai:List (List UInt8×Tree)) (vars:List Int) (cv:Int) (stt:Int×(List (List Int))):Option (Lp (Int×(List (List Int))) ((List (List Int)))):=match stt with
 | (a,l) =>
  (bif (ltB a (b9 vars)) then
   (idx vars a).bind fun x =>
   ((ishr .i64 cv a).bind fun n =>
   (bif (eqB (iand .i64 n 1) 0) then
    some (cQ .i64 x)
   else
    some x)).bind fun v =>
   (cn ab l aa ag ae ak ai [v]).bind fun _y =>
   some (.next ((bm .i64 a 1),(l++[[v]])))
  else
   some (.out l))
def cF (ab:Int) (ah:List (List Int)) (aa:Int) (ag:List Point) (ae:List Node) (ak:Int) (ai:List (List UInt8×Tree)) (vars:List Int) (cv:Int):Option (List (List Int)) :=
 (bh (dP ab aa ag ae ak ai vars cv) bK (0,ah)).bind fun l =>
 some l
def jK (x:B8) (y1:Int×(List Point)×(List Node)×Int) (_y2:Int) (y3:(List Ba)×(List (List Int))×Int) (_a x1:Int) (stt:Int×(List (List Int))):Option (Lp (Int×(List (List Int))) ((List (List Int)))):=match stt with
 | (a1,l1) =>
  (bif (ltB a1 (b9 y3.1)) then
   (idx y3.1 a1).bind fun x2 =>
   (irem a1 x.W).bind fun n =>
   (iquo .i64 a1 x.W).bind fun n1 =>
   (k5 x1 (⟨(⟨0,0,x.W,x.H⟩:Box).X,(⟨0,0,x.W,x.H⟩:Box).Y,(⟨0,0,x.W,x.H⟩:Box).W,(⟨0,0,x.W,x.H⟩:Box).H⟩:Box) (⟨n,n1⟩:Point)).bind fun y4 =>
   (dM (⟨⟨(⟨0,0,x.W,x.H⟩:Box).X,(⟨0,0,x.W,x.H⟩:Box).Y,(⟨0,0,x.W,x.H⟩:Box).W,(⟨0,0,x.W,x.H⟩:Box).H⟩,y3.1⟩:Bc) y4.X y4.Y).bind fun y5 =>
   (neE x2.vars).bind fun _u =>
   (neE y5.vars).bind fun _u1 =>
   (eY y3.2.2 l1 y1.1 y1.2.1 y1.2.2.1 y1.2.2.2 [] x2.vars y5.vars).bind fun y6 =>
   some (.next ((bm .i64 a1 1),y6))
  else
   some (.out l1))
def jQ (x:B8) (y1:Int×(List Point)×(List Node)×Int) (y2:Int) (y3:(List Ba)×(List (List Int))×Int) (stt:Int×(List (List Int))):Option (Lp (Int×(List (List Int))) ((List (List Int)))):=match stt with
 | (a,l) =>
  (bif (ltB a (b9 x.Syms)) then
   (idx x.Syms a).bind fun x1 =>
   (bh (jK x y1 y2 y3 a x1) bK (0,l)).bind fun l1 =>
   some (.next ((bm .i64 a 1),l1))
  else
   some (.out l))
def jO (x:B8) (y1:Int×(List Point)×(List Node)×Int) (y2:Int) (_y3:(List Ba)×(List (List Int))×Int) (stt:Int×Int×Int×Int×Int×(List Ba)×(List (List UInt8×Tree))×Int×(List (List Int))):Option (Lp (Int×Int×Int×Int×Int×(List Ba)×(List (List UInt8×Tree))×Int×(List (List Int))) ((B9×Int×Int) ⊕ (Int×Int×Int×Int×(List Ba)×(List (List UInt8×Tree))×Int×(List (List Int))))):=match stt with
 | (gv,au,av,aw,ay,am,mp,ab,l1) =>
  (bif (leB gv x.Gens) then
   (dm ab l1 y1.1 y1.2.1 y1.2.2.1 y1.2.2.2 mp (⟨⟨au,av,aw,ay⟩,am⟩:Bc) (⟨(bO .i64 (cQ .i64 gv) y2),(bO .i64 (cQ .i64 gv) y2),(bm .i64 x.W (bO .i64 (bO .i64 2 gv) y2)),(bm .i64 x.H (bO .i64 (bO .i64 2 gv) y2))⟩:Box) true).bind fun y4 =>
   (bif (fi y4.2.2.2.2.2.1) then
    some (.out (.inl ((⟨0,[]⟩:B9),0,6)))
   else
    some (.next ((bm .i64 gv 1),y4.1,y4.2.1,y4.2.2.1,y4.2.2.2.1,y4.2.2.2.2.1,y4.2.2.2.2.2.2.2.1,y4.2.2.2.2.2.2.1,y4.2.2.2.2.2.2.2.2)))
  else
   some (.out (.inr (au,av,aw,ay,am,mp,ab,l1))))
def jM (x:B8) (y1:Int×(List Point)×(List Node)×Int) (y3:(List Ba)×(List (List Int))×Int) (au av aw _ay:Int) (am:List Ba) (mp:List (List UInt8×Tree)) (ab:Int) (stt:Int×(List (List Int))):Option (Lp (Int×(List (List Int))) ((List (List Int)))):=match stt with
 | (a,l2) =>
  (bif (ltB a (b9 am)) then
   ((idx am a).bind fun x1 =>
   (irem a aw).bind fun n =>
   (iquo .i64 a aw).bind fun n1 =>
   (iM (⟨⟨(⟨0,0,x.W,x.H⟩:Box).X,(⟨0,0,x.W,x.H⟩:Box).Y,(⟨0,0,x.W,x.H⟩:Box).W,(⟨0,0,x.W,x.H⟩:Box).H⟩,y3.1⟩:Bc) (cu .i64 (bm .i64 au n) x.DX) (cu .i64 (bm .i64 av n1) x.DY)).bind fun y4 =>
   ((bif (fi (isE x1.vars)) then
    some y4
   else
    some false)).bind fun a1 =>
   (bif a1 then
    (dM (⟨⟨(⟨0,0,x.W,x.H⟩:Box).X,(⟨0,0,x.W,x.H⟩:Box).Y,(⟨0,0,x.W,x.H⟩:Box).W,(⟨0,0,x.W,x.H⟩:Box).H⟩,y3.1⟩:Bc) (cu .i64 (bm .i64 au n) x.DX) (cu .i64 (bm .i64 av n1) x.DY)).bind fun y5 =>
    (neE x1.vars).bind fun _u =>
    (neE y5.vars).bind fun _u1 =>
    (eY ab l2 y1.1 y1.2.1 y1.2.2.1 y1.2.2.2 mp x1.vars y5.vars).bind fun y6 =>
    some y6
   else
    (bif (fi (isE x1.vars)) then
     (neE x1.vars).bind fun _u =>
     (cF ab l2 y1.1 y1.2.1 y1.2.2.1 y1.2.2.2 mp x1.vars 0).bind fun y5 =>
     some y5
    else
     (bif y4 then
      (dM (⟨⟨(⟨0,0,x.W,x.H⟩:Box).X,(⟨0,0,x.W,x.H⟩:Box).Y,(⟨0,0,x.W,x.H⟩:Box).W,(⟨0,0,x.W,x.H⟩:Box).H⟩,y3.1⟩:Bc) (cu .i64 (bm .i64 au n) x.DX) (cu .i64 (bm .i64 av n1) x.DY)).bind fun y5 =>
      (neE y5.vars).bind fun _u =>
      (cF ab l2 y1.1 y1.2.1 y1.2.2.1 y1.2.2.2 mp y5.vars 0).bind fun y6 =>
      some y6
     else
      some l2)))).bind fun l3 =>
   some (.next ((bm .i64 a 1),l3))
  else
   some (.out l2))
def jL (x:B8) (y1:Int×(List Point)×(List Node)×Int) (y3:(List Ba)×(List (List Int))×Int) (au av aw ay:Int) (am:List Ba) (mp:List (List UInt8×Tree)) (ab:Int) (stt:Int×(List (List Int))):Option (Lp (Int×(List (List Int))) ((List (List Int)))):=match stt with
 | (a,l3) =>
  (bif (ltB a (b9 y3.1)) then
   ((idx y3.1 a).bind fun x1 =>
   (irem a x.W).bind fun n =>
   (iquo .i64 a x.W).bind fun n1 =>
   (iM (⟨⟨au,av,aw,ay⟩,am⟩:Bc) (bm .i64 n x.DX) (bm .i64 n1 x.DY)).bind fun y4 =>
   (bif (fi y4) then
    (neE x1.vars).bind fun _u =>
    (cF ab l3 y1.1 y1.2.1 y1.2.2.1 y1.2.2.2 mp x1.vars 0).bind fun y5 =>
    some y5
   else
    some l3)).bind fun l4 =>
   some (.next ((bm .i64 a 1),l4))
  else
   some (.out l3))
def je (t:Tree) (x:B8):Option (B9×Int×Int) :=
 (ir t x).bind fun y =>
 (bif (neB y 0) then
  some ((⟨0,[]⟩:B9),0,y)
 else
  (gO t).bind fun y1 =>
  (dw t.Hood).bind fun y2 =>
  (dr 0 [] y1.1 y1.2.1 y1.2.2.1 y1.2.2.2 [] (⟨0,0,x.W,x.H⟩:Box)).bind fun y3 =>
  (bh (jQ x y1 y2 y3) bK (0,y3.2.1)).bind fun l =>
  (bh (jO x y1 y2 y3) bK (1,(⟨0,0,x.W,x.H⟩:Box).X,(⟨0,0,x.W,x.H⟩:Box).Y,(⟨0,0,x.W,x.H⟩:Box).W,(⟨0,0,x.W,x.H⟩:Box).H,y3.1,[],y3.2.2,l)).bind fun o=>match o with
   | .inl r =>
    some r
   | .inr (au,av,aw,ay,am,mp,ab,l1) =>
    (bh (jM x y1 y3 au av aw ay am mp ab) bK (0,l1)).bind fun l2 =>
    (bh (jL x y1 y3 au av aw ay am mp ab) bK (0,l2)).bind fun l3 =>
    (cJ ab l3 y1.1 y1.2.1 y1.2.2.1 y1.2.2.2 mp).bind fun y4 =>
    (bif y4 then
     some ((⟨0,[]⟩:B9),0,6)
    else
     some ((⟨ab,l3⟩:B9),y3.2.2,0)))
def lT (w hv edge:Int):Option (Bool) :=
 ((bif (geB w 1) then
  (bif (leB w 256) then
   (bif (geB hv 1) then
    (bif (leB hv 256) then
     (bif (leB (bO .i64 w hv) 4096) then
      (bif (geB edge 0) then
       some (leB edge 2)
      else
       some false)
     else
      some false)
    else
     some false)
   else
    some false)
  else
   some false)
 else
  some false)).bind fun a =>
 some a
def kw (s:Int):Option (Bool) :=
 ((bif (ltB s 0) then
  some true
 else
  some (geB s 8))).bind fun a =>
 some a
def bM (s:List Int) (stt:Int):Option (Lp (Int) (Int ⊕ Unit)):=match stt with
 | a =>
  (bif (ltB a (b9 s)) then
   (idx s a).bind fun x =>
   (kw x).bind fun y =>
   (bif y then
    some (.out (.inl a))
   else
    some (.next (bm .i64 a 1)))
  else
   some (.out (.inr ())))
def cC (s:List Int):Option (Int) :=
 (bh (bM s) bK 0).bind fun o=>match o with
  | .inl r =>
   some r
  | .inr _u =>
   some (-1)
def bX (s:List Int):Option (Bool) :=
 (cC s).bind fun y =>
 some (geB y 0)
def kr (gv:Grid):Option (Bool) :=
 ((lT gv.W gv.H gv.Edge).bind fun y =>
 (bif y then
  (bif (eqB (b9 gv.Cells) (bO .i64 gv.W gv.H)) then
   (bX gv.Cells).bind fun y1 =>
   some (fi y1)
  else
   some false)
 else
  some false)).bind fun a =>
 some a
def fL (s:Int) (a:Tree):Option (Bool) :=
 some (geB s a.States)
def bo (s:List Int) (cv:Tree) (stt:Int):Option (Lp (Int) (Int ⊕ Unit)):=match stt with
 | a =>
  (bif (ltB a (b9 s)) then
   (idx s a).bind fun x =>
   (fL x cv).bind fun y =>
   (bif y then
    some (.out (.inl a))
   else
    some (.next (bm .i64 a 1)))
  else
   some (.out (.inr ())))
def bW (s:List Int) (cv:Tree):Option (Int) :=
 (bh (bo s cv) bK 0).bind fun o=>match o with
  | .inl r =>
   some r
  | .inr _u =>
   some (-1)
def bB (s:List Int) (cv:Tree):Option (Bool) :=
 (bW s cv).bind fun y =>
 some (geB y 0)
def ec (_ab:Int) (ah:List (List Int)) (_aa:Int) (_ag:List Point) (_ae:List Node) (_ak:Int) (_ai:List (List UInt8×Tree)):Option (Unit) :=
 (ik 24 ah [[]]).bind fun _l =>
 some ()
def dY (gv:Grid) (y3:Int) (y4:Int×(List Point)×(List Node)×Int) (y5:(List Ba)×(List (List Int))×Int) (stt:Int×(List (List UInt8×Tree))×Int×(List (List Int))):Option (Lp (Int×(List (List UInt8×Tree))×Int×(List (List Int))) ((B9×Int×Int) ⊕ ((List (List UInt8×Tree))×Int×(List (List Int))))):=match stt with
 | (a,mp,ab,l) =>
  (bif (ltB a (b9 gv.Cells)) then
   (idx gv.Cells a).bind fun x =>
   (irem a gv.W).bind fun n =>
   (iquo .i64 a gv.W).bind fun n1 =>
   (dm ab l y4.1 y4.2.1 y4.2.2.1 y4.2.2.2 mp (⟨⟨(⟨(cQ .i64 y3),(cQ .i64 y3),(bm .i64 gv.W (bO .i64 2 y3)),(bm .i64 gv.H (bO .i64 2 y3))⟩:Box).X,(⟨(cQ .i64 y3),(cQ .i64 y3),(bm .i64 gv.W (bO .i64 2 y3)),(bm .i64 gv.H (bO .i64 2 y3))⟩:Box).Y,(⟨(cQ .i64 y3),(cQ .i64 y3),(bm .i64 gv.W (bO .i64 2 y3)),(bm .i64 gv.H (bO .i64 2 y3))⟩:Box).W,(⟨(cQ .i64 y3),(cQ .i64 y3),(bm .i64 gv.W (bO .i64 2 y3)),(bm .i64 gv.H (bO .i64 2 y3))⟩:Box).H⟩,y5.1⟩:Bc) (⟨n,n1,1,1⟩:Box) false).bind fun y6 =>
   (bif (fi y6.2.2.2.2.2.1) then
    some (.out (.inl ((⟨0,[]⟩:B9),0,6)))
   else
    (idx y6.2.2.2.2.1 0).bind fun x1 =>
    (bif (fi (isE x1.vars)) then
     (neE x1.vars).bind fun _u =>
     (cF y6.2.2.2.2.2.2.1 y6.2.2.2.2.2.2.2.2 y4.1 y4.2.1 y4.2.2.1 y4.2.2.2 y6.2.2.2.2.2.2.2.1 x1.vars x).bind fun y7 =>
     some (.next ((bm .i64 a 1),y6.2.2.2.2.2.2.2.1,y6.2.2.2.2.2.2.1,y7))
    else
     (bif (neB x1.constant x) then
      (ec y6.2.2.2.2.2.2.1 y6.2.2.2.2.2.2.2.2 y4.1 y4.2.1 y4.2.2.1 y4.2.2.2 y6.2.2.2.2.2.2.2.1).bind fun _y7 =>
      some (.next ((bm .i64 a 1),y6.2.2.2.2.2.2.2.1,y6.2.2.2.2.2.2.1,(y6.2.2.2.2.2.2.2.2++[[]])))
     else
      some (.next ((bm .i64 a 1),y6.2.2.2.2.2.2.2.1,y6.2.2.2.2.2.2.1,y6.2.2.2.2.2.2.2.2)))))
  else
   some (.out (.inr (mp,ab,l))))
def e7 (t:Tree) (gv:Grid):Option (B9×Int×Int) :=
 (gh t).bind fun y =>
 (bif (fi y) then
  some ((⟨0,[]⟩:B9),0,11)
 else
  (kr gv).bind fun y1 =>
  (bif (fi y1) then
   some ((⟨0,[]⟩:B9),0,2)
  else
   (bB gv.Cells t).bind fun y2 =>
   (bif y2 then
    some ((⟨0,[]⟩:B9),0,10)
   else
    (dw t.Hood).bind fun y3 =>
    (bif (gtB (bO .i64 (bm .i64 gv.W (bO .i64 2 y3)) (bm .i64 gv.H (bO .i64 2 y3))) 16) then
     some ((⟨0,[]⟩:B9),0,6)
    else
     (gO t).bind fun y4 =>
     (dr 0 [] y4.1 y4.2.1 y4.2.2.1 y4.2.2.2 [] (⟨(cQ .i64 y3),(cQ .i64 y3),(bm .i64 gv.W (bO .i64 2 y3)),(bm .i64 gv.H (bO .i64 2 y3))⟩:Box)).bind fun y5 =>
     (bh (dY gv y3 y4 y5) bK (0,[],y5.2.2,y5.2.1)).bind fun o=>match o with
      | .inl r =>
       some r
      | .inr (mp,ab,l) =>
       (cJ ab l y4.1 y4.2.1 y4.2.2.1 y4.2.2.2 mp).bind fun y6 =>
       (bif y6 then
        some ((⟨0,[]⟩:B9),0,6)
       else
        some ((⟨ab,l⟩:B9),y5.2.2,0))))))
def lD (cv:Cell) (a:B8):Option (Bool) :=
 ((bif (ltB cv.X 0) then
  some true
 else
  (bif (geB cv.X a.W) then
   some true
  else
   (bif (ltB cv.Y 0) then
    some true
   else
    some (geB cv.Y a.H))))).bind fun a1 =>
 some a1
def cj (s:List Cell) (cv:B8) (stt:Int):Option (Lp (Int) (Int ⊕ Unit)):=match stt with
 | a =>
  (bif (ltB a (b9 s)) then
   (idx s a).bind fun x =>
   (lD x cv).bind fun y =>
   (bif y then
    some (.out (.inl a))
   else
    some (.next (bm .i64 a 1)))
  else
   some (.out (.inr ())))
def cr (s:List Cell) (cv:B8):Option (Int) :=
 (bh (cj s cv) bK 0).bind fun o=>match o with
  | .inl r =>
   some r
  | .inr _u =>
   some (-1)
def ch (s:List Cell) (cv:B8):Option (Bool) :=
 (cr s cv).bind fun y =>
 some (geB y 0)
def lu (x:B8) (_p:List Cell) (y2 _a1:Int) (_out:List Bool) (x1:Cell) (stt:Int×(List Bool)):Option (Lp (Int×(List Bool)) ((List Bool))):=match stt with
 | (a2,aQ) =>
  (bif (ltB a2 y2) then
   (ishr .i64 x1.S a2).bind fun n =>
   (idx aQ (bm .i64 (bO .i64 (bm .i64 (bO .i64 x1.Y x.W) x1.X) y2) a2)).bind fun _x2 =>
   some (.next ((bm .i64 a2 1),(aQ.set (bm .i64 (bO .i64 (bm .i64 (bO .i64 x1.Y x.W) x1.X) y2) a2).toNat (eqB (iand .i64 n 1) 1))))
  else
   some (.out aQ))
def lA (x:B8) (p:List Cell) (y2:Int) (stt:Int×(List Bool)):Option (Lp (Int×(List Bool)) ((List Bool))):=match stt with
 | (a1,out) =>
  (bif (ltB a1 (b9 p)) then
   (idx p a1).bind fun x1 =>
   (bh (lu x p y2 a1 out x1) bK (0,out)).bind fun aQ =>
   some (.next ((bm .i64 a1 1),aQ))
  else
   some (.out out))
def nz (t:Tree) (x:B8) (p:List Cell):Option ((List Bool)×Int) :=
 (ir t x).bind fun y =>
 (bif (neB y 0) then
  some ([],y)
 else
  ((jE p).bind fun y1 =>
  (bif (fi y1) then
   some true
  else
   (ch p x).bind fun y2 =>
   some y2)).bind fun a =>
  (bif a then
   some ([],2)
  else
   (kQ p).bind fun y1 =>
   (bif (geB y1 t.States) then
    some ([],10)
   else
    (hX t.States).bind fun y2 =>
    (mkL 1 (bO .i64 (bO .i64 x.W x.H) y2) (bO .i64 (bO .i64 x.W x.H) y2) false).bind fun _l =>
    (bh (lA x p y2) bK (0,(List.replicate (bO .i64 (bO .i64 x.W x.H) y2).toNat false))).bind fun out =>
    some (out,0))))
def lz (l:List Bool) (stt:Int×Int):Option (Lp (Int×Int) (Int)):=match stt with
 | (n,a) =>
  (bif (ltB a (b9 l)) then
   ((idx l a).bind fun x =>
   (bif x then
    (ishl .i64 1 a).bind fun n1 =>
    some (ior .i64 n n1)
   else
    some n)).bind fun n1 =>
   some (.next (n1,(bm .i64 a 1)))
  else
   some (.out n))
def nw (l:List Bool):Option (Int) :=
 (bif (gtB (b9 l) 8) then
  some 0
 else
  (bh (lz l) bK (0,0)).bind fun n =>
  some n)
def jR (t:Tree) (x:B8) (l:List Bool) (y1:Int) (stt:Int×(List Cell)):Option (Lp (Int×(List Cell)) (((List Cell)×Int) ⊕ (List Cell))):=match stt with
 | (a,out) =>
  (bif (ltB a (bO .i64 x.W x.H)) then
   (slcL l (bO .i64 a y1) (bO .i64 (bm .i64 a 1) y1)).bind fun l1 =>
   (nw l1).bind fun y2 =>
   (bif (geB y2 t.States) then
    some (.out (.inl ([],10)))
   else
    (bif (gtB y2 0) then
     (irem a x.W).bind fun n =>
     (iquo .i64 a x.W).bind fun n1 =>
     (ik 24 out [(⟨n,n1,y2⟩:Cell)]).bind fun _l2 =>
     some (.next ((bm .i64 a 1),(out++[(⟨n,n1,y2⟩:Cell)])))
    else
     some (.next ((bm .i64 a 1),out))))
  else
   some (.out (.inr out)))
def kK (t:Tree) (x:B8) (l:List Bool):Option ((List Cell)×Int) :=
 (ir t x).bind fun y =>
 (bif (neB y 0) then
  some ([],y)
 else
  (hX t.States).bind fun y1 =>
  (bif (neB (b9 l) (bO .i64 (bO .i64 x.W x.H) y1)) then
   some ([],2)
  else
   (bh (jR t x l y1) bK (0,[])).bind fun o=>match o with
    | .inl r =>
     some r
    | .inr out =>
     some (out,0)))
def nv (_a _b:B9) (_i:Int) (x x1:List Int) (stt:Int):Option (Lp (Int) (Bool ⊕ Unit)):=match stt with
 | k =>
  (bif (ltB k (b9 x)) then
   (idx x k).bind fun x2 =>
   (idx x1 k).bind fun x3 =>
   (bif (neB x2 x3) then
    some (.out (.inl false))
   else
    some (.next (bm .i64 k 1)))
  else
   some (.out (.inr ())))
def nn (a b:B9) (stt:Int):Option (Lp (Int) (Bool ⊕ Unit)):=match stt with
 | i =>
  (bif (ltB i (b9 a.Clauses)) then
   (idx a.Clauses i).bind fun x =>
   (idx b.Clauses i).bind fun x1 =>
   (bif (neB (b9 x) (b9 x1)) then
    some (.out (.inl false))
   else
    (bh (nv a b i x x1) bK 0).bind fun o=>match o with
     | .inl r =>
      some (.out (.inl r))
     | .inr _u =>
      some (.next (bm .i64 i 1)))
  else
   some (.out (.inr ())))
def na (a b:B9):Option (Bool) :=
 ((bif (neB a.Vars b.Vars) then
  some true
 else
  some (neB (b9 a.Clauses) (b9 b.Clauses)))).bind fun a1 =>
 (bif a1 then
  some false
 else
  (bh (nn a b) bK 0).bind fun o=>match o with
   | .inl r =>
    some r
   | .inr _u =>
    some true)
def jU (a b:Int):Option (Int) :=
 (bif (ltB a b) then
  some (-1)
 else
  (bif (gtB a b) then
   some 1
  else
   some 0))
def lh (a b:List Cell) (stt:Int):Option (Lp (Int) (Int ⊕ Unit)):=match stt with
 | i =>
  ((bif (ltB i (b9 a)) then
   some (ltB i (b9 b))
  else
   some false)).bind fun a1 =>
  (bif a1 then
   (idx a i).bind fun x =>
   (idx b i).bind fun x1 =>
   (bif (neB x.Y x1.Y) then
    (jU x.Y x1.Y).bind fun y =>
    some (.out (.inl y))
   else
    (bif (neB x.X x1.X) then
     (jU x.X x1.X).bind fun y =>
     some (.out (.inl y))
    else
     (bif (neB x.S x1.S) then
      (jU x.S x1.S).bind fun y =>
      some (.out (.inl y))
     else
      some (.next (bm .i64 i 1)))))
  else
   some (.out (.inr ())))
def nr (a b:List Cell):Option (Int) :=
 (bh (lh a b) bK 0).bind fun o=>match o with
  | .inl r =>
   some r
  | .inr _u =>
   (jU (b9 a) (b9 b)).bind fun y =>
   some y
def m_R05_Same (a b:List Cell):Option (Bool) :=
 (nr a b).bind fun y =>
 some (eqB y 0)
def jW:Option (Bool) :=
 (m_L45_keep).bind fun y =>
 (je y (⟨1,1,1,0,0,[]⟩:B8)).bind fun y1 =>
 (e7 y (⟨1,1,0,[1]⟩:Grid)).bind fun y2 =>
 (nz y (⟨1,1,1,0,0,[]⟩:B8) [(⟨0,0,1⟩:Cell)]).bind fun y3 =>
 (kK y (⟨1,1,1,0,0,[]⟩:B8) [true]).bind fun y4 =>
 (je (⟨0,[],[]⟩:Tree) (⟨1,1,1,0,0,[]⟩:B8)).bind fun y5 =>
 ((bif (eqB y1.2.2 0) then
  (bif (eqB y1.2.1 1) then
   (na y1.1 (⟨2,[[1,(-2)],[(-1),2],[(-2),1],[2,(-1)]]⟩:B9)).bind fun y6 =>
   (bif y6 then
    (bif (eqB y2.2.2 0) then
     (bif (eqB y2.2.1 1) then
      (na y2.1 (⟨2,[[1,(-2)],[(-1),2],[2]]⟩:B9)).bind fun y7 =>
      (bif y7 then
       (bif (eqB y3.2 0) then
        (bif (eqB (b9 y3.1) 1) then
         (idx y3.1 0).bind fun x =>
         (bif x then
          (bif (eqB y4.2 0) then
           (m_R05_Same y4.1 [(⟨0,0,1⟩:Cell)]).bind fun y8 =>
           (bif y8 then
            some (eqB y5.2.2 11)
           else
            some false)
          else
           some false)
         else
          some false)
        else
         some false)
       else
        some false)
      else
       some false)
     else
      some false)
    else
     some false)
   else
    some false)
  else
   some false)
 else
  some false)).bind fun a =>
 some a
def kM (states:Int):Option (Int) :=
 (bif (eqB states 2) then
  some 1
 else
  ((bif (eqB states 3) then
   some true
  else
   some (eqB states 4))).bind fun a =>
  (bif a then
   some 2
  else
   ((bif (geB states 5) then
    some (leB states 8)
   else
    some false)).bind fun a1 =>
   (bif a1 then
    some 3
   else
    some 0)))
def k6 (a b:Point):Option (Bool) :=
 ((bif (ltB a.Y b.Y) then
  some true
 else
  (bif (eqB a.Y b.Y) then
   some (ltB a.X b.X)
  else
   some false))).bind fun a1 =>
 some a1
def jz (l:List Point) (stt:Int):Option (Lp (Int) (Bool ⊕ Unit)):=match stt with
 | i =>
  (bif (ltB i (b9 l)) then
   (idx l i).bind fun x =>
   ((bif (ltB x.X (-2)) then
    some true
   else
    (bif (gtB x.X 2) then
     some true
    else
     (bif (ltB x.Y (-2)) then
      some true
     else
      (bif (gtB x.Y 2) then
       some true
      else
       (bif (gtB i 0) then
        (idx l (cu .i64 i 1)).bind fun x1 =>
        (k6 x1 x).bind fun y =>
        some (fi y)
       else
        some false)))))).bind fun a1 =>
   (bif a1 then
    some (.out (.inl false))
   else
    some (.next (bm .i64 i 1)))
  else
   some (.out (.inr ())))
def l7 (l:List Point):Option (Bool) :=
 ((bif (ltB (b9 l) 1) then
  some true
 else
  some (gtB (b9 l) 25))).bind fun a =>
 (bif a then
  some false
 else
  (bh (jz l) bK 0).bind fun o=>match o with
   | .inl r =>
    some r
   | .inr _u =>
    some true)
def nN (n:Int):Option (Int) :=
 some (gy n (cQ .i64 n))
def jb (l:List Point) (stt:Int×Int):Option (Lp (Int×Int) (Int)):=match stt with
 | (n,i) =>
  (bif (ltB i (b9 l)) then
   (idx l i).bind fun x =>
   (nN x.X).bind fun y1 =>
   (nN x.Y).bind fun y2 =>
   some (.next ((gy (gy n y1) y2),(bm .i64 i 1)))
  else
   some (.out n))
def i6 (l:List Point):Option (Int) :=
 (l7 l).bind fun y =>
 (bif (fi y) then
  some 0
 else
  (bh (jb l) bK (0,0)).bind fun n =>
  some n)
def iB (t:Tree) (in_:List Int) (stt:Int×Int):Option (Lp (Int×Int) (Int)):=match stt with
 | (k,i) =>
  (bif (ltB i (b9 in_)) then
   (idx t.Nodes k).bind fun x =>
   (idx in_ i).bind fun x1 =>
   (idx x.Next x1).bind fun x2 =>
   some (.next (x2,(bm .i64 i 1)))
  else
   some (.out k))
def kW (t:Tree) (in_:List Int):Option (Int) :=
 (bh (iB t in_) bK ((cu .i64 (b9 t.Nodes) 1),0)).bind fun k =>
 some k
def ev (_f:B9) (_which:List Int) (values:List Bool) (_a:Int) (x1:List Int) (stt:Bool×Int):Option (Lp (Bool×Int) (Bool)):=match stt with
 | (ok,a1) =>
  (bif (ltB a1 (b9 x1)) then
   (idx x1 a1).bind fun x2 =>
   (bif ok then
    some (.next (true,(bm .i64 a1 1)))
   else
    (idx values (cu .i64 (gy x2 (cQ .i64 x2)) 1)).bind fun x3 =>
    some (.next ((eqb x3 (gtB x2 0)),(bm .i64 a1 1))))
  else
   some (.out ok))
def eg (f:B9) (which:List Int) (values:List Bool) (stt:Int):Option (Lp (Int) (Bool ⊕ Unit)):=match stt with
 | a =>
  (bif (ltB a (b9 which)) then
   (idx which a).bind fun x =>
   (idx f.Clauses x).bind fun x1 =>
   (bh (ev f which values a x1) bK (false,0)).bind fun ok =>
   (bif (fi ok) then
    some (.out (.inl false))
   else
    some (.next (bm .i64 a 1)))
  else
   some (.out (.inr ())))
def ez (f:B9) (which:List Int) (values:List Bool):Option (Bool) :=
 (bh (eg f which values) bK 0).bind fun o=>match o with
  | .inl r =>
   some r
  | .inr _u =>
   some true
def ep (_f:B9) (_l:List Bool) (_a:Int) (_last:List (List Int)) (x:List Int) (stt:Int×Int):Option (Lp (Int×Int) (Int)):=match stt with
 | (v,a1) =>
  (bif (ltB a1 (b9 x)) then
   (idx x a1).bind fun x1 =>
   some (.next ((gy (gy v x1) (cQ .i64 x1)),(bm .i64 a1 1)))
  else
   some (.out v))
def eh (f:B9) (l:List Bool) (stt:Int×(List (List Int))):Option (Lp (Int×(List (List Int))) (Bool ⊕ (List (List Int)))):=match stt with
 | (a,last) =>
  (bif (ltB a (b9 f.Clauses)) then
   (idx f.Clauses a).bind fun x =>
   (bh (ep f l a last x) bK (0,0)).bind fun v =>
   (bif (gtB v f.Vars) then
    some (.out (.inl false))
   else
    (idx last v).bind fun x1 =>
    (ik 8 x1 [a]).bind fun _l2 =>
    some (.next ((bm .i64 a 1),(last.set v.toNat (x1++[a])))))
  else
   some (.out (.inr last)))
def di (f:B9) (l:List Bool) (last:List (List Int)) (v:Int) (stt:(List Bool)×Bool×Int):Option (Lp ((List Bool)×Bool×Int) (((List Bool)×Bool))):=match stt with
 | (aJ,good,k) =>
  ((bif (ltB k 2) then
   some (fi good)
  else
   some false)).bind fun a1 =>
  (bif a1 then
   (((bif (leB v (b9 l)) then
    (idx l (cu .i64 v 1)).bind fun x =>
    some (fi (eqb (eqB k 1) x))
   else
    some false)).bind fun a2 =>
   (bif a2 then
    some (aJ,good)
   else
    (idx last v).bind fun x =>
    (slc3 aJ (cu .i64 v 1) (cu .i64 v 1)).bind fun l2 =>
    (ik 1 l2 [(eqB k 1)]).bind fun _l3 =>
    (ez f x (l2++[(eqB k 1)])).bind fun y =>
    (bif y then
     (ik 1 l2 [(eqB k 1)]).bind fun _l4 =>
     some ((l2++[(eqB k 1)]),y)
    else
     some (aJ,y)))).bind fun(values2,good1) =>
   some (.next (values2,good1,(bm .i64 k 1)))
  else
   some (.out (aJ,good)))
def dJ (f:B9) (l:List Bool) (last:List (List Int)) (stt:(List Bool)×Int):Option (Lp ((List Bool)×Int) (Bool ⊕ Unit)):=match stt with
 | (values,v) =>
  (bif (leB v f.Vars) then
   (bh (di f l last v) bK (values,false,0)).bind fun(aJ,good) =>
   (bif (fi good) then
    some (.out (.inl false))
   else
    some (.next (aJ,(bm .i64 v 1))))
  else
   some (.out (.inr ())))
def il (f:B9) (l:List Bool):Option (Bool) :=
 (mkL 24 (bm .i64 f.Vars 1) (bm .i64 f.Vars 1) ([]:List Int)).bind fun _l1 =>
 (bh (eh f l) bK (0,(List.replicate (bm .i64 f.Vars 1).toNat ([]:List Int)))).bind fun o=>match o with
  | .inl r =>
   some r
  | .inr last =>
   ((idx last 0).bind fun x =>
   (bif (gtB (b9 x) 0) then
    some true
   else
    some (gtB (b9 l) f.Vars))).bind fun a =>
   (bif a then
    some false
   else
    (bh (dJ f l last) bK ([],1)).bind fun o=>match o with
     | .inl r =>
      some r
     | .inr _u =>
      some true)
def cR (t:Tree) (_gv:Grid) (cells:Int×Int×Int×Int×Int×Int×Int×Int×Int×Int×Int×Int×Int×Int×Int×Int) (_y:B9×Int×Int) (y1 _y2 a2:Int) (stt:Int×(List Bool)):Option (Lp (Int×(List Bool)) ((List Bool))):=match stt with
 | (a3,l1) =>
  (bif (ltB a3 y1) then
   (o6 16 [cells.1,cells.2.1,cells.2.2.1,cells.2.2.2.1,cells.2.2.2.2.1,cells.2.2.2.2.2.1,cells.2.2.2.2.2.2.1,cells.2.2.2.2.2.2.2.1,cells.2.2.2.2.2.2.2.2.1,cells.2.2.2.2.2.2.2.2.2.1,cells.2.2.2.2.2.2.2.2.2.2.1,cells.2.2.2.2.2.2.2.2.2.2.2.1,cells.2.2.2.2.2.2.2.2.2.2.2.2.1,cells.2.2.2.2.2.2.2.2.2.2.2.2.2.1,cells.2.2.2.2.2.2.2.2.2.2.2.2.2.2.1,cells.2.2.2.2.2.2.2.2.2.2.2.2.2.2.2] a2).bind fun x =>
   (irem (mb .i64 x) t.States).bind fun n =>
   (ishr .i64 n (mb .u64 a3)).bind fun n1 =>
   (ik 1 l1 [(eqB (iand .i64 n1 1) 1)]).bind fun _l2 =>
   some (.next ((bm .i64 a3 1),(l1++[(eqB (iand .i64 n1 1) 1)])))
  else
   some (.out l1))
def cT (t:Tree) (gv:Grid) (cells:Int×Int×Int×Int×Int×Int×Int×Int×Int×Int×Int×Int×Int×Int×Int×Int) (y:B9×Int×Int) (y1 y2:Int) (stt:Int×(List Bool)):Option (Lp (Int×(List Bool)) ((List Bool))):=match stt with
 | (a2,l) =>
  (bif (ltB a2 (bO .i64 (bm .i64 gv.W (bO .i64 2 y2)) (bm .i64 gv.H (bO .i64 2 y2)))) then
   (bh (cR t gv cells y y1 y2 a2) bK (0,l)).bind fun l1 =>
   some (.next ((bm .i64 a2 1),l1))
  else
   some (.out l))
def cP (t:Tree) (gv:Grid) (cells:Int×Int×Int×Int×Int×Int×Int×Int×Int×Int×Int×Int×Int×Int×Int×Int) (_y:B9×Int×Int) (y2:Int) (_l:List Bool) (_leads:Bool) (_a2 n n1:Int) (stt:Int×(List Int)):Option (Lp (Int×(List Int)) ((List Int))):=match stt with
 | (a3,in_) =>
  (bif (ltB a3 (b9 t.Hood)) then
   (idx t.Hood a3).bind fun x =>
   (o6 16 [cells.1,cells.2.1,cells.2.2.1,cells.2.2.2.1,cells.2.2.2.2.1,cells.2.2.2.2.2.1,cells.2.2.2.2.2.2.1,cells.2.2.2.2.2.2.2.1,cells.2.2.2.2.2.2.2.2.1,cells.2.2.2.2.2.2.2.2.2.1,cells.2.2.2.2.2.2.2.2.2.2.1,cells.2.2.2.2.2.2.2.2.2.2.2.1,cells.2.2.2.2.2.2.2.2.2.2.2.2.1,cells.2.2.2.2.2.2.2.2.2.2.2.2.2.1,cells.2.2.2.2.2.2.2.2.2.2.2.2.2.2.1,cells.2.2.2.2.2.2.2.2.2.2.2.2.2.2.2] (bm .i64 (bm .i64 (bO .i64 (bm .i64 (bm .i64 n1 y2) x.Y) (bm .i64 gv.W (bO .i64 2 y2))) (bm .i64 n y2)) x.X)).bind fun x1 =>
   (irem (mb .i64 x1) t.States).bind fun n2 =>
   (ik 8 in_ [n2]).bind fun _l1 =>
   some (.next ((bm .i64 a3 1),(in_++[n2])))
  else
   some (.out in_))
def cA (t:Tree) (gv:Grid) (cells:Int×Int×Int×Int×Int×Int×Int×Int×Int×Int×Int×Int×Int×Int×Int×Int) (y:B9×Int×Int) (y2:Int) (l:List Bool) (stt:Bool×Int):Option (Lp (Bool×Int) (Bool)):=match stt with
 | (leads,a2) =>
  (bif (ltB a2 (b9 gv.Cells)) then
   (irem a2 gv.W).bind fun n =>
   (iquo .i64 a2 gv.W).bind fun n1 =>
   (bh (cP t gv cells y y2 l leads a2 n n1) bK (0,[])).bind fun in_ =>
   (bif leads then
    (kW t in_).bind fun y3 =>
    (idx gv.Cells a2).bind fun x =>
    some (.next ((eqB y3 x),(bm .i64 a2 1)))
   else
    some (.next (false,(bm .i64 a2 1))))
  else
   some (.out leads))
def fU (t:Tree) (gv:Grid) (cells:Int×Int×Int×Int×Int×Int×Int×Int×Int×Int×Int×Int×Int×Int×Int×Int):Option (Bool) :=
 ((l6 t (⟨0,0,0,0,0,[]⟩:B8)).bind fun y =>
 (bif (fi y) then
  some true
 else
  some (gtB (b9 gv.Cells) 5000))).bind fun a =>
 (bif a then
  (jW).bind fun y =>
  some y
 else
  (e7 t gv).bind fun y =>
  (bif (neB y.2.2 0) then
   (jW).bind fun y1 =>
   some y1
  else
   (kM t.States).bind fun y1 =>
   (i6 t.Hood).bind fun y2 =>
   ((bif (neB y.2.1 (bO .i64 (bO .i64 (bm .i64 gv.W (bO .i64 2 y2)) (bm .i64 gv.H (bO .i64 2 y2))) y1)) then
    some true
   else
    some (gtB (bO .i64 (bm .i64 gv.W (bO .i64 2 y2)) (bm .i64 gv.H (bO .i64 2 y2))) 16))).bind fun a1 =>
   (bif a1 then
    some false
   else
    (bh (cT t gv cells y y1 y2) bK (0,[])).bind fun l =>
    (bh (cA t gv cells y y2 l) bK (true,0)).bind fun leads =>
    ((il y.1 l).bind fun y3 =>
    (bif (eqb y3 leads) then
     (jW).bind fun y4 =>
     some y4
    else
     some false)).bind fun a2 =>
    some a2)))
abbrev vI (n:Int):V:=.u (.one (.d (.int .i64 n)))
abbrev dI (n:Int):C:=.d (.int .i64 n)
abbrev vX (k:Nat):V:=.u (.one (.box k 0))
abbrev vO (k:Nat):V:=.u (.one (.own k))
abbrev dL (l:List Int):C:=.d (.sl 1 (List.map (rI .i64) l))
abbrev vT (b:Bool):V:=.u (.one (.d (.bool b)))
abbrev dR0 (l:List Cell):C:=.d (.sl 3 (List.map Cell.row l))
abbrev dR1 (l:List Node):C:=.d (.sl 2 (List.map Node.row l))
abbrev dR2 (l:List Point):C:=.d (.sl 2 (List.map Point.row l))
abbrev dR3 (l:List Ba):C:=.d (.sl 2 (List.map Ba.row l))
end Go.Proofs.YtlifofijgddjkacGreatDoor
