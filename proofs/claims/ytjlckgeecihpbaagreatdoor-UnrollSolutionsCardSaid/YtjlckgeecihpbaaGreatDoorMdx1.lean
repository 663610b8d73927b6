/- The types of the program, as lists and numbers. -/
import Derived.Test.YtjlckgeecihpbaaGreatDoorAmSt
import Derived.Test.YtjlckgeecihpbaaGreatDoorAmBs
import Derived.Test.YtjlckgeecihpbaaGreatDoorAmFz
import Derived.Test.YtjlckgeecihpbaaGreatDoorAmPm
import Derived.Test.YtjlckgeecihpbaaGreatDoorAmNw
namespace Go.Proofs.YtjlckgeecihpbaaGreatDoor
open Go.AM Go.Proofs
theorem rsetI (k:IntKind) (l:List Int) (i:Nat) (x:Int):(List.map (rI k) l).set i [L.int k x]=List.map (rI k) (l.set i x):=by rw[List.map_set]; rfl
theorem rsetB (l:List Bool) (i:Nat) (x:Bool):(List.map rB l).set i [L.bool x]=List.map rB (l.set i x):=by rw[List.map_set]; rfl
structure Point where
 X:Int
 Y:Int
 deriving DecidableEq,Inhabited
def Point.row (x:Point):List L:=[.int .i64 x.X,.int .i64 x.Y]
theorem Point.row_eq (x:Point):x.row=[.int .i64 x.X,.int .i64 x.Y]:=rfl
def Point.key (x:Point):Key:=.ints [x.X,x.Y]
def Point.ints (x:Point):List Int:=[x.X,x.Y]
instance:KeyF Point.key:=⟨fun a b h=>by unfold Point.key at h; cases a; cases b; injection h with h; simp only[List.cons.injEq,and_true] at h; simp only[Point.mk.injEq]; exact h⟩
structure Node where
 Level:Int
 Next:List Int
 deriving DecidableEq,Inhabited
def Node.row (x:Node):List L:=[.int .i64 x.Level,.sl 1 (List.map (rI .i64) x.Next)]
theorem Node.row_eq (x:Node):x.row=[.int .i64 x.Level,.sl 1 (List.map (rI .i64) x.Next)]:=rfl
structure Tree where
 States:Int
 Hood:List Point
 Nodes:List Node
 deriving DecidableEq,Inhabited
def Tree.row (x:Tree):List L:=[.int .i64 x.States,.sl 2 (List.map Point.row x.Hood),.sl 2 (List.map Node.row x.Nodes)]
theorem Tree.row_eq (x:Tree):x.row=[.int .i64 x.States,.sl 2 (List.map Point.row x.Hood),.sl 2 (List.map Node.row x.Nodes)]:=rfl
structure Bg where
 W:Int
 H:Int
 Gens:Int
 DX:Int
 DY:Int
 Syms:List Int
 deriving DecidableEq,Inhabited
def Bg.row (x:Bg):List L:=[.int .i64 x.W,.int .i64 x.H,.int .i64 x.Gens,.int .i64 x.DX,.int .i64 x.DY,.sl 1 (List.map (rI .i64) x.Syms)]
theorem Bg.row_eq (x:Bg):x.row=[.int .i64 x.W,.int .i64 x.H,.int .i64 x.Gens,.int .i64 x.DX,.int .i64 x.DY,.sl 1 (List.map (rI .i64) x.Syms)]:=rfl
structure Bh where
 Vars:Int
 Clauses:List (List Int)
 deriving DecidableEq,Inhabited
def Bh.row (x:Bh):List L:=[.int .i64 x.Vars,.sl 1 (List.map (rS 1 (rI .i64)) x.Clauses)]
theorem Bh.row_eq (x:Bh):x.row=[.int .i64 x.Vars,.sl 1 (List.map (rS 1 (rI .i64)) x.Clauses)]:=rfl
structure Grid where
 W:Int
 H:Int
 Edge:Int
 Cells:List Int
 deriving DecidableEq,Inhabited
def Grid.row (x:Grid):List L:=[.int .i64 x.W,.int .i64 x.H,.int .i64 x.Edge,.sl 1 (List.map (rI .i64) x.Cells)]
theorem Grid.row_eq (x:Grid):x.row=[.int .i64 x.W,.int .i64 x.H,.int .i64 x.Edge,.sl 1 (List.map (rI .i64) x.Cells)]:=rfl
structure Cell where
 X:Int
 Y:Int
 S:Int
 deriving DecidableEq,Inhabited
def Cell.row (x:Cell):List L:=[.int .i64 x.X,.int .i64 x.Y,.int .i64 x.S]
theorem Cell.row_eq (x:Cell):x.row=[.int .i64 x.X,.int .i64 x.Y,.int .i64 x.S]:=rfl
def Cell.key (x:Cell):Key:=.ints [x.X,x.Y,x.S]
def Cell.ints (x:Cell):List Int:=[x.X,x.Y,x.S]
instance:KeyF Cell.key:=⟨fun a b h=>by unfold Cell.key at h; cases a; cases b; injection h with h; simp only[List.cons.injEq,and_true] at h; simp only[Cell.mk.injEq]; exact h⟩
structure Box where
 X:Int
 Y:Int
 W:Int
 H:Int
 deriving DecidableEq,Inhabited
def Box.row (x:Box):List L:=[.int .i64 x.X,.int .i64 x.Y,.int .i64 x.W,.int .i64 x.H]
theorem Box.row_eq (x:Box):x.row=[.int .i64 x.X,.int .i64 x.Y,.int .i64 x.W,.int .i64 x.H]:=rfl
def Box.key (x:Box):Key:=.ints [x.X,x.Y,x.W,x.H]
def Box.ints (x:Box):List Int:=[x.X,x.Y,x.W,x.H]
instance:KeyF Box.key:=⟨fun a b h=>by unfold Box.key at h; cases a; cases b; injection h with h; simp only[List.cons.injEq,and_true] at h; simp only[Box.mk.injEq]; exact h⟩
structure Bi where
 constant:Int
 vars:List Int
 deriving DecidableEq,Inhabited
def Bi.row (x:Bi):List L:=[.int .i64 x.constant,pnil 1 (List.map (rI .i64) x.vars)]
theorem Bi.row_eq (x:Bi):x.row=[.int .i64 x.constant,pnil 1 (List.map (rI .i64) x.vars)]:=rfl
structure Bj where
 box:Box
 values:List Bi
 deriving DecidableEq,Inhabited
def Bj.row (x:Bj):List L:=[.int .i64 x.box.X,.int .i64 x.box.Y,.int .i64 x.box.W,.int .i64 x.box.H,.sl 2 (List.map Bi.row x.values)]
theorem Bj.row_eq (x:Bj):x.row=[.int .i64 x.box.X,.int .i64 x.box.Y,.int .i64 x.box.W,.int .i64 x.box.H,.sl 2 (List.map Bi.row x.values)]:=rfl
structure Bl where
 flat:Bool
 box:Box
 cells:List Int
 list:List Cell
 deriving DecidableEq,Inhabited
def Bl.row (x:Bl):List L:=[.bool x.flat,.int .i64 x.box.X,.int .i64 x.box.Y,.int .i64 x.box.W,.int .i64 x.box.H,.sl 1 (List.map (rI .i64) x.cells),.sl 3 (List.map Cell.row x.list)]
theorem Bl.row_eq (x:Bl):x.row=[.bool x.flat,.int .i64 x.box.X,.int .i64 x.box.Y,.int .i64 x.box.W,.int .i64 x.box.H,.sl 1 (List.map (rI .i64) x.cells),.sl 3 (List.map Cell.row x.list)]:=rfl
attribute [simp] Point.row_eq Node.row_eq Tree.row_eq Bg.row_eq Bh.row_eq Grid.row_eq Cell.row_eq Box.row_eq Bi.row_eq Bj.row_eq Bl.row_eq
def g0R:List (Int×Int×Int×Int):=[(1,0,0,1),(0,(-1),1,0),((-1),0,0,(-1)),(0,1,(-1),0),((-1),0,0,1),(0,(-1),(-1),0),(1,0,0,(-1)),(0,1,1,0)]
end Go.Proofs.YtjlckgeecihpbaaGreatDoor
namespace Go.AM
section
variable {α:Type} (cf:α->α->Int)
def insS (x:α):List α->List α
 | []=>[x]
 | y::l=>if cf x y < 0 then x::y::l else y::insS x l
end
theorem pb {α:Type} {cf:α->α->Int} (x:α):∀ l,(insS cf x l).Perm (x::l)
 | []=>List.Perm.refl _
 | y::l=>by
  unfold insS
  split
  ·exact List.Perm.refl _
  ·exact ((pb x l).cons y).trans (List.Perm.swap x y l)
end Go.AM
namespace Go.Proofs.YtjlckgeecihpbaaGreatDoor
def cmpI (a b:Int):Int:=if a < b then -1 else if a > b then 1 else 0
def cmpYX (ay ax byy bx:Int):Int:=if cmpI ay byy≠0 then cmpI ay byy else cmpI ax bx
def dG (a b:Cell):Int:=cmpYX a.Y a.X b.Y b.X
end Go.Proofs.YtjlckgeecihpbaaGreatDoor
namespace Go.Proofs.YtjlckgeecihpbaaGreatDoor
open Go.AM Go.Proofs
def ki (t:Tree) (_x:Bg) (stt:Int):Option (Lp (Int) (Bool ⊕ Unit)):=match stt with
 | a1 =>
  (bif (ltB a1 (b8 t.Nodes)) then
   (idx t.Nodes a1).bind fun x1 =>
   (bif (gtB (b8 x1.Next) 20) then
    some (.out (.inl false))
   else
    some (.next (bo .i64 a1 1)))
  else
   some (.out (.inr ())))
def mn (t:Tree) (x:Bg):Option (Bool) :=
 ((bif (gtB (b8 t.Nodes) 150) then
  some true
 else
  (bif (gtB (b8 t.Hood) 9) then
   some true
  else
   (bif (gtB (b8 x.Syms) 20) then
    some true
   else
    (bif (gtB x.Gens 3) then
     some (leB x.Gens 6)
    else
     some false))))).bind fun a =>
 (bif a then
  some false
 else
  (ba (ki t x) bp 0).bind fun o=>match o with
   | .inl r =>
    some r
   | .inr _u =>
    ((bif (ltB x.W 1) then
     some true
    else
     (bif (ltB x.H 1) then
      some true
     else
      (bif (gtB x.W 16) then
       some true
      else
       (bif (gtB x.H 16) then
        some true
       else
        (bif (leB (ck .i64 x.W x.H) 9) then
         some true
        else
         some (gtB (ck .i64 x.W x.H) 16))))))).bind fun a1 =>
    some a1)
def m_L45_keep:Option (Tree) :=
 some (⟨2,[(⟨0,0⟩:Point)],[(⟨1,[0,1]⟩:Node)]⟩:Tree)
def iW (x:Int):Option (Bool) :=
 some (neB x x)
def fg (x y:Int):Option (Int) :=
 (iW x).bind fun y1 =>
 (iW y).bind fun y2 =>
 (bif y1 then
  (bif y2 then
   some 0
  else
   some (-1))
 else
  (bif y2 then
   some 1
  else
   (bif (ltB x y) then
    some (-1)
   else
    (bif (gtB x y) then
     some 1
    else
     some 0))))
def ii (vals:List Int) (stt:Int):Option (Lp (Int) (Int ⊕ Unit)):=match stt with
 | a =>
  (bif (ltB a (b8 vals)) then
   (idx vals a).bind fun x =>
   (bif (neB x 0) then
    some (.out (.inl x))
   else
    some (.next (bo .i64 a 1)))
  else
   some (.out (.inr ())))
def lv (vals:List Int):Option (Int) :=
 (ba (ii vals) bp 0).bind fun o=>match o with
  | .inl r =>
   some r
  | .inr _u =>
   some 0
def gI (a b:Point):Option (Int) :=
 (fg a.Y b.Y).bind fun y =>
 (fg a.X b.X).bind fun y1 =>
 (lv [y,y1]).bind fun y2 =>
 some y2
def jE (l:List Point) (stt:Int):Option (Lp (Int) (Bool ⊕ Unit)):=match stt with
 | a1 =>
  (bif (ltB a1 (b8 l)) then
   (idx l a1).bind fun x =>
   ((bif (ltB x.X (-2)) then
    some true
   else
    (bif (gtB x.X 2) then
     some true
    else
     (bif (ltB x.Y (-2)) then
      some true
     else
      (bif (gtB x.Y 2) then
       some true
      else
       (bif (gtB a1 0) then
        (idx l (bL .i64 a1 1)).bind fun x1 =>
        (gI x1 x).bind fun y =>
        some (geB y 0)
       else
        some false)))))).bind fun a2 =>
   (bif a2 then
    some (.out (.inl false))
   else
    some (.next (bo .i64 a1 1)))
  else
   some (.out (.inr ())))
def jO (l:List Point):Option (Bool) :=
 ((bif (ltB (b8 l) 1) then
  some true
 else
  some (gtB (b8 l) 25))).bind fun a =>
 (bif a then
  some false
 else
  (ba (jE l) bp 0).bind fun o=>match o with
   | .inl r =>
    some r
   | .inr _u =>
    some true)
def ik (t:Tree) (a1:Int) (x:Node) (stt:Int):Option (Lp (Int) (Bool ⊕ Unit)):=match stt with
 | a3 =>
  (bif (ltB a3 (b8 x.Next)) then
   (idx x.Next a3).bind fun x1 =>
   ((bif (ltB x1 0) then
    some true
   else
    (bif (eqB x.Level 1) then
     (bif (geB x1 t.States) then
      some true
     else
      (bif (gtB x.Level 1) then
       (bif (geB x1 a1) then
        some true
       else
        (idx t.Nodes x1).bind fun x2 =>
        some (neB x2.Level (bL .i64 x.Level 1)))
      else
       some false))
    else
     (bif (gtB x.Level 1) then
      (bif (geB x1 a1) then
       some true
      else
       (idx t.Nodes x1).bind fun x2 =>
       some (neB x2.Level (bL .i64 x.Level 1)))
     else
      some false)))).bind fun a4 =>
   (bif a4 then
    some (.out (.inl false))
   else
    some (.next (bo .i64 a3 1)))
  else
   some (.out (.inr ())))
def ib (t:Tree) (stt:Int):Option (Lp (Int) (Bool ⊕ Unit)):=match stt with
 | a1 =>
  (bif (ltB a1 (b8 t.Nodes)) then
   (idx t.Nodes a1).bind fun x =>
   ((bif (ltB x.Level 1) then
    some true
   else
    (bif (gtB x.Level (b8 t.Hood)) then
     some true
    else
     some (neB (b8 x.Next) t.States)))).bind fun a2 =>
   (bif a2 then
    some (.out (.inl false))
   else
    (ba (ik t a1 x) bp 0).bind fun o=>match o with
     | .inl r =>
      some (.out (.inl r))
     | .inr _u =>
      some (.next (bo .i64 a1 1)))
  else
   some (.out (.inr ())))
def gO (t:Tree):Option (Bool) :=
 ((bif (ltB t.States 2) then
  some true
 else
  (bif (gtB t.States 8) then
   some true
  else
   (jO t.Hood).bind fun y =>
   (bif (cy y) then
    some true
   else
    (bif (ltB (b8 t.Nodes) 1) then
     some true
    else
     (bif (gtB (b8 t.Nodes) 4096) then
      some true
     else
      (idx t.Nodes (bL .i64 (b8 t.Nodes) 1)).bind fun x =>
      some (neB x.Level (b8 t.Hood)))))))).bind fun a =>
 (bif a then
  some false
 else
  (ba (ib t) bp 0).bind fun o=>match o with
   | .inl r =>
    some r
   | .inr _u =>
    some true)
def iy (t:Tree) (in_:List Int) (stt:Int×Int):Option (Lp (Int×Int) (Int)):=match stt with
 | (k,a) =>
  (bif (ltB a (b8 in_)) then
   (idx in_ a).bind fun x =>
   (idx t.Nodes k).bind fun x1 =>
   (idx x1.Next x).bind fun x2 =>
   some (.next (x2,(bo .i64 a 1)))
  else
   some (.out k))
def lg (t:Tree) (in_:List Int):Option (Int) :=
 (ba (iy t in_) bp ((bL .i64 (b8 t.Nodes) 1),0)).bind fun k =>
 some k
def lr (t:Tree):Option (Bool) :=
 ((gO t).bind fun y =>
 (bif y then
  (mkL 8 (b8 t.Hood) (b8 t.Hood) 0).bind fun _l =>
  (lg t (List.replicate (b8 t.Hood).toNat 0)).bind fun y1 =>
  some (eqB y1 0)
 else
  some false)).bind fun a =>
 some a
def iL (cv:Cell):Option (Point) :=
 some (⟨cv.X,cv.Y⟩:Point)
def ij (p:Point):Option (Bool) :=
 ((bif (leB (fB p.X p.Y) 1048576) then
  some (geB (nB p.X p.Y) (-1048576))
 else
  some false)).bind fun a =>
 some a
def iY (a b:Cell):Option (Int) :=
 (iL a).bind fun y =>
 (iL b).bind fun y1 =>
 (gI y y1).bind fun y2 =>
 some y2
def f0 (p:List Cell) (stt:Int):Option (Lp (Int) (Bool ⊕ Unit)):=match stt with
 | a =>
  (bif (ltB a (b8 p)) then
   (idx p a).bind fun x =>
   ((iL x).bind fun y =>
   (ij y).bind fun y1 =>
   (bif (cy y1) then
    some true
   else
    (bif (ltB x.S 1) then
     some true
    else
     (bif (geB x.S 8) then
      some true
     else
      (bif (gtB a 0) then
       (idx p (bL .i64 a 1)).bind fun x1 =>
       (iY x1 x).bind fun y2 =>
       some (geB y2 0)
      else
       some false))))).bind fun a1 =>
   (bif a1 then
    some (.out (.inl false))
   else
    some (.next (bo .i64 a 1)))
  else
   some (.out (.inr ())))
def eI (p:List Cell):Option (Bool) :=
 (bif (gtB (b8 p) 5000) then
  some false
 else
  (ba (f0 p) bp 0).bind fun o=>match o with
   | .inl r =>
    some r
   | .inr _u =>
    some true)
def fk (p:List Cell) (stt:Int×Int):Option (Lp (Int×Int) (Int)):=match stt with
 | (n,a) =>
  (bif (ltB a (b8 p)) then
   (idx p a).bind fun x =>
   some (.next ((fB n x.S),(bo .i64 a 1)))
  else
   some (.out n))
def fP (p:List Cell):Option (Int) :=
 (ba (fk p) bp (0,0)).bind fun n =>
 some n
def iA (t:Tree) (p:List Cell):Option (Int) :=
 (lr t).bind fun y =>
 (bif (cy y) then
  some 11
 else
  (eI p).bind fun y1 =>
  (bif (cy y1) then
   some 2
  else
   (fP p).bind fun y2 =>
   (bif (geB y2 t.States) then
    some 10
   else
    some 0)))
def lB (_t:Tree) (_p:List Cell) (n:Int) (stt:Unit):Option (Lp (Unit) (Unit)):=match stt with
 | _u =>
  (bif (ltB 0 n) then
   none
  else
   some (.out ()))
def lK (t:Tree) (p:List Cell) (n:Int):Option ((List Cell)×Int) :=
 (iA t p).bind fun y =>
 (bif (neB y 0) then
  some ([],y)
 else
  ((bif (ltB n 0) then
   some true
  else
   some (gtB n 10000))).bind fun a =>
  (bif a then
   some ([],2)
  else
   (ba (lB t p n) bp ()).bind fun _u =>
   some (p,0)))
def fU (x:Bg) (stt:Int×(List Bool)):Option (Lp (Int×(List Bool)) (Bool ⊕ Unit)):=match stt with
 | (a,seen) =>
  (bif (ltB a (b8 x.Syms)) then
   (idx x.Syms a).bind fun x1 =>
   ((bif (ltB x1 0) then
    some true
   else
    (bif (geB x1 8) then
     some true
    else
     (aidx 8 seen x1).bind fun x2 =>
     (bif x2 then
      some true
     else
      (irem x1 2).bind fun n =>
      (bif (eqB n 1) then
       some (neB x.W x.H)
      else
       some false))))).bind fun a1 =>
   (bif a1 then
    some (.out (.inl false))
   else
    (aidx 8 seen x1).bind fun _x2 =>
    some (.next ((bo .i64 a 1),(seen.set x1.toNat true))))
  else
   some (.out (.inr ())))
def js (x:Bg):Option (Bool) :=
 (ba (fU x) bp (0,[false,false,false,false,false,false,false,false])).bind fun o=>match o with
  | .inl r =>
   some r
  | .inr _u =>
   some true
def iT (x:Bg):Option (Int) :=
 (bif (ltB (nB x.W x.H) 1) then
  some 2
 else
  ((bif (gtB (fB x.W x.H) 16) then
   some true
  else
   some (gtB (ck .i64 x.W x.H) 16))).bind fun a =>
  (bif a then
   some 6
  else
   ((bif (ltB x.Gens 1) then
    some true
   else
    (bif (gtB x.Gens 6) then
     some true
    else
     (bif (gtB (fB x.DX x.DY) 24) then
      some true
     else
      (bif (ltB (nB x.DX x.DY) (-24)) then
       some true
      else
       (js x).bind fun y =>
       some (cy y)))))).bind fun a1 =>
   (bif a1 then
    some 2
   else
    some 0)))
def fi (t:Tree) (x:Bg):Option (Int) :=
 (lK t [] 0).bind fun y =>
 (bif (neB y.2 0) then
  some y.2
 else
  (iT x).bind fun y1 =>
  some y1)
def ch (l:List Int):Option (List Int):=eT 8 [] l
def jq (_x:Int) (next:List Int):Option (List Int) :=
 some next
def cP (l:List Int) (n base:Int):Option (List Int):=appUM l n base
def dM (i base:Int):Option (List Int) :=
 ((bif (ltB i 0) then
  (eT 1 [] [45]).bind fun _l =>
  some ((cz .u64 (iconv .u64 i)),([]++[45]))
 else
  some ((iconv .u64 i),[]))).bind fun(u,dst) =>
 (cP dst u base).bind fun y =>
 some y
def dU (i base:Int):Option (List Int) :=
 (dM i base).bind fun y =>
 some y
def dJ (dst:List Int) (i base:Int):Option (List Int) :=
 ((bif (ltB i 0) then
  (eT 1 dst [45]).bind fun _l =>
  some ((cz .u64 (iconv .u64 i)),(dst++[45]))
 else
  some ((iconv .u64 i),dst))).bind fun(u,dst1) =>
 (cP dst1 u base).bind fun y =>
 some y
def dj (dst:List Int) (i base:Int):Option (List Int) :=
 (dJ dst i base).bind fun y =>
 some y
def dQ (_az:List Node) (_am:List (List UInt8×Int)) (_level:Int) (next:List Int) (stt:Int×(List Int)):Option (Lp (Int×(List Int)) ((List Int))):=match stt with
 | (a,keyv) =>
  (bif (ltB a (b8 next)) then
   (idx next a).bind fun x =>
   (eT 1 keyv [32]).bind fun _l =>
   (dj (keyv++[32]) x 10).bind fun y1 =>
   some (.next ((bo .i64 a 1),y1))
  else
   some (.out keyv))
def cA (az:List Node) (am:List (List UInt8×Int)) (level:Int) (next:List Int):Option (Int×(List (List UInt8×Int))×(List Node)) :=
 (dU level 10).bind fun y =>
 (ba (dQ az am level next) bp (0,y)).bind fun keyv =>
 (kckS (ofBytes keyv)).bind fun _u =>
 (bif (lP am (ofBytes keyv)) then
  some ((mgetD am (ofBytes keyv) 0),am,az)
 else
  (eT 32 az [(⟨level,next⟩:Node)]).bind fun _l =>
  some ((bL .i64 ((b8 az)+1) 1),(msetL am (ofBytes keyv) (bL .i64 ((b8 az)+1) 1)),(az++[(⟨level,next⟩:Node)])))
def cg (l:List Point):Option (List Point):=eT 16 [] l
def bP (rcv:(Int->(List Int)->(List Node)->(List Node)->Option (Int×(List Int)×(List Node)))) (_k:Int) (a1:List Node) (x1:Node) (y:List Int) (stt:Int×(List Int)×(List Node)×(List Int)):Option (Lp (Int×(List Int)×(List Node)×(List Int)) (((List Int)×(List Node)×(List Int)))):=match stt with
 | (a2,l,l2,l1) =>
  (bif (ltB a2 (b8 y)) then
   ((idx l a2).bind fun x2 =>
   (bif (gtB x1.Level 1) then
    (rcv x2 l1 a1 l2).bind fun y1 =>
    some ((l.set a2.toNat y1.1),y1.2.1,y1.2.2)
   else
    some (l,l1,l2))).bind fun(l3,l4,l5) =>
   some (.next ((bo .i64 a2 1),l3,l5,l4))
  else
   some (.out (l,l2,l1)))
def bV (rcv:(Int->(List Int)->(List Node)->(List Node)->Option (Int×(List Int)×(List Node)))) (k:Int) (a:List Int) (a1 cv:List Node):Option (Int×(List Int)×(List Node)) :=
 (idx a k).bind fun x =>
 (bif (gtB x 0) then
  some ((bL .i64 x 1),a,cv)
 else
  (idx a1 k).bind fun x1 =>
  (ch x1.Next).bind fun y =>
  (ba (bP rcv k a1 x1 y) bp (0,y,cv,a)).bind fun(l,l1,l2) =>
  (eT 32 l1 [(⟨x1.Level,l⟩:Node)]).bind fun _l3 =>
  (idx l2 k).bind fun _x2 =>
  some ((bL .i64 ((b8 l1)+1) 1),(l2.set k.toNat ((b8 l1)+1)),(l1++[(⟨x1.Level,l⟩:Node)])))
def ge (k:Int) (a:List Int) (a1 cv:List Node):Option (Int×(List Int)×(List Node)):=recN bV (fun _ _ _ _=>none) recF k a a1 cv
def fV (nodes:List Node) (root:Int):Option (List Node) :=
 (mkL 8 (b8 nodes) (b8 nodes) 0).bind fun _l =>
 (ge root (List.replicate (b8 nodes).toNat 0) nodes []).bind fun y =>
 some y.2.2
def bu (_t:Tree) (_a:Int) (_mp:List (List UInt8×Int)) (_l:List Node) (to_:List Int) (x:Node) (y:List Int) (stt:Int×(List Int)):Option (Lp (Int×(List Int)) ((List Int))):=match stt with
 | (a1,next) =>
  (bif (ltB a1 (b8 y)) then
   ((idx next a1).bind fun x1 =>
   (bif (gtB x.Level 1) then
    (idx to_ x1).bind fun x2 =>
    some (next.set a1.toNat x2)
   else
    some next)).bind fun aI =>
   some (.next ((bo .i64 a1 1),aI))
  else
   some (.out next))
def bS (t:Tree) (stt:Int×(List (List UInt8×Int))×(List Node)×(List Int)):Option (Lp (Int×(List (List UInt8×Int))×(List Node)×(List Int)) (((List (List UInt8×Int))×(List Node)×(List Int)))):=match stt with
 | (a,mp,l,to_) =>
  (bif (ltB a (b8 t.Nodes)) then
   (idx t.Nodes a).bind fun x =>
   (ch x.Next).bind fun y =>
   (ba (bu t a mp l to_ x y) bp (0,y)).bind fun next =>
   (jq x.Level next).bind fun y1 =>
   (cA l mp x.Level y1).bind fun y2 =>
   (eT 8 to_ [y2.1]).bind fun _l1 =>
   some (.next ((bo .i64 a 1),y2.2.1,y2.2.2,(to_++[y2.1])))
  else
   some (.out (mp,l,to_)))
def cG (t:Tree):Option (Tree) :=
 (ba (bS t) bp (0,[],[],[])).bind fun(_mp,l,to_) =>
 (cg t.Hood).bind fun y =>
 (idx to_ (bL .i64 (b8 to_) 1)).bind fun x =>
 (fV l x).bind fun y1 =>
 some (⟨t.States,y,y1⟩:Tree)
def gJ (t:Tree):Option (Tree) :=
 (gO t).bind fun y =>
 (bif (cy y) then
  some (⟨0,[],[]⟩:Tree)
 else
  (cG t).bind fun y1 =>
  some y1)
def iS (states:Int):Option (Int) :=
 (bif (eqB states 2) then
  some 1
 else
  ((bif (eqB states 3) then
   some (eqB states 3)
  else
   some (eqB states 4))).bind fun a =>
  (bif a then
   some 2
  else
   ((bif (gtB states 4) then
    some (leB states 8)
   else
    some false)).bind fun a1 =>
   (bif a1 then
    some 3
   else
    some 0)))
def iq (t:Tree):Option (Int×(List Point)×(List Node)×Int) :=
 (gJ t).bind fun y =>
 (iS t.States).bind fun y1 =>
 some (y.States,y.Hood,y.Nodes,y1)
def gL (l:List Point) (stt:Int×Int):Option (Lp (Int×Int) (Int)):=match stt with
 | (r_,a) =>
  (bif (ltB a (b8 l)) then
   (idx l a).bind fun x =>
   some (.next ((fB (fB (fB (fB r_ x.X) (cz .i64 x.X)) x.Y) (cz .i64 x.Y)),(bo .i64 a 1)))
  else
   some (.out r_))
def fQ (l:List Point):Option (Int) :=
 ((jO l).bind fun y =>
 (bif y then
  (ba (gL l) bp (0,0)).bind fun r_ =>
  some r_
 else
  some 0)).bind fun r_ =>
 some r_
def cS (_ah:List (List Int)) (_aa:Int) (_ag:List Point) (_ae:List Node) (ak:Int) (_ai:List (List UInt8×Tree)) (stt:Int×(List Int)×Int):Option (Lp (Int×(List Int)×Int) (((List Int)×Int))):=match stt with
 | (a,l,aj) =>
  (bif (ltB a ak) then
   (eT 8 l [(bo .i64 aj 1)]).bind fun _l1 =>
   some (.next ((bo .i64 a 1),(l++[(bo .i64 aj 1)]),(bo .i64 aj 1)))
  else
   some (.out (l,aj)))
def di (ab:Int) (ah:List (List Int)) (aa:Int) (ag:List Point) (ae:List Node) (ak:Int) (ai:List (List UInt8×Tree)):Option ((List Int)×Int) :=
 (ba (cS ah aa ag ae ak ai) bp (0,[],ab)).bind fun(l,aj) =>
 some (l,aj)
def eW (cv:Int) (y:List Int) (stt:Int×(List Int)):Option (Lp (Int×(List Int)) ((List Int))):=match stt with
 | (a,l) =>
  (bif (ltB a (b8 y)) then
   ((ishr .i64 cv a).bind fun n =>
   (bif (eqB (iand .i64 n 1) 1) then
    (idx l a).bind fun x =>
    some (l.set a.toNat (cz .i64 x))
   else
    some l)).bind fun l1 =>
   some (.next ((bo .i64 a 1),l1))
  else
   some (.out l))
def fS (vars:List Int) (cv:Int):Option (List Int) :=
 (ch vars).bind fun y =>
 (ba (eW cv y) bp (0,y)).bind fun l =>
 some l
def cp (_ab:Int) (ah:List (List Int)) (_aa:Int) (_ag:List Point) (_ae:List Node) (_ak:Int) (_ai:List (List UInt8×Tree)) (l:List Int):Option (Unit) :=
 (eT 24 ah [l]).bind fun _l1 =>
 some ()
def cX (ah:List (List Int)) (aa:Int) (ag:List Point) (ae:List Node) (ak:Int) (ai:List (List UInt8×Tree)) (box:Box) (stt:Int×(List Bi)×Int):Option (Lp (Int×(List Bi)×Int) (((List Bi)×Int))):=match stt with
 | (a,l,aj) =>
  (bif (ltB a (ck .i64 box.W box.H)) then
   (di aj ah aa ag ae ak ai).bind fun y =>
   (neE y.1).bind fun _u =>
   (eT 32 l [(⟨0,y.1⟩:Bi)]).bind fun _l1 =>
   some (.next ((bo .i64 a 1),(l++[(⟨0,y.1⟩:Bi)]),y.2))
  else
   some (.out (l,aj)))
def cE (aa:Int) (ag:List Point) (ae:List Node) (ak:Int) (ai:List (List UInt8×Tree)) (_box:Box) (_l:List Bi) (aj _a:Int) (x:Bi) (stt:Int×(List (List Int))):Option (Lp (Int×(List (List Int))) ((List (List Int)))):=match stt with
 | (cv,l2) =>
  (ishl .i64 1 ak).bind fun n =>
  (bif (ltB cv n) then
   (neE x.vars).bind fun _u =>
   (fS x.vars cv).bind fun y =>
   (cp aj l2 aa ag ae ak ai y).bind fun _y1 =>
   some (.next ((bo .i64 cv 1),(l2++[y])))
  else
   some (.out l2))
def cW (aa:Int) (ag:List Point) (ae:List Node) (ak:Int) (ai:List (List UInt8×Tree)) (box:Box) (l:List Bi) (aj:Int) (stt:Int×(List (List Int))):Option (Lp (Int×(List (List Int))) ((List (List Int)))):=match stt with
 | (a,l1) =>
  (bif (ltB a (b8 l)) then
   (idx l a).bind fun x =>
   (ba (cE aa ag ae ak ai box l aj a x) bp (aa,l1)).bind fun l2 =>
   some (.next ((bo .i64 a 1),l2))
  else
   some (.out l1))
def dw (ab:Int) (ah:List (List Int)) (aa:Int) (ag:List Point) (ae:List Node) (ak:Int) (ai:List (List UInt8×Tree)) (box:Box):Option ((List Bi)×(List (List Int))×Int) :=
 (ba (cX ah aa ag ae ak ai box) bp (0,[],ab)).bind fun(l,aj) =>
 (ba (cW aa ag ae ak ai box l aj) bp (0,ah)).bind fun l1 =>
 some (l,l1,aj)
def lQ (n:Int):Option (Bool) :=
 ((bif (geB n (-1048576)) then
  some (leB n 1048576)
 else
  some false)).bind fun a =>
 some a
def kc (b:Box):Option (Bool) :=
 ((bif (geB b.W 1) then
  (bif (ltB b.W 2097154) then
   (bif (geB b.H 1) then
    (bif (ltB b.H 2097154) then
     (lQ b.X).bind fun y =>
     (bif y then
      (lQ b.Y).bind fun y1 =>
      (bif y1 then
       (lQ (bL .i64 (bo .i64 b.X b.W) 1)).bind fun y2 =>
       (bif y2 then
        (lQ (bL .i64 (bo .i64 b.Y b.H) 1)).bind fun y3 =>
        some y3
       else
        some false)
      else
       some false)
     else
      some false)
    else
     some false)
   else
    some false)
  else
   some false)
 else
  some false)).bind fun a =>
 some a
def ic (k:Int) (p:Point):Option (Point) :=
 (aidx 8 g0R (iand .i64 k 7)).bind fun x =>
 some (⟨(bo .i64 (ck .i64 x.1 p.X) (ck .i64 x.2.1 p.Y)),(bo .i64 (ck .i64 x.2.2.1 p.X) (ck .i64 x.2.2.2 p.Y))⟩:Point)
def mC (k:Int) (b:Box):Option (Box) :=
 (kc b).bind fun y =>
 (bif (cy y) then
  some (⟨0,0,0,0⟩:Box)
 else
  (ic k (⟨b.X,b.Y⟩:Point)).bind fun y1 =>
  (ic k (⟨(bL .i64 (bo .i64 b.X b.W) 1),(bL .i64 (bo .i64 b.Y b.H) 1)⟩:Point)).bind fun y2 =>
  some (⟨(nB y1.X y2.X),(nB y1.Y y2.Y),(bo .i64 (bL .i64 (fB y1.X y2.X) (nB y1.X y2.X)) 1),(bo .i64 (bL .i64 (fB y1.Y y2.Y) (nB y1.Y y2.Y)) 1)⟩:Box))
def fe (k:Int) (b:Box) (p:Point):Option (Point) :=
 ((kc b).bind fun y =>
 (bif (cy y) then
  some true
 else
  (kc (⟨p.X,p.Y,1,1⟩:Box)).bind fun y1 =>
  some (cy y1))).bind fun a =>
 (bif a then
  some (⟨0,0⟩:Point)
 else
  (mC k b).bind fun y =>
  (ic k p).bind fun y1 =>
  some (⟨(bL .i64 y1.X y.X),(bL .i64 y1.Y y.Y)⟩:Point))
def dS (f:Bj) (x y:Int):Option (Bi) :=
 ((bif (ltB (bL .i64 x f.box.X) 0) then
  some true
 else
  (bif (geB (bL .i64 x f.box.X) f.box.W) then
   some true
  else
   (bif (ltB (bL .i64 y f.box.Y) 0) then
    some true
   else
    some (geB (bL .i64 y f.box.Y) f.box.H))))).bind fun a =>
 (bif a then
  some (⟨0,[]⟩:Bi)
 else
  (idx f.values (bo .i64 (ck .i64 (bL .i64 y f.box.Y) f.box.W) (bL .i64 x f.box.X))).bind fun x1 =>
  some x1)
def dN (ab aa:Int) (ag:List Point) (ae:List Node) (ak:Int) (ai:List (List UInt8×Tree)) (x y:List Int) (stt:Int×(List (List Int))):Option (Lp (Int×(List (List Int))) ((List (List Int)))):=match stt with
 | (a,l) =>
  (bif (ltB a (b8 x)) then
   (idx x a).bind fun x1 =>
   (idx y a).bind fun x2 =>
   (cp ab l aa ag ae ak ai [(cz .i64 x1),x2]).bind fun _y1 =>
   (cp ab (l++[[(cz .i64 x1),x2]]) aa ag ae ak ai [x1,(cz .i64 x2)]).bind fun _y2 =>
   some (.next ((bo .i64 a 1),((l++[[(cz .i64 x1),x2]])++[[x1,(cz .i64 x2)]])))
  else
   some (.out l))
def du (ab:Int) (ah:List (List Int)) (aa:Int) (ag:List Point) (ae:List Node) (ak:Int) (ai:List (List UInt8×Tree)) (x y:List Int):Option (List (List Int)) :=
 (ba (dN ab aa ag ae ak ai x y) bp (0,ah)).bind fun l =>
 some l
def cL (next:List Int) (_aK:Int) (_aR:List Point) (_aN:List Node) (_a a1:Int) (stt:Int×(List Int)):Option (Lp (Int×(List Int)) ((List Int))):=match stt with
 | (a2,aI) =>
  (bif (ltB a2 (b8 next)) then
   ((bif (neB a2 a1) then
    (idx aI a1).bind fun x =>
    (idx aI a2).bind fun _x1 =>
    some (aI.set a2.toNat x)
   else
    some aI)).bind fun next2 =>
   some (.next ((bo .i64 a2 1),next2))
  else
   some (.out aI))
def dE (level:Int) (next:List Int) (aK:Int) (aR:List Point) (aN:List Node) (a a1:Int):Option (List Int) :=
 ((bif (eqB level (bL .i64 (b8 aR) a)) then
  (ba (cL next aK aR aN a a1) bp (0,next)).bind fun aI =>
  some aI
 else
  some next)).bind fun aI =>
 some aI
def ew (_az:List Node) (_am:List (List UInt8×Int)) (_level:Int) (next:List Int) (stt:Int×(List Int)):Option (Lp (Int×(List Int)) ((List Int))):=match stt with
 | (a,keyv) =>
  (bif (ltB a (b8 next)) then
   (idx next a).bind fun x =>
   (eT 1 keyv [32]).bind fun _l =>
   (dj (keyv++[32]) x 10).bind fun y1 =>
   some (.next ((bo .i64 a 1),y1))
  else
   some (.out keyv))
def dR (az:List Node) (am:List (List UInt8×Int)) (level:Int) (next:List Int):Option (Int×(List (List UInt8×Int))×(List Node)) :=
 (dU level 10).bind fun y =>
 (ba (ew az am level next) bp (0,y)).bind fun keyv =>
 (kckS (ofBytes keyv)).bind fun _u =>
 (bif (lP am (ofBytes keyv)) then
  some ((mgetD am (ofBytes keyv) 0),am,az)
 else
  (eT 32 az [(⟨level,next⟩:Node)]).bind fun _l =>
  some ((bL .i64 ((b8 az)+1) 1),(msetL am (ofBytes keyv) (bL .i64 ((b8 az)+1) 1)),(az++[(⟨level,next⟩:Node)])))
def cM (_t:Tree) (_aB:Int) (_aL:List Point) (_aE:List Node) (_cv _cv1 _a:Int) (_mp:List (List UInt8×Int)) (_l:List Node) (to_:List Int) (x:Node) (y:List Int) (stt:Int×(List Int)):Option (Lp (Int×(List Int)) ((List Int))):=match stt with
 | (a1,next) =>
  (bif (ltB a1 (b8 y)) then
   ((idx next a1).bind fun x1 =>
   (bif (gtB x.Level 1) then
    (idx to_ x1).bind fun x2 =>
    some (next.set a1.toNat x2)
   else
    some next)).bind fun aI =>
   some (.next ((bo .i64 a1 1),aI))
  else
   some (.out next))
def bM (t:Tree) (aB:Int) (aL:List Point) (aE:List Node) (cv cv1:Int) (stt:Int×(List (List UInt8×Int))×(List Node)×(List Int)):Option (Lp (Int×(List (List UInt8×Int))×(List Node)×(List Int)) (((List (List UInt8×Int))×(List Node)×(List Int)))):=match stt with
 | (a,mp,l,to_) =>
  (bif (ltB a (b8 t.Nodes)) then
   (idx t.Nodes a).bind fun x =>
   (ch x.Next).bind fun y =>
   (ba (cM t aB aL aE cv cv1 a mp l to_ x y) bp (0,y)).bind fun next =>
   (dE x.Level next aB aL aE cv cv1).bind fun y1 =>
   (dR l mp x.Level y1).bind fun y2 =>
   (eT 8 to_ [y2.1]).bind fun _l1 =>
   some (.next ((bo .i64 a 1),y2.2.1,y2.2.2,(to_++[y2.1])))
  else
   some (.out (mp,l,to_)))
def ct (t:Tree) (aB:Int) (aL:List Point) (aE:List Node) (cv cv1:Int):Option ((List Point)×(List Node)) :=
 (ba (bM t aB aL aE cv cv1) bp (0,[],[],[])).bind fun(_mp,l,to_) =>
 (cg t.Hood).bind fun y =>
 (idx to_ (bL .i64 (b8 to_) 1)).bind fun x =>
 (fV l x).bind fun y1 =>
 some (y,y1)
def iK (t:Tree) (k s:Int):Option (Tree×Int) :=
 (gO t).bind fun y =>
 (bif (cy y) then
  some ((⟨0,[],[]⟩:Tree),11)
 else
  ((bif (ltB k 0) then
   some true
  else
   some (geB k (b8 t.Hood)))).bind fun a =>
  (bif a then
   some ((⟨0,[],[]⟩:Tree),2)
  else
   ((bif (ltB s 0) then
    some true
   else
    some (geB s t.States))).bind fun a1 =>
   (bif a1 then
    some ((⟨0,[],[]⟩:Tree),10)
   else
    (ct t t.States t.Hood t.Nodes k s).bind fun y1 =>
    some ((⟨t.States,y1.1,y1.2⟩:Tree),0))))
def co (_ab:Int) (_ah:List (List Int)) (_aa:Int) (_ag:List Point) (_ae:List Node) (_ak:Int) (_ai:List (List UInt8×Tree)) (in_:List Bi) (stt:Int×(List Int)):Option (Lp (Int×(List Int)) ((List Int))):=match stt with
 | (a,keyv) =>
  (bif (ltB a (b8 in_)) then
   (idx in_ a).bind fun x =>
   ((bif (cy (isE x.vars)) then
    some 255
   else
    some (iconv .u8 x.constant))).bind fun k =>
   (eT 1 keyv [k]).bind fun _l =>
   some (.next ((bo .i64 a 1),(keyv++[k])))
  else
   some (.out keyv))
def cm (_ab:Int) (_ah:List (List Int)) (_aa:Int) (_ag:List Point) (_ae:List Node) (_ak:Int) (_ai:List (List UInt8×Tree)) (in_:List Bi) (_keyv:List Int) (_u:Unit) (stt:Int×Int×(List Point)×(List Node)):Option (Lp (Int×Int×(List Point)×(List Node)) ((Int×(List Point)×(List Node)))):=match stt with
 | (a,aA,aJ,aD) =>
  (bif (ltB a (b8 in_)) then
   ((idx in_ a).bind fun x =>
   (bif (isE x.vars) then
    (iK (⟨aA,aJ,aD⟩:Tree) a x.constant).bind fun y =>
    some (y.1.States,y.1.Hood,y.1.Nodes)
   else
    some (aA,aJ,aD))).bind fun(aW,tHood1,tNodes1) =>
   some (.next ((bo .i64 a 1),aW,tHood1,tNodes1))
  else
   some (.out (aA,aJ,aD)))
def cT (ab:Int) (ah:List (List Int)) (aa:Int) (ag:List Point) (ae:List Node) (ak:Int) (ai:List (List UInt8×Tree)) (in_:List Bi):Option (Int×(List Point)×(List Node)×(List (List UInt8×Tree))) :=
 (ba (co ab ah aa ag ae ak ai in_) bp (0,[])).bind fun keyv =>
 (kckS (ofBytes keyv)).bind fun u =>
 (bif (lP ai (ofBytes keyv)) then
  (kX ai (ofBytes keyv)).bind fun v =>
  some (v.States,v.Hood,v.Nodes,ai)
 else
  (ba (cm ab ah aa ag ae ak ai in_ keyv u) bp (0,aa,ag,ae)).bind fun(aA,aJ,aD) =>
  some (aA,aJ,aD,(msetL ai (ofBytes keyv) (⟨aA,aJ,aD⟩:Tree))))
def fb (n:Int) (a:Node):Option (Bool) :=
 (idx a.Next 0).bind fun x =>
 some (neB n x)
def bE (s:List Int) (cv:Node) (stt:Int):Option (Lp (Int) (Int ⊕ Unit)):=match stt with
 | a =>
  (bif (ltB a (b8 s)) then
   (idx s a).bind fun x =>
   (fb x cv).bind fun y =>
   (bif y then
    some (.out (.inl a))
   else
    some (.next (bo .i64 a 1)))
  else
   some (.out (.inr ())))
def bZ (s:List Int) (cv:Node):Option (Int) :=
 (ba (bE s cv) bp 0).bind fun o=>match o with
  | .inl r =>
   some r
  | .inr _u =>
   some (-1)
def bI (s:List Int) (cv:Node):Option (Bool) :=
 (bZ s cv).bind fun y =>
 some (geB y 0)
def cd (s aV:Int) (aNext:List Int) (a:List Bi):Option (Int×(List Int)) :=
 (bif (eqB aV 1) then
  (idx aNext s).bind fun x =>
  some (x,[])
 else
  (idx aNext s).bind fun x =>
  (idx a x).bind fun x1 =>
  some (x1.constant,x1.vars))
def dq (_ab:Int) (ah:List (List Int)) (_aa:Int) (_ag:List Point) (_ae:List Node) (_ak:Int) (_ai:List (List UInt8×Tree)) (l:List Int):Option (Unit) :=
 (eT 24 ah [l]).bind fun _l1 =>
 some ()
def bU (l:List Int) (aM:Int) (aG:List (List Int)) (aO:Int) (aS:List Point) (aP:List Node) (abits:Int) (aU:List (List UInt8×Tree)) (a:List Int):Option (List (List Int)) :=
 (ch a).bind fun y =>
 (eT 8 y l).bind fun _l1 =>
 (dq aM aG aO aS aP abits aU (y++l)).bind fun _y1 =>
 some (aG++[(y++l)])
def dh (ab aa:Int) (ag:List Point) (ae:List Node) (ak:Int) (ai:List (List UInt8×Tree)) (aF own:List Int) (v:Bi) (stt:Int×(List (List Int))):Option (Lp (Int×(List (List Int))) ((List (List Int)))):=match stt with
 | (a,l) =>
  (bif (ltB a (b8 own)) then
   ((idx own a).bind fun x =>
   (bif (cy (isE v.vars)) then
    (neE v.vars).bind fun _u =>
    (idx v.vars a).bind fun x1 =>
    (bU [(cz .i64 x),x1] ab l aa ag ae ak ai aF).bind fun y =>
    (bU [x,(cz .i64 x1)] ab y aa ag ae ak ai aF).bind fun y1 =>
    some y1
   else
    (ishr .i64 v.constant a).bind fun n =>
    (bif (eqB (iand .i64 n 1) 1) then
     (bU [x] ab l aa ag ae ak ai aF).bind fun y =>
     some y
    else
     (bU [(cz .i64 x)] ab l aa ag ae ak ai aF).bind fun y =>
     some y))).bind fun l1 =>
   some (.next ((bo .i64 a 1),l1))
  else
   some (.out l))
def dC (ab:Int) (ah:List (List Int)) (aa:Int) (ag:List Point) (ae:List Node) (ak:Int) (ai:List (List UInt8×Tree)) (aF own:List Int) (v:Bi):Option (List (List Int)) :=
 (ba (dh ab aa ag ae ak ai aF own v) bp (0,ah)).bind fun l =>
 some l
def cO (aa:Int) (ag:List Point) (ae:List Node) (ak:Int) (ai:List (List UInt8×Tree)) (_t:Tree) (_in_:List Bi) (a:Int) (l1:List Bi) (x:Node) (x1:Bi) (y1:(List Int)×Int) (x2:Bi) (_u:Unit) (stt:Int×(List (List Int))):Option (Lp (Int×(List (List Int))) ((List (List Int)))):=match stt with
 | (a1,l3) =>
  (bif (ltB a1 (b8 x.Next)) then
   (neE x1.vars).bind fun _u1 =>
   (fS x1.vars a1).bind fun y2 =>
   (cd a1 x.Level x.Next (l1.set a.toNat (⟨x2.constant,y1.1⟩:Bi))).bind fun y3 =>
   (dC y1.2 l3 aa ag ae ak ai y2 y1.1 (⟨y3.1,y3.2⟩:Bi)).bind fun y4 =>
   some (.next ((bo .i64 a1 1),y4))
  else
   some (.out l3))
def cN (aa:Int) (ag:List Point) (ae:List Node) (ak:Int) (ai:List (List UInt8×Tree)) (t:Tree) (in_:List Bi) (stt:Int×(List Bi)×(List (List Int))×Int):Option (Lp (Int×(List Bi)×(List (List Int))×Int) (((List Bi)×(List (List Int))×Int))):=match stt with
 | (a,l1,l2,aj) =>
  (bif (ltB a (b8 t.Nodes)) then
   (idx t.Nodes a).bind fun x =>
   (bI x.Next x).bind fun y =>
   (bif (cy y) then
    (cd 0 x.Level x.Next l1).bind fun y1 =>
    (idx l1 a).bind fun _x1 =>
    some (.next ((bo .i64 a 1),(l1.set a.toNat (⟨y1.1,y1.2⟩:Bi)),l2,aj))
   else
    (idx in_ (bL .i64 (b8 t.Hood) x.Level)).bind fun x1 =>
    (di aj l2 aa ag ae ak ai).bind fun y1 =>
    (idx l1 a).bind fun x2 =>
    (neE y1.1).bind fun u =>
    (ba (cO aa ag ae ak ai t in_ a l1 x x1 y1 x2 u) bp (0,l2)).bind fun l3 =>
    some (.next ((bo .i64 a 1),(l1.set a.toNat (⟨x2.constant,y1.1⟩:Bi)),l3,y1.2)))
  else
   some (.out (l1,l2,aj)))
def dO (ab:Int) (ah:List (List Int)) (aa:Int) (ag:List Point) (ae:List Node) (ak:Int) (ai:List (List UInt8×Tree)) (t:Tree) (in_:List Bi):Option (Int×(List Int)×(List (List Int))×Int) :=
 (mkL 32 (b8 t.Nodes) (b8 t.Nodes) (⟨0,[]⟩:Bi)).bind fun _l =>
 (ba (cN aa ag ae ak ai t in_) bp (0,(List.replicate (b8 t.Nodes).toNat (⟨0,[]⟩:Bi)),ah,ab)).bind fun(l1,l2,aj) =>
 (idx l1 (bL .i64 (b8 l1) 1)).bind fun x =>
 some (x.constant,x.vars,l2,aj)
def cJ (ab:Int) (ah:List (List Int)) (_aa:Int) (_ag:List Point) (_ae:List Node) (_ak:Int) (_ai:List (List UInt8×Tree)):Option (Bool) :=
 ((bif (gtB ab 65536) then
  some true
 else
  some (gtB (b8 ah) 262144))).bind fun a =>
 some a
def cF (_aa:Int) (ag:List Point) (_ae:List Node) (_ak:Int) (f:Bj) (_box:Box) (_fixed:Bool) (y x:Int) (_l2:List Bi) (_l3:List (List Int)) (_aw:Int) (_mp1:List (List UInt8×Tree)) (stt:Int×(List Bi)):Option (Lp (Int×(List Bi)) ((List Bi))):=match stt with
 | (a,in_) =>
  (bif (ltB a (b8 ag)) then
   (idx ag a).bind fun x1 =>
   (dS f (bo .i64 x x1.X) (bo .i64 y x1.Y)).bind fun y1 =>
   (eT 32 in_ [y1]).bind fun _l4 =>
   some (.next ((bo .i64 a 1),(in_++[y1])))
  else
   some (.out in_))
def cq (aa:Int) (ag:List Point) (ae:List Node) (ak:Int) (f:Bj) (box:Box) (fixed:Bool) (y:Int) (stt:Int×(List Bi)×(List (List Int))×Int×(List (List UInt8×Tree))):Option (Lp (Int×(List Bi)×(List (List Int))×Int×(List (List UInt8×Tree))) ((Int×Int×Int×Int×(List Bi)×Bool×Int×(List (List UInt8×Tree))×(List (List Int))) ⊕ ((List Bi)×(List (List Int))×Int×(List (List UInt8×Tree))))):=match stt with
 | (x,l2,l3,aw,mp1) =>
  (bif (ltB x (bo .i64 box.X box.W)) then
   (ba (cF aa ag ae ak f box fixed y x l2 l3 aw mp1) bp (0,[])).bind fun in_ =>
   ((bif fixed then
    (cT aw l3 aa ag ae ak mp1 in_).bind fun y1 =>
    some (y1.1,y1.2.1,y1.2.2.1,y1.2.2.2)
   else
    some (aa,ag,ae,mp1))).bind fun(aA,aJ,aD,mp2) =>
   (dO aw l3 aa ag ae ak mp2 (⟨aA,aJ,aD⟩:Tree) in_).bind fun y1 =>
   (eT 32 l2 [(⟨y1.1,y1.2.1⟩:Bi)]).bind fun _l4 =>
   (cJ y1.2.2.2 y1.2.2.1 aa ag ae ak mp2).bind fun y2 =>
   (bif y2 then
    some (.out (.inl (0,0,0,0,[],false,y1.2.2.2,mp2,y1.2.2.1)))
   else
    some (.next ((bo .i64 x 1),(l2++[(⟨y1.1,y1.2.1⟩:Bi)]),y1.2.2.1,y1.2.2.2,mp2)))
  else
   some (.out (.inr (l2,l3,aw,mp1))))
def cY (aa:Int) (ag:List Point) (ae:List Node) (ak:Int) (f:Bj) (box:Box) (fixed:Bool) (stt:Int×(List Bi)×(List (List Int))×Int×(List (List UInt8×Tree))):Option (Lp (Int×(List Bi)×(List (List Int))×Int×(List (List UInt8×Tree))) ((Int×Int×Int×Int×(List Bi)×Bool×Int×(List (List UInt8×Tree))×(List (List Int))) ⊕ ((List Bi)×(List (List Int))×Int×(List (List UInt8×Tree))))):=match stt with
 | (y,l,l1,aj,mp) =>
  (bif (ltB y (bo .i64 box.Y box.H)) then
   (ba (cq aa ag ae ak f box fixed y) bp (box.X,l,l1,aj,mp)).bind fun o=>match o with
    | .inl r =>
     some (.out (.inl r))
    | .inr (l2,l3,aw,mp1) =>
     some (.next ((bo .i64 y 1),l2,l3,aw,mp1))
  else
   some (.out (.inr (l,l1,aj,mp))))
def dv (ab:Int) (ah:List (List Int)) (aa:Int) (ag:List Point) (ae:List Node) (ak:Int) (ai:List (List UInt8×Tree)) (f:Bj) (box:Box) (fixed:Bool):Option (Int×Int×Int×Int×(List Bi)×Bool×Int×(List (List UInt8×Tree))×(List (List Int))) :=
 (ba (cY aa ag ae ak f box fixed) bp (box.Y,[],ah,ab,ai)).bind fun o=>match o with
  | .inl r =>
   some r
  | .inr (l,l1,aj,mp) =>
   some (box.X,box.Y,box.W,box.H,l,true,aj,mp,l1)
def ff (f:Bj) (x y:Int):Option (Bool) :=
 ((bif (geB x f.box.X) then
  (bif (ltB x (bo .i64 f.box.X f.box.W)) then
   (bif (geB y f.box.Y) then
    some (ltB y (bo .i64 f.box.Y f.box.H))
   else
    some false)
  else
   some false)
 else
  some false)).bind fun a =>
 some a
def dV (ab aa:Int) (ag:List Point) (ae:List Node) (ak:Int) (ai:List (List UInt8×Tree)) (vars:List Int) (cv:Int) (stt:Int×(List (List Int))):Option (Lp (Int×(List (List Int))) ((List (List Int)))):=match stt with
 | (a,l) =>
  (bif (ltB a (b8 vars)) then
   (idx vars a).bind fun x =>
   ((ishr .i64 cv a).bind fun n =>
   (bif (eqB (iand .i64 n 1) 0) then
    some (cz .i64 x)
   else
    some x)).bind fun v =>
   (cp ab l aa ag ae ak ai [v]).bind fun _y =>
   some (.next ((bo .i64 a 1),(l++[[v]])))
  else
   some (.out l))
def cH (ab:Int) (ah:List (List Int)) (aa:Int) (ag:List Point) (ae:List Node) (ak:Int) (ai:List (List UInt8×Tree)) (vars:List Int) (cv:Int):Option (List (List Int)) :=
 (ba (dV ab aa ag ae ak ai vars cv) bp (0,ah)).bind fun l =>
 some l
def eS (x:Bg) (y1:Int×(List Point)×(List Node)×Int) (_y2:Int) (y3:(List Bi)×(List (List Int))×Int) (_a x1:Int) (stt:Int×(List (List Int))):Option (Lp (Int×(List (List Int))) ((List (List Int)))):=match stt with
 | (a1,l1) =>
  (bif (ltB a1 (b8 y3.1)) then
   (idx y3.1 a1).bind fun x2 =>
   (irem a1 x.W).bind fun n =>
   (iquo .i64 a1 x.W).bind fun n1 =>
   (fe x1 (⟨(⟨0,0,x.W,x.H⟩:Box).X,(⟨0,0,x.W,x.H⟩:Box).Y,(⟨0,0,x.W,x.H⟩:Box).W,(⟨0,0,x.W,x.H⟩:Box).H⟩:Box) (⟨n,n1⟩:Point)).bind fun y4 =>
   (dS (⟨⟨(⟨0,0,x.W,x.H⟩:Box).X,(⟨0,0,x.W,x.H⟩:Box).Y,(⟨0,0,x.W,x.H⟩:Box).W,(⟨0,0,x.W,x.H⟩:Box).H⟩,y3.1⟩:Bj) y4.X y4.Y).bind fun y5 =>
   (neE x2.vars).bind fun _u =>
   (neE y5.vars).bind fun _u1 =>
   (du y3.2.2 l1 y1.1 y1.2.1 y1.2.2.1 y1.2.2.2 [] x2.vars y5.vars).bind fun y6 =>
   some (.next ((bo .i64 a1 1),y6))
  else
   some (.out l1))
def eQ (x:Bg) (y1:Int×(List Point)×(List Node)×Int) (y2:Int) (y3:(List Bi)×(List (List Int))×Int) (stt:Int×(List (List Int))):Option (Lp (Int×(List (List Int))) ((List (List Int)))):=match stt with
 | (a,l) =>
  (bif (ltB a (b8 x.Syms)) then
   (idx x.Syms a).bind fun x1 =>
   (ba (eS x y1 y2 y3 a x1) bp (0,l)).bind fun l1 =>
   some (.next ((bo .i64 a 1),l1))
  else
   some (.out l))
def ei (x:Bg) (y1:Int×(List Point)×(List Node)×Int) (y2:Int) (_y3:(List Bi)×(List (List Int))×Int) (stt:Int×Int×Int×Int×Int×(List Bi)×(List (List UInt8×Tree))×Int×(List (List Int))):Option (Lp (Int×Int×Int×Int×Int×(List Bi)×(List (List UInt8×Tree))×Int×(List (List Int))) ((Bh×Int×Int) ⊕ (Int×Int×Int×Int×(List Bi)×(List (List UInt8×Tree))×Int×(List (List Int))))):=match stt with
 | (gv,ar,aq,au,av,al,mp,ab,l1) =>
  (bif (leB gv x.Gens) then
   (dv ab l1 y1.1 y1.2.1 y1.2.2.1 y1.2.2.2 mp (⟨⟨ar,aq,au,av⟩,al⟩:Bj) (⟨(ck .i64 (cz .i64 gv) y2),(ck .i64 (cz .i64 gv) y2),(bo .i64 x.W (ck .i64 (ck .i64 2 gv) y2)),(bo .i64 x.H (ck .i64 (ck .i64 2 gv) y2))⟩:Box) true).bind fun y4 =>
   (bif (cy y4.2.2.2.2.2.1) then
    some (.out (.inl ((⟨0,[]⟩:Bh),0,6)))
   else
    some (.next ((bo .i64 gv 1),y4.1,y4.2.1,y4.2.2.1,y4.2.2.2.1,y4.2.2.2.2.1,y4.2.2.2.2.2.2.2.1,y4.2.2.2.2.2.2.1,y4.2.2.2.2.2.2.2.2)))
  else
   some (.out (.inr (ar,aq,au,av,al,mp,ab,l1))))
def eU (x:Bg) (y1:Int×(List Point)×(List Node)×Int) (y3:(List Bi)×(List (List Int))×Int) (ar aq au _av:Int) (al:List Bi) (mp:List (List UInt8×Tree)) (ab:Int) (stt:Int×(List (List Int))):Option (Lp (Int×(List (List Int))) ((List (List Int)))):=match stt with
 | (a,l2) =>
  (bif (ltB a (b8 al)) then
   ((idx al a).bind fun x1 =>
   (irem a au).bind fun n =>
   (iquo .i64 a au).bind fun n1 =>
   (ff (⟨⟨(⟨0,0,x.W,x.H⟩:Box).X,(⟨0,0,x.W,x.H⟩:Box).Y,(⟨0,0,x.W,x.H⟩:Box).W,(⟨0,0,x.W,x.H⟩:Box).H⟩,y3.1⟩:Bj) (bL .i64 (bo .i64 ar n) x.DX) (bL .i64 (bo .i64 aq n1) x.DY)).bind fun y4 =>
   ((bif (cy (isE x1.vars)) then
    some y4
   else
    some false)).bind fun a1 =>
   (bif a1 then
    (dS (⟨⟨(⟨0,0,x.W,x.H⟩:Box).X,(⟨0,0,x.W,x.H⟩:Box).Y,(⟨0,0,x.W,x.H⟩:Box).W,(⟨0,0,x.W,x.H⟩:Box).H⟩,y3.1⟩:Bj) (bL .i64 (bo .i64 ar n) x.DX) (bL .i64 (bo .i64 aq n1) x.DY)).bind fun y5 =>
    (neE x1.vars).bind fun _u =>
    (neE y5.vars).bind fun _u1 =>
    (du ab l2 y1.1 y1.2.1 y1.2.2.1 y1.2.2.2 mp x1.vars y5.vars).bind fun y6 =>
    some y6
   else
    (bif (cy (isE x1.vars)) then
     (neE x1.vars).bind fun _u =>
     (cH ab l2 y1.1 y1.2.1 y1.2.2.1 y1.2.2.2 mp x1.vars 0).bind fun y5 =>
     some y5
    else
     (bif y4 then
      (dS (⟨⟨(⟨0,0,x.W,x.H⟩:Box).X,(⟨0,0,x.W,x.H⟩:Box).Y,(⟨0,0,x.W,x.H⟩:Box).W,(⟨0,0,x.W,x.H⟩:Box).H⟩,y3.1⟩:Bj) (bL .i64 (bo .i64 ar n) x.DX) (bL .i64 (bo .i64 aq n1) x.DY)).bind fun y5 =>
      (neE y5.vars).bind fun _u =>
      (cH ab l2 y1.1 y1.2.1 y1.2.2.1 y1.2.2.2 mp y5.vars 0).bind fun y6 =>
      some y6
     else
      some l2)))).bind fun l3 =>
   some (.next ((bo .i64 a 1),l3))
  else
   some (.out l2))
def eP (x:Bg) (y1:Int×(List Point)×(List Node)×Int) (y3:(List Bi)×(List (List Int))×Int) (ar aq au av:Int) (al:List Bi) (mp:List (List UInt8×Tree)) (ab:Int) (stt:Int×(List (List Int))):Option (Lp (Int×(List (List Int))) ((List (List Int)))):=match stt with
 | (a,l3) =>
  (bif (ltB a (b8 y3.1)) then
   ((idx y3.1 a).bind fun x1 =>
   (irem a x.W).bind fun n =>
   (iquo .i64 a x.W).bind fun n1 =>
   (ff (⟨⟨ar,aq,au,av⟩,al⟩:Bj) (bo .i64 n x.DX) (bo .i64 n1 x.DY)).bind fun y4 =>
   (bif (cy y4) then
    (neE x1.vars).bind fun _u =>
    (cH ab l3 y1.1 y1.2.1 y1.2.2.1 y1.2.2.2 mp x1.vars 0).bind fun y5 =>
    some y5
   else
    some l3)).bind fun l4 =>
   some (.next ((bo .i64 a 1),l4))
  else
   some (.out l3))
def ek (t:Tree) (x:Bg):Option (Bh×Int×Int) :=
 (fi t x).bind fun y =>
 (bif (neB y 0) then
  some ((⟨0,[]⟩:Bh),0,y)
 else
  (iq t).bind fun y1 =>
  (fQ t.Hood).bind fun y2 =>
  (dw 0 [] y1.1 y1.2.1 y1.2.2.1 y1.2.2.2 [] (⟨0,0,x.W,x.H⟩:Box)).bind fun y3 =>
  (ba (eQ x y1 y2 y3) bp (0,y3.2.1)).bind fun l =>
  (ba (ei x y1 y2 y3) bp (1,(⟨0,0,x.W,x.H⟩:Box).X,(⟨0,0,x.W,x.H⟩:Box).Y,(⟨0,0,x.W,x.H⟩:Box).W,(⟨0,0,x.W,x.H⟩:Box).H,y3.1,[],y3.2.2,l)).bind fun o=>match o with
   | .inl r =>
    some r
   | .inr (ar,aq,au,av,al,mp,ab,l1) =>
    (ba (eU x y1 y3 ar aq au av al mp ab) bp (0,l1)).bind fun l2 =>
    (ba (eP x y1 y3 ar aq au av al mp ab) bp (0,l2)).bind fun l3 =>
    (cJ ab l3 y1.1 y1.2.1 y1.2.2.1 y1.2.2.2 mp).bind fun y4 =>
    (bif y4 then
     some ((⟨0,[]⟩:Bh),0,6)
    else
     some ((⟨ab,l3⟩:Bh),y3.2.2,0)))
def qn (w hv edge:Int):Option (Bool) :=
 ((bif (geB w 1) then
  (bif (leB w 256) then
   (bif (geB hv 1) then
    (bif (leB hv 256) then
     (bif (leB (ck .i64 w hv) 4096) then
      (bif (geB edge 0) then
       some (leB edge 2)
      else
       some false)
     else
      some false)
    else
     some false)
   else
    some false)
  else
   some false)
 else
  some false)).bind fun a =>
 some a
def nO (s:Int):Option (Bool) :=
 ((bif (ltB s 0) then
  some true
 else
  some (geB s 8))).bind fun a =>
 some a
def df (s:List Int) (stt:Int):Option (Lp (Int) (Int ⊕ Unit)):=match stt with
 | a =>
  (bif (ltB a (b8 s)) then
   (idx s a).bind fun x =>
   (nO x).bind fun y =>
   (bif y then
    some (.out (.inl a))
   else
    some (.next (bo .i64 a 1)))
  else
   some (.out (.inr ())))
def dt (s:List Int):Option (Int) :=
 (ba (df s) bp 0).bind fun o=>match o with
  | .inl r =>
   some r
  | .inr _u =>
   some (-1)
def d9 (s:List Int):Option (Bool) :=
 (dt s).bind fun y =>
 some (geB y 0)
def qg (gv:Grid):Option (Bool) :=
 ((qn gv.W gv.H gv.Edge).bind fun y =>
 (bif y then
  (bif (eqB (b8 gv.Cells) (ck .i64 gv.W gv.H)) then
   (d9 gv.Cells).bind fun y1 =>
   some (cy y1)
  else
   some false)
 else
  some false)).bind fun a =>
 some a
def kH (s:Int) (a:Tree):Option (Bool) :=
 some (geB s a.States)
def cQ (s:List Int) (cv:Tree) (stt:Int):Option (Lp (Int) (Int ⊕ Unit)):=match stt with
 | a =>
  (bif (ltB a (b8 s)) then
   (idx s a).bind fun x =>
   (kH x cv).bind fun y =>
   (bif y then
    some (.out (.inl a))
   else
    some (.next (bo .i64 a 1)))
  else
   some (.out (.inr ())))
def cV (s:List Int) (cv:Tree):Option (Int) :=
 (ba (cQ s cv) bp 0).bind fun o=>match o with
  | .inl r =>
   some r
  | .inr _u =>
   some (-1)
def cK (s:List Int) (cv:Tree):Option (Bool) :=
 (cV s cv).bind fun y =>
 some (geB y 0)
def fO (_ab:Int) (ah:List (List Int)) (_aa:Int) (_ag:List Point) (_ae:List Node) (_ak:Int) (_ai:List (List UInt8×Tree)):Option (Unit) :=
 (eT 24 ah [[]]).bind fun _l =>
 some ()
def kw (gv:Grid) (y3:Int) (y4:Int×(List Point)×(List Node)×Int) (y5:(List Bi)×(List (List Int))×Int) (stt:Int×(List (List UInt8×Tree))×Int×(List (List Int))):Option (Lp (Int×(List (List UInt8×Tree))×Int×(List (List Int))) ((Bh×Int×Int) ⊕ ((List (List UInt8×Tree))×Int×(List (List Int))))):=match stt with
 | (a,mp,ab,l) =>
  (bif (ltB a (b8 gv.Cells)) then
   (idx gv.Cells a).bind fun x =>
   (irem a gv.W).bind fun n =>
   (iquo .i64 a gv.W).bind fun n1 =>
   (dv ab l y4.1 y4.2.1 y4.2.2.1 y4.2.2.2 mp (⟨⟨(⟨(cz .i64 y3),(cz .i64 y3),(bo .i64 gv.W (ck .i64 2 y3)),(bo .i64 gv.H (ck .i64 2 y3))⟩:Box).X,(⟨(cz .i64 y3),(cz .i64 y3),(bo .i64 gv.W (ck .i64 2 y3)),(bo .i64 gv.H (ck .i64 2 y3))⟩:Box).Y,(⟨(cz .i64 y3),(cz .i64 y3),(bo .i64 gv.W (ck .i64 2 y3)),(bo .i64 gv.H (ck .i64 2 y3))⟩:Box).W,(⟨(cz .i64 y3),(cz .i64 y3),(bo .i64 gv.W (ck .i64 2 y3)),(bo .i64 gv.H (ck .i64 2 y3))⟩:Box).H⟩,y5.1⟩:Bj) (⟨n,n1,1,1⟩:Box) false).bind fun y6 =>
   (bif (cy y6.2.2.2.2.2.1) then
    some (.out (.inl ((⟨0,[]⟩:Bh),0,6)))
   else
    (idx y6.2.2.2.2.1 0).bind fun x1 =>
    (bif (cy (isE x1.vars)) then
     (neE x1.vars).bind fun _u =>
     (cH y6.2.2.2.2.2.2.1 y6.2.2.2.2.2.2.2.2 y4.1 y4.2.1 y4.2.2.1 y4.2.2.2 y6.2.2.2.2.2.2.2.1 x1.vars x).bind fun y7 =>
     some (.next ((bo .i64 a 1),y6.2.2.2.2.2.2.2.1,y6.2.2.2.2.2.2.1,y7))
    else
     (bif (neB x1.constant x) then
      (fO y6.2.2.2.2.2.2.1 y6.2.2.2.2.2.2.2.2 y4.1 y4.2.1 y4.2.2.1 y4.2.2.2 y6.2.2.2.2.2.2.2.1).bind fun _y7 =>
      some (.next ((bo .i64 a 1),y6.2.2.2.2.2.2.2.1,y6.2.2.2.2.2.2.1,(y6.2.2.2.2.2.2.2.2++[[]])))
     else
      some (.next ((bo .i64 a 1),y6.2.2.2.2.2.2.2.1,y6.2.2.2.2.2.2.1,y6.2.2.2.2.2.2.2.2)))))
  else
   some (.out (.inr (mp,ab,l))))
def m5 (t:Tree) (gv:Grid):Option (Bh×Int×Int) :=
 (gO t).bind fun y =>
 (bif (cy y) then
  some ((⟨0,[]⟩:Bh),0,11)
 else
  (qg gv).bind fun y1 =>
  (bif (cy y1) then
   some ((⟨0,[]⟩:Bh),0,2)
  else
   (cK gv.Cells t).bind fun y2 =>
   (bif y2 then
    some ((⟨0,[]⟩:Bh),0,10)
   else
    (fQ t.Hood).bind fun y3 =>
    (bif (gtB (ck .i64 (bo .i64 gv.W (ck .i64 2 y3)) (bo .i64 gv.H (ck .i64 2 y3))) 16) then
     some ((⟨0,[]⟩:Bh),0,6)
    else
     (iq t).bind fun y4 =>
     (dw 0 [] y4.1 y4.2.1 y4.2.2.1 y4.2.2.2 [] (⟨(cz .i64 y3),(cz .i64 y3),(bo .i64 gv.W (ck .i64 2 y3)),(bo .i64 gv.H (ck .i64 2 y3))⟩:Box)).bind fun y5 =>
     (ba (kw gv y3 y4 y5) bp (0,[],y5.2.2,y5.2.1)).bind fun o=>match o with
      | .inl r =>
       some r
      | .inr (mp,ab,l) =>
       (cJ ab l y4.1 y4.2.1 y4.2.2.1 y4.2.2.2 mp).bind fun y6 =>
       (bif y6 then
        some ((⟨0,[]⟩:Bh),0,6)
       else
        some ((⟨ab,l⟩:Bh),y5.2.2,0))))))
def iX (cv:Cell) (a:Bg):Option (Bool) :=
 ((bif (ltB cv.X 0) then
  some true
 else
  (bif (geB cv.X a.W) then
   some true
  else
   (bif (ltB cv.Y 0) then
    some true
   else
    some (geB cv.Y a.H))))).bind fun a1 =>
 some a1
def bv (s:List Cell) (cv:Bg) (stt:Int):Option (Lp (Int) (Int ⊕ Unit)):=match stt with
 | a =>
  (bif (ltB a (b8 s)) then
   (idx s a).bind fun x =>
   (iX x cv).bind fun y =>
   (bif y then
    some (.out (.inl a))
   else
    some (.next (bo .i64 a 1)))
  else
   some (.out (.inr ())))
def bT (s:List Cell) (cv:Bg):Option (Int) :=
 (ba (bv s cv) bp 0).bind fun o=>match o with
  | .inl r =>
   some r
  | .inr _u =>
   some (-1)
def bF (s:List Cell) (cv:Bg):Option (Bool) :=
 (bT s cv).bind fun y =>
 some (geB y 0)
def fw (x:Bg) (_p:List Cell) (y2 _a1:Int) (_out:List Bool) (x1:Cell) (stt:Int×(List Bool)):Option (Lp (Int×(List Bool)) ((List Bool))):=match stt with
 | (a2,aC) =>
  (bif (ltB a2 y2) then
   (ishr .i64 x1.S a2).bind fun n =>
   (idx aC (bo .i64 (ck .i64 (bo .i64 (ck .i64 x1.Y x.W) x1.X) y2) a2)).bind fun _x2 =>
   some (.next ((bo .i64 a2 1),(aC.set (bo .i64 (ck .i64 (bo .i64 (ck .i64 x1.Y x.W) x1.X) y2) a2).toNat (eqB (iand .i64 n 1) 1))))
  else
   some (.out aC))
def fp (x:Bg) (p:List Cell) (y2:Int) (stt:Int×(List Bool)):Option (Lp (Int×(List Bool)) ((List Bool))):=match stt with
 | (a1,out) =>
  (bif (ltB a1 (b8 p)) then
   (idx p a1).bind fun x1 =>
   (ba (fw x p y2 a1 out x1) bp (0,out)).bind fun aC =>
   some (.next ((bo .i64 a1 1),aC))
  else
   some (.out out))
def gU (t:Tree) (x:Bg) (p:List Cell):Option ((List Bool)×Int) :=
 (fi t x).bind fun y =>
 (bif (neB y 0) then
  some ([],y)
 else
  ((eI p).bind fun y1 =>
  (bif (cy y1) then
   some true
  else
   (bF p x).bind fun y2 =>
   some y2)).bind fun a =>
  (bif a then
   some ([],2)
  else
   (fP p).bind fun y1 =>
   (bif (geB y1 t.States) then
    some ([],10)
   else
    (iS t.States).bind fun y2 =>
    (mkL 1 (ck .i64 (ck .i64 x.W x.H) y2) (ck .i64 (ck .i64 x.W x.H) y2) false).bind fun _l =>
    (ba (fp x p y2) bp (0,(List.replicate (ck .i64 (ck .i64 x.W x.H) y2).toNat false))).bind fun out =>
    some (out,0))))
def mB (l:List Bool) (stt:Int×Int):Option (Lp (Int×Int) (Int)):=match stt with
 | (n,a) =>
  (bif (ltB a (b8 l)) then
   ((idx l a).bind fun x =>
   (bif x then
    (ishl .i64 1 a).bind fun n1 =>
    some (ior .i64 n n1)
   else
    some n)).bind fun n1 =>
   some (.next (n1,(bo .i64 a 1)))
  else
   some (.out n))
def oQ (l:List Bool):Option (Int) :=
 (bif (gtB (b8 l) 8) then
  some 0
 else
  (ba (mB l) bp (0,0)).bind fun n =>
  some n)
def ky (t:Tree) (x:Bg) (l:List Bool) (y1:Int) (stt:Int×(List Cell)):Option (Lp (Int×(List Cell)) (((List Cell)×Int) ⊕ (List Cell))):=match stt with
 | (a,out) =>
  (bif (ltB a (ck .i64 x.W x.H)) then
   (slcL l (ck .i64 a y1) (ck .i64 (bo .i64 a 1) y1)).bind fun l1 =>
   (oQ l1).bind fun y2 =>
   (bif (geB y2 t.States) then
    some (.out (.inl ([],10)))
   else
    (bif (gtB y2 0) then
     (irem a x.W).bind fun n =>
     (iquo .i64 a x.W).bind fun n1 =>
     (eT 24 out [(⟨n,n1,y2⟩:Cell)]).bind fun _l2 =>
     some (.next ((bo .i64 a 1),(out++[(⟨n,n1,y2⟩:Cell)])))
    else
     some (.next ((bo .i64 a 1),out))))
  else
   some (.out (.inr out)))
def lU (t:Tree) (x:Bg) (l:List Bool):Option ((List Cell)×Int) :=
 (fi t x).bind fun y =>
 (bif (neB y 0) then
  some ([],y)
 else
  (iS t.States).bind fun y1 =>
  (bif (neB (b8 l) (ck .i64 (ck .i64 x.W x.H) y1)) then
   some ([],2)
  else
   (ba (ky t x l y1) bp (0,[])).bind fun o=>match o with
    | .inl r =>
     some r
    | .inr out =>
     some (out,0)))
def oJ (_a _b:Bh) (_i:Int) (x x1:List Int) (stt:Int):Option (Lp (Int) (Bool ⊕ Unit)):=match stt with
 | k =>
  (bif (ltB k (b8 x)) then
   (idx x k).bind fun x2 =>
   (idx x1 k).bind fun x3 =>
   (bif (neB x2 x3) then
    some (.out (.inl false))
   else
    some (.next (bo .i64 k 1)))
  else
   some (.out (.inr ())))
def oK (a b:Bh) (stt:Int):Option (Lp (Int) (Bool ⊕ Unit)):=match stt with
 | i =>
  (bif (ltB i (b8 a.Clauses)) then
   (idx a.Clauses i).bind fun x =>
   (idx b.Clauses i).bind fun x1 =>
   (bif (neB (b8 x) (b8 x1)) then
    some (.out (.inl false))
   else
    (ba (oJ a b i x x1) bp 0).bind fun o=>match o with
     | .inl r =>
      some (.out (.inl r))
     | .inr _u =>
      some (.next (bo .i64 i 1)))
  else
   some (.out (.inr ())))
def oD (a b:Bh):Option (Bool) :=
 ((bif (neB a.Vars b.Vars) then
  some true
 else
  some (neB (b8 a.Clauses) (b8 b.Clauses)))).bind fun a1 =>
 (bif a1 then
  some false
 else
  (ba (oK a b) bp 0).bind fun o=>match o with
   | .inl r =>
    some r
   | .inr _u =>
    some true)
def eZ (a b:Int):Option (Int) :=
 (bif (ltB a b) then
  some (-1)
 else
  (bif (gtB a b) then
   some 1
  else
   some 0))
def fh (a b:List Cell) (stt:Int):Option (Lp (Int) (Int ⊕ Unit)):=match stt with
 | i =>
  ((bif (ltB i (b8 a)) then
   some (ltB i (b8 b))
  else
   some false)).bind fun a1 =>
  (bif a1 then
   (idx a i).bind fun x =>
   (idx b i).bind fun x1 =>
   (bif (neB x.Y x1.Y) then
    (eZ x.Y x1.Y).bind fun y =>
    some (.out (.inl y))
   else
    (bif (neB x.X x1.X) then
     (eZ x.X x1.X).bind fun y =>
     some (.out (.inl y))
    else
     (bif (neB x.S x1.S) then
      (eZ x.S x1.S).bind fun y =>
      some (.out (.inl y))
     else
      some (.next (bo .i64 i 1)))))
  else
   some (.out (.inr ())))
def kd (a b:List Cell):Option (Int) :=
 (ba (fh a b) bp 0).bind fun o=>match o with
  | .inl r =>
   some r
  | .inr _u =>
   (eZ (b8 a) (b8 b)).bind fun y =>
   some y
def jI (a b:List Cell):Option (Bool) :=
 (kd a b).bind fun y =>
 some (eqB y 0)
def kM:Option (Bool) :=
 (m_L45_keep).bind fun y =>
 (ek y (⟨1,1,1,0,0,[]⟩:Bg)).bind fun y1 =>
 (m5 y (⟨1,1,0,[1]⟩:Grid)).bind fun y2 =>
 (gU y (⟨1,1,1,0,0,[]⟩:Bg) [(⟨0,0,1⟩:Cell)]).bind fun y3 =>
 (lU y (⟨1,1,1,0,0,[]⟩:Bg) [true]).bind fun y4 =>
 (ek (⟨0,[],[]⟩:Tree) (⟨1,1,1,0,0,[]⟩:Bg)).bind fun y5 =>
 ((bif (eqB y1.2.2 0) then
  (bif (eqB y1.2.1 1) then
   (oD y1.1 (⟨2,[[1,(-2)],[(-1),2],[(-2),1],[2,(-1)]]⟩:Bh)).bind fun y6 =>
   (bif y6 then
    (bif (eqB y2.2.2 0) then
     (bif (eqB y2.2.1 1) then
      (oD y2.1 (⟨2,[[1,(-2)],[(-1),2],[2]]⟩:Bh)).bind fun y7 =>
      (bif y7 then
       (bif (eqB y3.2 0) then
        (bif (eqB (b8 y3.1) 1) then
         (idx y3.1 0).bind fun x =>
         (bif x then
          (bif (eqB y4.2 0) then
           (jI y4.1 [(⟨0,0,1⟩:Cell)]).bind fun y8 =>
           (bif y8 then
            some (eqB y5.2.2 11)
           else
            some false)
          else
           some false)
         else
          some false)
        else
         some false)
       else
        some false)
      else
       some false)
     else
      some false)
    else
     some false)
   else
    some false)
  else
   some false)
 else
  some false)).bind fun a =>
 some a
def lm (a b:Point):Option (Bool) :=
 ((bif (ltB a.Y b.Y) then
  some true
 else
  (bif (eqB a.Y b.Y) then
   some (ltB a.X b.X)
  else
   some false))).bind fun a1 =>
 some a1
def jZ (l:List Point) (stt:Int):Option (Lp (Int) (Bool ⊕ Unit)):=match stt with
 | i =>
  (bif (ltB i (b8 l)) then
   (idx l i).bind fun x =>
   ((bif (ltB x.X (-2)) then
    some true
   else
    (bif (gtB x.X 2) then
     some true
    else
     (bif (ltB x.Y (-2)) then
      some true
     else
      (bif (gtB x.Y 2) then
       some true
      else
       (bif (gtB i 0) then
        (idx l (bL .i64 i 1)).bind fun x1 =>
        (lm x1 x).bind fun y =>
        some (cy y)
       else
        some false)))))).bind fun a1 =>
   (bif a1 then
    some (.out (.inl false))
   else
    some (.next (bo .i64 i 1)))
  else
   some (.out (.inr ())))
def mq (l:List Point):Option (Bool) :=
 ((bif (ltB (b8 l) 1) then
  some true
 else
  some (gtB (b8 l) 25))).bind fun a =>
 (bif a then
  some false
 else
  (ba (jZ l) bp 0).bind fun o=>match o with
   | .inl r =>
    some r
   | .inr _u =>
    some true)
def jg (t:Tree) (i:Int) (x:Node) (stt:Int):Option (Lp (Int) (Bool ⊕ Unit)):=match stt with
 | s =>
  (bif (ltB s t.States) then
   (idx x.Next s).bind fun x1 =>
   (bif (ltB x1 0) then
    some (.out (.inl false))
   else
    ((bif (eqB x.Level 1) then
     some (geB x1 t.States)
    else
     some false)).bind fun a2 =>
    (bif a2 then
     some (.out (.inl false))
    else
     ((bif (gtB x.Level 1) then
      (bif (geB x1 i) then
       some true
      else
       (idx t.Nodes x1).bind fun x2 =>
       some (neB x2.Level (bL .i64 x.Level 1)))
     else
      some false)).bind fun a3 =>
     (bif a3 then
      some (.out (.inl false))
     else
      some (.next (bo .i64 s 1)))))
  else
   some (.out (.inr ())))
def jh (t:Tree) (stt:Int):Option (Lp (Int) (Bool ⊕ Unit)):=match stt with
 | i =>
  (bif (ltB i (b8 t.Nodes)) then
   (idx t.Nodes i).bind fun x =>
   ((bif (ltB x.Level 1) then
    some true
   else
    (bif (gtB x.Level (b8 t.Hood)) then
     some true
    else
     some (neB (b8 x.Next) t.States)))).bind fun a1 =>
   (bif a1 then
    some (.out (.inl false))
   else
    (ba (jg t i x) bp 0).bind fun o=>match o with
     | .inl r =>
      some (.out (.inl r))
     | .inr _u =>
      some (.next (bo .i64 i 1)))
  else
   some (.out (.inr ())))
def kT (t:Tree):Option (Bool) :=
 ((bif (ltB t.States 2) then
  some true
 else
  (bif (gtB t.States 8) then
   some true
  else
   (mq t.Hood).bind fun y =>
   (bif (cy y) then
    some true
   else
    (bif (ltB (b8 t.Nodes) 1) then
     some true
    else
     some (gtB (b8 t.Nodes) 4096)))))).bind fun a =>
 (bif a then
  some false
 else
  (ba (jh t) bp 0).bind fun o=>match o with
   | .inl r =>
    some r
   | .inr _u =>
    (idx t.Nodes (bL .i64 (b8 t.Nodes) 1)).bind fun x =>
    some (eqB x.Level (b8 t.Hood)))
def je (t:Tree) (in_:List Int) (stt:Int×Int):Option (Lp (Int×Int) (Int)):=match stt with
 | (k,i) =>
  (bif (ltB i (b8 in_)) then
   (idx t.Nodes k).bind fun x =>
   (idx in_ i).bind fun x1 =>
   (idx x.Next x1).bind fun x2 =>
   some (.next (x2,(bo .i64 i 1)))
  else
   some (.out k))
def kP (t:Tree) (in_:List Int):Option (Int) :=
 (ba (je t in_) bp ((bL .i64 (b8 t.Nodes) 1),0)).bind fun k =>
 some k
def lH (t:Tree) (in_:List Int) (stt:Int):Option (Lp (Int) ((Int×Int) ⊕ Unit)):=match stt with
 | i =>
  (bif (ltB i (b8 in_)) then
   ((idx in_ i).bind fun x =>
   (bif (ltB x 0) then
    some true
   else
    some (geB x t.States))).bind fun a =>
   (bif a then
    some (.out (.inl (0,10)))
   else
    some (.next (bo .i64 i 1)))
  else
   some (.out (.inr ())))
def pP (t:Tree) (in_:List Int):Option (Int×Int) :=
 (kT t).bind fun y =>
 (bif (cy y) then
  some (0,11)
 else
  (bif (neB (b8 in_) (b8 t.Hood)) then
   some (0,2)
  else
   (ba (lH t in_) bp 0).bind fun o=>match o with
    | .inl r =>
     some r
    | .inr _u =>
     (kP t in_).bind fun y1 =>
     some (y1,0)))
def kN (t:Tree):Option (Bool) :=
 (kT t).bind fun y =>
 (bif (cy y) then
  some false
 else
  (mkL 8 (b8 t.Hood) (b8 t.Hood) 0).bind fun _l =>
  (pP t (List.replicate (b8 t.Hood).toNat 0)).bind fun y1 =>
  some (eqB y1.1 0))
def kZ (x:Bg) (i x1 stt:Int):Option (Lp (Int) (Int ⊕ Unit)):=match stt with
 | k =>
  (bif (ltB k i) then
   (idx x.Syms k).bind fun x2 =>
   (bif (eqB x2 x1) then
    some (.out (.inl 2))
   else
    some (.next (bo .i64 k 1)))
  else
   some (.out (.inr ())))
def kU (x:Bg) (stt:Int):Option (Lp (Int) (Int ⊕ Unit)):=match stt with
 | i =>
  (bif (ltB i (b8 x.Syms)) then
   (idx x.Syms i).bind fun x1 =>
   ((bif (ltB x1 0) then
    some true
   else
    (bif (gtB x1 7) then
     some true
    else
     (irem x1 2).bind fun n =>
     (bif (eqB n 1) then
      some (neB x.W x.H)
     else
      some false)))).bind fun a3 =>
   (bif a3 then
    some (.out (.inl 2))
   else
    (ba (kZ x i x1) bp 0).bind fun o=>match o with
     | .inl r =>
      some (.out (.inl r))
     | .inr _u =>
      some (.next (bo .i64 i 1)))
  else
   some (.out (.inr ())))
def pz (x:Bg):Option (Int) :=
 ((bif (ltB x.W 1) then
  some true
 else
  some (ltB x.H 1))).bind fun a =>
 (bif a then
  some 2
 else
  ((bif (gtB x.W 16) then
   some true
  else
   (bif (gtB x.H 16) then
    some true
   else
    some (gtB (ck .i64 x.W x.H) 16)))).bind fun a1 =>
  (bif a1 then
   some 6
  else
   ((bif (ltB x.Gens 1) then
    some true
   else
    (bif (gtB x.Gens 6) then
     some true
    else
     (bif (ltB x.DX (-24)) then
      some true
     else
      (bif (gtB x.DX 24) then
       some true
      else
       (bif (ltB x.DY (-24)) then
        some true
       else
        some (gtB x.DY 24))))))).bind fun a2 =>
   (bif a2 then
    some 2
   else
    (ba (kU x) bp 0).bind fun o=>match o with
     | .inl r =>
      some r
     | .inr _u =>
      some 0)))
def mm (t:Tree) (x:Bg):Option (Int) :=
 (kN t).bind fun y =>
 (bif (cy y) then
  some 11
 else
  (pz x).bind fun y1 =>
  some y1)
def jK (x y:Int):Option (Bool) :=
 ((bif (geB x (-1048576)) then
  (bif (leB x 1048576) then
   (bif (geB y (-1048576)) then
    some (leB y 1048576)
   else
    some false)
  else
   some false)
 else
  some false)).bind fun a =>
 some a
def iE (a b:Cell):Option (Bool) :=
 ((bif (ltB a.Y b.Y) then
  some true
 else
  (bif (eqB a.Y b.Y) then
   some (ltB a.X b.X)
  else
   some false))).bind fun a1 =>
 some a1
def kj (p:List Cell) (stt:Int):Option (Lp (Int) (Bool ⊕ Unit)):=match stt with
 | i =>
  (bif (ltB i (b8 p)) then
   ((idx p i).bind fun x =>
   (jK x.X x.Y).bind fun y =>
   (bif (cy y) then
    some true
   else
    (bif (ltB x.S 1) then
     some true
    else
     (bif (geB x.S 8) then
      some true
     else
      (bif (gtB i 0) then
       (idx p (bL .i64 i 1)).bind fun x1 =>
       (iE x1 x).bind fun y1 =>
       some (cy y1)
      else
       some false))))).bind fun a =>
   (bif a then
    some (.out (.inl false))
   else
    some (.next (bo .i64 i 1)))
  else
   some (.out (.inr ())))
def jF (p:List Cell):Option (Bool) :=
 (ba (kj p) bp 0).bind fun o=>match o with
  | .inl r =>
   some r
  | .inr _u =>
   some (leB (b8 p) 5000)
def lE (t:Tree) (p:List Cell) (stt:Int):Option (Lp (Int) (Int ⊕ Unit)):=match stt with
 | i =>
  (bif (ltB i (b8 p)) then
   (idx p i).bind fun x =>
   (bif (geB x.S t.States) then
    some (.out (.inl 10))
   else
    some (.next (bo .i64 i 1)))
  else
   some (.out (.inr ())))
def kF (t:Tree) (p:List Cell):Option (Int) :=
 (kN t).bind fun y =>
 (bif (cy y) then
  some 11
 else
  (jF p).bind fun y1 =>
  (bif (cy y1) then
   some 2
  else
   (ba (lE t p) bp 0).bind fun o=>match o with
    | .inl r =>
     some r
    | .inr _u =>
     some 0))
def oB (p:Point):Option (Bool) :=
 ((bif (geB p.X (-1048576)) then
  (bif (leB p.X 1048576) then
   (bif (geB p.Y (-1048576)) then
    some (leB p.Y 1048576)
   else
    some false)
  else
   some false)
 else
  some false)).bind fun a =>
 some a
def ou (b:Box):Option (Bool) :=
 ((bif (ltB b.W 1) then
  some true
 else
  (bif (ltB b.H 1) then
   some true
  else
   (bif (gtB b.W 2097153) then
    some true
   else
    (bif (gtB b.H 2097153) then
     some true
    else
     (oB (⟨b.X,b.Y⟩:Point)).bind fun y =>
     some (cy y)))))).bind fun a =>
 (bif a then
  some false
 else
  (oB (⟨(bL .i64 (bo .i64 b.X b.W) 1),(bL .i64 (bo .i64 b.Y b.H) 1)⟩:Point)).bind fun y =>
  some y)
def m_R04_Place (p:Point):Option (Bool) :=
 ((bif (geB p.X (-1048576)) then
  (bif (leB p.X 1048576) then
   (bif (geB p.Y (-1048576)) then
    some (leB p.Y 1048576)
   else
    some false)
  else
   some false)
 else
  some false)).bind fun a =>
 some a
def m_R04_Mod (k:Int):Option (Int) :=
 (irem k 8).bind fun n =>
 (irem (bo .i64 n 8) 8).bind fun n1 =>
 some n1
def oW (k1:Int) (stt:Int×Int×Int):Option (Lp (Int×Int×Int) ((Int×Int))):=match stt with
 | (i,pX1,pY) =>
  (bif (ltB i k1) then
   some (.next ((bo .i64 i 1),(cz .i64 pY),pX1))
  else
   some (.out (pX1,pY)))
def mi (k:Int) (p:Point):Option (Point) :=
 (m_R04_Mod k).bind fun y =>
 ((bif (geB y 4) then
  some ((bL .i64 y 4),(cz .i64 p.X))
 else
  some (y,p.X))).bind fun(k1,pX) =>
 (ba (oW k1) bp (0,pX,p.Y)).bind fun(pX1,pY) =>
 some (⟨pX1,pY⟩:Point)
def m_R04_Turn (k:Int) (b:Box):Option (Box) :=
 (ou b).bind fun y =>
 (bif (cy y) then
  some (⟨0,0,0,0⟩:Box)
 else
  (mi k (⟨b.X,b.Y⟩:Point)).bind fun y1 =>
  (mi k (⟨(bL .i64 (bo .i64 b.X b.W) 1),(bL .i64 (bo .i64 b.Y b.H) 1)⟩:Point)).bind fun y2 =>
  some (⟨(nB y1.X y2.X),(nB y1.Y y2.Y),(bo .i64 (bL .i64 (fB y1.X y2.X) (nB y1.X y2.X)) 1),(bo .i64 (bL .i64 (fB y1.Y y2.Y) (nB y1.Y y2.Y)) 1)⟩:Box))
def gR (k:Int) (b:Box) (p:Point):Option (Point) :=
 ((ou b).bind fun y =>
 (bif (cy y) then
  some true
 else
  (m_R04_Place p).bind fun y1 =>
  some (cy y1))).bind fun a =>
 (bif a then
  some (⟨0,0⟩:Point)
 else
  (m_R04_Turn k b).bind fun y =>
  (mi k p).bind fun y1 =>
  some (⟨(bL .i64 y1.X y.X),(bL .i64 y1.Y y.Y)⟩:Point))
def gq (p:List Cell) (cv:Cell) (stt:Bool×Int×(List Cell)):Option (Lp (Bool×Int×(List Cell)) ((Bool×(List Cell)))):=match stt with
 | (done,i,out) =>
  (bif (ltB i (b8 p)) then
   (((bif (cy done) then
    (idx p i).bind fun x =>
    (iE cv x).bind fun y =>
    some y
   else
    some false)).bind fun a =>
   (bif a then
    (eT 24 out [cv]).bind fun _l =>
    some (true,(out++[cv]))
   else
    some (done,out))).bind fun(done1,aC) =>
   (idx p i).bind fun x =>
   (eT 24 aC [x]).bind fun _l =>
   some (.next (done1,(bo .i64 i 1),(aC++[x])))
  else
   some (.out (done,out)))
def l9 (p:List Cell) (cv:Cell):Option (List Cell) :=
 (ba (gq p cv) bp (false,0,[])).bind fun(done,out) =>
 ((bif (cy done) then
  (eT 24 out [cv]).bind fun _l =>
  some (out++[cv])
 else
  some out)).bind fun aC =>
 some aC
def iF (l:List Cell) (stt:Int):Option (Lp (Int) (((List Cell)×Int) ⊕ Unit)):=match stt with
 | i =>
  (bif (ltB i (b8 l)) then
   (idx l i).bind fun x =>
   (jK x.X x.Y).bind fun y =>
   (bif (cy y) then
    some (.out (.inl ([],5)))
   else
    ((bif (ltB x.S 0) then
     some true
    else
     some (geB x.S 8))).bind fun a =>
    (bif a then
     some (.out (.inl ([],10)))
    else
     some (.next (bo .i64 i 1))))
  else
   some (.out (.inr ())))
def iQ (l:List Cell) (stt:(List Cell)×Int):Option (Lp ((List Cell)×Int) ((List Cell))):=match stt with
 | (p,i) =>
  (bif (ltB i (b8 l)) then
   ((idx l i).bind fun x =>
   (bif (neB x.S 0) then
    (l9 p x).bind fun y =>
    some y
   else
    some p)).bind fun p1 =>
   some (.next (p1,(bo .i64 i 1)))
  else
   some (.out p))
def iR (p:List Cell) (stt:Int):Option (Lp (Int) (((List Cell)×Int) ⊕ Unit)):=match stt with
 | i =>
  (bif (ltB i (b8 p)) then
   (idx p (bL .i64 i 1)).bind fun x =>
   (idx p i).bind fun x1 =>
   (iE x x1).bind fun y =>
   (bif (cy y) then
    some (.out (.inl ([],8)))
   else
    some (.next (bo .i64 i 1)))
  else
   some (.out (.inr ())))
def lY (l:List Cell):Option ((List Cell)×Int) :=
 (ba (iF l) bp 0).bind fun o=>match o with
  | .inl r =>
   some r
  | .inr _u =>
   (ba (iQ l) bp ([],0)).bind fun p =>
   (ba (iR p) bp 1).bind fun o=>match o with
    | .inl r =>
     some r
    | .inr _u =>
     (bif (gtB (b8 p) 5000) then
      some ([],6)
     else
      some (p,0))
def jf (x:Bg) (s:Int) (p:List Cell) (stt:Int×(List Cell)):Option (Lp (Int×(List Cell)) ((List Cell))):=match stt with
 | (i,l) =>
  (bif (ltB i (b8 p)) then
   (idx p i).bind fun x1 =>
   (gR s (⟨0,0,x.W,x.H⟩:Box) (⟨x1.X,x1.Y⟩:Point)).bind fun y =>
   (eT 24 l [(⟨y.X,y.Y,x1.S⟩:Cell)]).bind fun _l1 =>
   some (.next ((bo .i64 i 1),(l++[(⟨y.X,y.Y,x1.S⟩:Cell)])))
  else
   some (.out l))
def kV (x:Bg) (s:Int) (p:List Cell):Option (List Cell) :=
 (ba (jf x s p) bp (0,[])).bind fun l =>
 (lY l).bind fun y =>
 some y.1
def jv (p:List Cell) (stt:Int×Int×Int×Int×Int):Option (Lp (Int×Int×Int×Int×Int) ((Int×Int×Int×Int))):=match stt with
 | (x1,y,right,aQ,i) =>
  (bif (ltB i (b8 p)) then
   (idx p i).bind fun x2 =>
   some (.next ((nB x1 x2.X),(nB y x2.Y),(fB right x2.X),(fB aQ x2.Y),(bo .i64 i 1)))
  else
   some (.out (x1,y,right,aQ)))
def p7 (p:List Cell):Option (Box×Bool) :=
 ((bif (eqB (b8 p) 0) then
  some true
 else
  (jF p).bind fun y =>
  some (cy y))).bind fun a =>
 (bif a then
  some ((⟨0,0,0,0⟩:Box),false)
 else
  (idx p 0).bind fun x =>
  (ba (jv p) bp (x.X,x.Y,x.X,x.Y,0)).bind fun(x1,y,right,aQ) =>
  some ((⟨x1,y,(bo .i64 (bL .i64 right x1) 1),(bo .i64 (bL .i64 aQ y) 1)⟩:Box),true))
def gp (p:List Cell) (y:Box×Bool) (stt:Int×(List Int)):Option (Lp (Int×(List Int)) ((List Int))):=match stt with
 | (i,l1) =>
  (bif (ltB i (b8 p)) then
   (idx p i).bind fun x =>
   (idx l1 (bL .i64 (bo .i64 (ck .i64 (bL .i64 x.Y y.1.Y) y.1.W) x.X) y.1.X)).bind fun _x1 =>
   some (.next ((bo .i64 i 1),(l1.set (bL .i64 (bo .i64 (ck .i64 (bL .i64 x.Y y.1.Y) y.1.W) x.X) y.1.X).toNat x.S)))
  else
   some (.out l1))
def ls (p:List Cell):Option (Bl) :=
 (p7 p).bind fun y =>
 (bif (cy (leB (ck .i64 y.1.W y.1.H) 40000)) then
  some (⟨(leB (ck .i64 y.1.W y.1.H) 40000),⟨y.1.X,y.1.Y,y.1.W,y.1.H⟩,[],p⟩:Bl)
 else
  (mkL 8 (ck .i64 y.1.W y.1.H) (ck .i64 y.1.W y.1.H) 0).bind fun _l =>
  (ba (gp p y) bp (0,(List.replicate (ck .i64 y.1.W y.1.H).toNat 0))).bind fun l1 =>
  some (⟨(leB (ck .i64 y.1.W y.1.H) 40000),⟨y.1.X,y.1.Y,y.1.W,y.1.H⟩,l1,p⟩:Bl))
def dl (f:Bl) (n:Int) (q:Point) (stt:Int):Option (Lp (Int) (Bool ⊕ Unit)):=match stt with
 | i =>
  (bif (ltB i n) then
   (idx f.list i).bind fun x =>
   ((bif (leB (fB (bL .i64 q.X x.X) (cz .i64 (bL .i64 q.X x.X))) 2) then
    some (leB (fB (bL .i64 q.Y x.Y) (cz .i64 (bL .i64 q.Y x.Y))) 2)
   else
    some false)).bind fun a =>
   (bif a then
    some (.out (.inl true))
   else
    some (.next (bo .i64 i 1)))
  else
   some (.out (.inr ())))
def fy (f:Bl) (n:Int) (q:Point):Option (Bool) :=
 (ba (dl f n q) bp 0).bind fun o=>match o with
  | .inl r =>
   some r
  | .inr _u =>
   some false
def eh (f:Bl) (y:Int) (_out:List Point) (stt:Int×(List Point)):Option (Lp (Int×(List Point)) ((List Point))):=match stt with
 | (x,aC) =>
  (bif (ltB x (bo .i64 (bo .i64 f.box.X f.box.W) 2)) then
   (eT 16 aC [(⟨x,y⟩:Point)]).bind fun _l =>
   some (.next ((bo .i64 x 1),(aC++[(⟨x,y⟩:Point)])))
  else
   some (.out aC))
def ej (f:Bl) (stt:Int×(List Point)):Option (Lp (Int×(List Point)) ((List Point))):=match stt with
 | (y,out) =>
  (bif (ltB y (bo .i64 (bo .i64 f.box.Y f.box.H) 2)) then
   (ba (eh f y out) bp ((bL .i64 f.box.X 2),out)).bind fun aC =>
   some (.next ((bo .i64 y 1),aC))
  else
   some (.out out))
def dD (f:Bl) (i:Int) (_out:List Point) (y:Int) (stt:Int×(List Point)):Option (Lp (Int×(List Point)) ((List Point))):=match stt with
 | (x,aT) =>
  (bif (leB x 2) then
   ((idx f.list i).bind fun x1 =>
   (fy f i (⟨(bo .i64 x1.X x),(bo .i64 x1.Y y)⟩:Point)).bind fun y1 =>
   (bif (cy y1) then
    (eT 16 aT [(⟨(bo .i64 x1.X x),(bo .i64 x1.Y y)⟩:Point)]).bind fun _l =>
    some (aT++[(⟨(bo .i64 x1.X x),(bo .i64 x1.Y y)⟩:Point)])
   else
    some aT)).bind fun out3 =>
   some (.next ((bo .i64 x 1),out3))
  else
   some (.out aT))
def eR (f:Bl) (i:Int) (out:List Point) (stt:Int×(List Point)):Option (Lp (Int×(List Point)) ((List Point))):=match stt with
 | (y,aC) =>
  (bif (leB y 2) then
   (ba (dD f i out y) bp ((-2),aC)).bind fun aT =>
   some (.next ((bo .i64 y 1),aT))
  else
   some (.out aC))
def ef (f:Bl) (stt:Int×(List Point)):Option (Lp (Int×(List Point)) ((List Point))):=match stt with
 | (i,out) =>
  (bif (ltB i (b8 f.list)) then
   (ba (eR f i out) bp ((-2),out)).bind fun aC =>
   some (.next ((bo .i64 i 1),aC))
  else
   some (.out out))
def ig (f:Bl):Option (List Point) :=
 (bif f.flat then
  (ba (ej f) bp ((bL .i64 f.box.Y 2),[])).bind fun out =>
  some out
 else
  (ba (ef f) bp (0,[])).bind fun out =>
  some out)
def jH (p:List Cell) (x y stt:Int):Option (Lp (Int) (Int ⊕ Unit)):=match stt with
 | i =>
  (bif (ltB i (b8 p)) then
   ((idx p i).bind fun x1 =>
   (bif (eqB x1.X x) then
    some (eqB x1.Y y)
   else
    some false)).bind fun a =>
   (bif a then
    (idx p i).bind fun x1 =>
    some (.out (.inl x1.S))
   else
    some (.next (bo .i64 i 1)))
  else
   some (.out (.inr ())))
def pp (p:List Cell) (x y:Int):Option (Int) :=
 (ba (jH p x y) bp 0).bind fun o=>match o with
  | .inl r =>
   some r
  | .inr _u =>
   some 0
def i8 (f:Bl) (x y:Int):Option (Int) :=
 (bif (cy f.flat) then
  (pp f.list x y).bind fun y1 =>
  some y1
 else
  ((bif (ltB x f.box.X) then
   some true
  else
   (bif (geB x (bo .i64 f.box.X f.box.W)) then
    some true
   else
    (bif (ltB y f.box.Y) then
     some true
    else
     some (geB y (bo .i64 f.box.Y f.box.H)))))).bind fun a =>
  (bif a then
   some 0
  else
   (idx f.cells (bL .i64 (bo .i64 (ck .i64 (bL .i64 y f.box.Y) f.box.W) x) f.box.X)).bind fun x1 =>
   some x1))
def jQ (t:Tree) (f:Bl) (x y:Int) (stt:Int×(List Int)):Option (Lp (Int×(List Int)) ((List Int))):=match stt with
 | (i,in_) =>
  (bif (ltB i (b8 t.Hood)) then
   (idx t.Hood i).bind fun x1 =>
   (i8 f (bo .i64 x x1.X) (bo .i64 y x1.Y)).bind fun y1 =>
   (eT 8 in_ [y1]).bind fun _l =>
   some (.next ((bo .i64 i 1),(in_++[y1])))
  else
   some (.out in_))
def nv (t:Tree) (f:Bl) (x y:Int):Option (Int) :=
 (ba (jQ t f x y) bp (0,[])).bind fun in_ =>
 (kP t in_).bind fun y1 =>
 some y1
def me (x y:Int):Option (Bool) :=
 ((bif (geB x (-1048576)) then
  (bif (leB x 1048576) then
   (bif (geB y (-1048576)) then
    some (leB y 1048576)
   else
    some false)
  else
   some false)
 else
  some false)).bind fun a =>
 some a
def gM (t:Tree) (y1:Bl) (y2:List Point) (stt:Bool×Int×(List Cell)):Option (Lp (Bool×Int×(List Cell)) ((Bool×(List Cell)))):=match stt with
 | (out,i,l) =>
  (bif (ltB i (b8 y2)) then
   ((idx y2 i).bind fun x =>
   (nv t y1 x.X x.Y).bind fun y3 =>
   (bif (neB y3 0) then
    (eT 24 l [(⟨x.X,x.Y,y3⟩:Cell)]).bind fun _l1 =>
    (bif out then
     some (true,(l++[(⟨x.X,x.Y,y3⟩:Cell)]))
    else
     (me x.X x.Y).bind fun y4 =>
     some ((cy y4),(l++[(⟨x.X,x.Y,y3⟩:Cell)])))
   else
    some (out,l))).bind fun(aC,l1) =>
   some (.next (aC,(bo .i64 i 1),l1))
  else
   some (.out (out,l)))
def jA (t:Tree) (p:List Cell):Option ((List Cell)×Int) :=
 (kF t p).bind fun y =>
 (bif (neB y 0) then
  some ([],y)
 else
  (ls p).bind fun y1 =>
  (ig y1).bind fun y2 =>
  (ba (gM t y1 y2) bp (false,0,[])).bind fun(out,l) =>
  (bif out then
   some ([],5)
  else
   (bif (gtB (b8 l) 5000) then
    some ([],6)
   else
    (lY l).bind fun y3 =>
    some (y3.1,y3.2))))
def gK (t:Tree) (n:Int) (stt:Int×(List (List Cell))):Option (Lp (Int×(List (List Cell))) (((List (List Cell))×Int) ⊕ (List (List Cell)))):=match stt with
 | (i,out) =>
  (bif (ltB i n) then
   (idx out i).bind fun x =>
   (jA t x).bind fun y1 =>
   (bif (neB y1.2 0) then
    some (.out (.inl ([],y1.2)))
   else
    (eT 24 out [y1.1]).bind fun _l =>
    some (.next ((bo .i64 i 1),(out++[y1.1]))))
  else
   some (.out (.inr out)))
def mc (t:Tree) (p:List Cell) (n:Int):Option ((List (List Cell))×Int) :=
 (kF t p).bind fun y =>
 (bif (neB y 0) then
  some ([],y)
 else
  ((bif (ltB n 0) then
   some true
  else
   some (gtB n 10000))).bind fun a =>
  (bif a then
   some ([],2)
  else
   (ba (gK t n) bp (0,[p])).bind fun o=>match o with
    | .inl r =>
     some r
    | .inr out =>
     some (out,0)))
def pg (t:Tree) (p:List Cell) (n:Int):Option ((List Cell)×Int) :=
 (mc t p n).bind fun y =>
 (bif (neB y.2 0) then
  some ([],y.2)
 else
  (idx y.1 n).bind fun x =>
  some (x,0))
def jc (p:List Cell) (dx dy:Int) (stt:Int×(List Cell)):Option (Lp (Int×(List Cell)) (((List Cell)×Int) ⊕ (List Cell))):=match stt with
 | (i,out) =>
  (bif (ltB i (b8 p)) then
   (idx p i).bind fun x =>
   (jK (bo .i64 x.X dx) (bo .i64 x.Y dy)).bind fun y1 =>
   (bif (cy y1) then
    some (.out (.inl ([],5)))
   else
    (eT 24 out [(⟨(bo .i64 x.X dx),(bo .i64 x.Y dy),x.S⟩:Cell)]).bind fun _l =>
    some (.next ((bo .i64 i 1),(out++[(⟨(bo .i64 x.X dx),(bo .i64 x.Y dy),x.S⟩:Cell)]))))
  else
   some (.out (.inr out)))
def mg (p:List Cell) (dx dy:Int):Option ((List Cell)×Int) :=
 (jF p).bind fun y =>
 (bif (cy y) then
  some ([],2)
 else
  ((bif (ltB dx (-2097152)) then
   some true
  else
   (bif (gtB dx 2097152) then
    some true
   else
    (bif (ltB dy (-2097152)) then
     some true
    else
     some (gtB dy 2097152))))).bind fun a =>
  (bif a then
   some ([],5)
  else
   (ba (jc p dx dy) bp (0,[])).bind fun o=>match o with
    | .inl r =>
     some r
    | .inr out =>
     some (out,0)))
def gk (_t:Tree) (x:Bg) (p:List Cell) (stt:Int):Option (Lp (Int) ((Bool×Int) ⊕ Unit)):=match stt with
 | i =>
  (bif (ltB i (b8 p)) then
   ((idx p i).bind fun x1 =>
   (bif (ltB x1.X 0) then
    some true
   else
    (bif (geB x1.X x.W) then
     some true
    else
     (bif (ltB x1.Y 0) then
      some true
     else
      some (geB x1.Y x.H))))).bind fun a =>
   (bif a then
    some (.out (.inl (false,0)))
   else
    some (.next (bo .i64 i 1)))
  else
   some (.out (.inr ())))
def ga (_t:Tree) (x:Bg) (p:List Cell) (stt:Int):Option (Lp (Int) ((Bool×Int) ⊕ Unit)):=match stt with
 | i =>
  (bif (ltB i (b8 x.Syms)) then
   (idx x.Syms i).bind fun x1 =>
   (kV x x1 p).bind fun y2 =>
   (jI y2 p).bind fun y3 =>
   (bif (cy y3) then
    some (.out (.inl (false,0)))
   else
    some (.next (bo .i64 i 1)))
  else
   some (.out (.inr ())))
def lC (t:Tree) (x:Bg) (p:List Cell):Option (Bool×Int) :=
 (mm t x).bind fun y =>
 (bif (neB y 0) then
  some (false,y)
 else
  (kF t p).bind fun y1 =>
  (bif (neB y1 0) then
   some (false,y1)
  else
   (ba (gk t x p) bp 0).bind fun o=>match o with
    | .inl r =>
     some r
    | .inr _u =>
     (ba (ga t x p) bp 0).bind fun o=>match o with
      | .inl r =>
       some r
      | .inr _u =>
       (pg t p x.Gens).bind fun y2 =>
       (mg p x.DX x.DY).bind fun y3 =>
       (jI y2.1 y3.1).bind fun y4 =>
       some (y4,0)))
def ez (_f:Bh) (_which:List Int) (values:List Bool) (_a:Int) (x1:List Int) (stt:Bool×Int):Option (Lp (Bool×Int) (Bool)):=match stt with
 | (ok,a1) =>
  (bif (ltB a1 (b8 x1)) then
   (idx x1 a1).bind fun x2 =>
   (bif ok then
    some (.next (true,(bo .i64 a1 1)))
   else
    (idx values (bL .i64 (fB x2 (cz .i64 x2)) 1)).bind fun x3 =>
    some (.next ((eqb x3 (gtB x2 0)),(bo .i64 a1 1))))
  else
   some (.out ok))
def eE (f:Bh) (which:List Int) (values:List Bool) (stt:Int):Option (Lp (Int) (Bool ⊕ Unit)):=match stt with
 | a =>
  (bif (ltB a (b8 which)) then
   (idx which a).bind fun x =>
   (idx f.Clauses x).bind fun x1 =>
   (ba (ez f which values a x1) bp (false,0)).bind fun ok =>
   (bif (cy ok) then
    some (.out (.inl false))
   else
    some (.next (bo .i64 a 1)))
  else
   some (.out (.inr ())))
def eJ (f:Bh) (which:List Int) (values:List Bool):Option (Bool) :=
 (ba (eE f which values) bp 0).bind fun o=>match o with
  | .inl r =>
   some r
  | .inr _u =>
   some true
def eD (_f:Bh) (_l:List Bool) (_a:Int) (_last:List (List Int)) (x:List Int) (stt:Int×Int):Option (Lp (Int×Int) (Int)):=match stt with
 | (v,a1) =>
  (bif (ltB a1 (b8 x)) then
   (idx x a1).bind fun x1 =>
   some (.next ((fB (fB v x1) (cz .i64 x1)),(bo .i64 a1 1)))
  else
   some (.out v))
def eC (f:Bh) (l:List Bool) (stt:Int×(List (List Int))):Option (Lp (Int×(List (List Int))) (Bool ⊕ (List (List Int)))):=match stt with
 | (a,last) =>
  (bif (ltB a (b8 f.Clauses)) then
   (idx f.Clauses a).bind fun x =>
   (ba (eD f l a last x) bp (0,0)).bind fun v =>
   (bif (gtB v f.Vars) then
    some (.out (.inl false))
   else
    (idx last v).bind fun x1 =>
    (eT 8 x1 [a]).bind fun _l2 =>
    some (.next ((bo .i64 a 1),(last.set v.toNat (x1++[a])))))
  else
   some (.out (.inr last)))
def dr (f:Bh) (l:List Bool) (last:List (List Int)) (v:Int) (stt:(List Bool)×Bool×Int):Option (Lp ((List Bool)×Bool×Int) (((List Bool)×Bool))):=match stt with
 | (aH,good,k) =>
  ((bif (ltB k 2) then
   some (cy good)
  else
   some false)).bind fun a1 =>
  (bif a1 then
   (((bif (leB v (b8 l)) then
    (idx l (bL .i64 v 1)).bind fun x =>
    some (cy (eqb (eqB k 1) x))
   else
    some false)).bind fun a2 =>
   (bif a2 then
    some (aH,good)
   else
    (idx last v).bind fun x =>
    (slc3 aH (bL .i64 v 1) (bL .i64 v 1)).bind fun l2 =>
    (eT 1 l2 [(eqB k 1)]).bind fun _l3 =>
    (eJ f x (l2++[(eqB k 1)])).bind fun y =>
    (bif y then
     (eT 1 l2 [(eqB k 1)]).bind fun _l4 =>
     some ((l2++[(eqB k 1)]),y)
    else
     some (aH,y)))).bind fun(values2,good1) =>
   some (.next (values2,good1,(bo .i64 k 1)))
  else
   some (.out (aH,good)))
def dT (f:Bh) (l:List Bool) (last:List (List Int)) (stt:(List Bool)×Int):Option (Lp ((List Bool)×Int) (Bool ⊕ Unit)):=match stt with
 | (values,v) =>
  (bif (leB v f.Vars) then
   (ba (dr f l last v) bp (values,false,0)).bind fun(aH,good) =>
   (bif (cy good) then
    some (.out (.inl false))
   else
    some (.next (aH,(bo .i64 v 1))))
  else
   some (.out (.inr ())))
def j0 (f:Bh) (l:List Bool):Option (Bool) :=
 (mkL 24 (bo .i64 f.Vars 1) (bo .i64 f.Vars 1) ([]:List Int)).bind fun _l1 =>
 (ba (eC f l) bp (0,(List.replicate (bo .i64 f.Vars 1).toNat ([]:List Int)))).bind fun o=>match o with
  | .inl r =>
   some r
  | .inr last =>
   ((idx last 0).bind fun x =>
   (bif (gtB (b8 x) 0) then
    some true
   else
    some (gtB (b8 l) f.Vars))).bind fun a =>
   (bif a then
    some false
   else
    (ba (dT f l last) bp ([],1)).bind fun o=>match o with
     | .inl r =>
      some r
     | .inr _u =>
      some true)
def gt (t:Tree) (x:Bg) (p:List Cell):Option (Bool) :=
 ((mn t x).bind fun y =>
 (bif (cy y) then
  some true
 else
  some (gtB (b8 p) 100))).bind fun a =>
 (bif a then
  (kM).bind fun y =>
  some y
 else
  (ek t x).bind fun y =>
  (gU t x p).bind fun y1 =>
  ((bif (neB y.2.2 0) then
   some true
  else
   some (neB y1.2 0))).bind fun a1 =>
  (bif a1 then
   (kM).bind fun y2 =>
   some y2
  else
   (lC t x p).bind fun y2 =>
   ((bif (eqB y2.2 0) then
    (bif (eqB (b8 y1.1) y.2.1) then
     (j0 y.1 y1.1).bind fun y3 =>
     (bif (eqb y3 y2.1) then
      (kM).bind fun y4 =>
      some y4
     else
      some false)
    else
     some false)
   else
    some false)).bind fun a2 =>
   some a2))
abbrev vI (n:Int):V:=.u (.one (.d (.int .i64 n)))
abbrev dI (n:Int):C:=.d (.int .i64 n)
abbrev vX (k:Nat):V:=.u (.one (.box k 0))
abbrev vO (k:Nat):V:=.u (.one (.own k))
abbrev dL (l:List Int):C:=.d (.sl 1 (List.map (rI .i64) l))
abbrev vT (b:Bool):V:=.u (.one (.d (.bool b)))
abbrev dR0 (l:List Cell):C:=.d (.sl 3 (List.map Cell.row l))
abbrev dR1 (l:List Node):C:=.d (.sl 2 (List.map Node.row l))
abbrev dR2 (l:List Point):C:=.d (.sl 2 (List.map Point.row l))
abbrev dR3 (l:List Bi):C:=.d (.sl 2 (List.map Bi.row l))
end Go.Proofs.YtjlckgeecihpbaaGreatDoor
