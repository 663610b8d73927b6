/- The types of the program, as lists and numbers. -/
import Derived.Test.YtffohfmfehjbmaaGreatDoorAmAp
import Derived.Test.YtffohfmfehjbmaaGreatDoorAmBs
import Derived.Test.YtffohfmfehjbmaaGreatDoorAmSo
namespace Go.Proofs.YtffohfmfehjbmaaGreatDoor
open Go.AM Go.Proofs
theorem rsetI (k:IntKind) (l:List Int) (i:Nat) (x:Int):(List.map (rI k) l).set i [L.int k x]=List.map (rI k) (l.set i x):=by rw[List.map_set]; rfl
structure Point where
 X:Int
 Y:Int
 deriving DecidableEq,Inhabited
def Point.row (x:Point):List L:=[.int .i64 x.X,.int .i64 x.Y]
theorem Point.row_eq (x:Point):x.row=[.int .i64 x.X,.int .i64 x.Y]:=rfl
theorem Point.rset (l:List Point) (i:Nat) (x0 x1:Int):(List.map Point.row l).set i [.int .i64 x0,.int .i64 x1]=List.map Point.row (l.set i ⟨x0,x1⟩):=by rw[List.map_set]; rfl
def Point.key (x:Point):Key:=.ints [x.X,x.Y]
def Point.ints (x:Point):List Int:=[x.X,x.Y]
instance:KeyF Point.key:=⟨fun a b h=>by unfold Point.key at h; cases a; cases b; injection h with h; simp only[List.cons.injEq,and_true] at h; simp only[Point.mk.injEq]; exact h⟩
structure Node where
 Level:Int
 Next:List Int
 deriving DecidableEq,Inhabited
def Node.row (x:Node):List L:=[.int .i64 x.Level,.sl 1 (List.map (rI .i64) x.Next)]
theorem Node.row_eq (x:Node):x.row=[.int .i64 x.Level,.sl 1 (List.map (rI .i64) x.Next)]:=rfl
structure Tree where
 States:Int
 Hood:List Point
 Nodes:List Node
 deriving DecidableEq,Inhabited
def Tree.row (x:Tree):List L:=[.int .i64 x.States,.sl 2 (List.map Point.row x.Hood),.sl 2 (List.map Node.row x.Nodes)]
theorem Tree.row_eq (x:Tree):x.row=[.int .i64 x.States,.sl 2 (List.map Point.row x.Hood),.sl 2 (List.map Node.row x.Nodes)]:=rfl
structure Shot where
 Ship:Int
 Phase:Int
 Sym:Int
 X:Int
 Y:Int
 deriving DecidableEq,Inhabited
def Shot.row (x:Shot):List L:=[.int .i64 x.Ship,.int .i64 x.Phase,.int .i64 x.Sym,.int .i64 x.X,.int .i64 x.Y]
theorem Shot.row_eq (x:Shot):x.row=[.int .i64 x.Ship,.int .i64 x.Phase,.int .i64 x.Sym,.int .i64 x.X,.int .i64 x.Y]:=rfl
theorem Shot.rset (l:List Shot) (i:Nat) (x0 x1 x2 x3 x4:Int):(List.map Shot.row l).set i [.int .i64 x0,.int .i64 x1,.int .i64 x2,.int .i64 x3,.int .i64 x4]=List.map Shot.row (l.set i ⟨x0,x1,x2,x3,x4⟩):=by rw[List.map_set]; rfl
def Shot.key (x:Shot):Key:=.ints [x.Ship,x.Phase,x.Sym,x.X,x.Y]
def Shot.ints (x:Shot):List Int:=[x.Ship,x.Phase,x.Sym,x.X,x.Y]
instance:KeyF Shot.key:=⟨fun a b h=>by unfold Shot.key at h; cases a; cases b; injection h with h; simp only[List.cons.injEq,and_true] at h; simp only[Shot.mk.injEq]; exact h⟩
structure Cell where
 X:Int
 Y:Int
 S:Int
 deriving DecidableEq,Inhabited
def Cell.row (x:Cell):List L:=[.int .i64 x.X,.int .i64 x.Y,.int .i64 x.S]
theorem Cell.row_eq (x:Cell):x.row=[.int .i64 x.X,.int .i64 x.Y,.int .i64 x.S]:=rfl
theorem Cell.rset (l:List Cell) (i:Nat) (x0 x1 x2:Int):(List.map Cell.row l).set i [.int .i64 x0,.int .i64 x1,.int .i64 x2]=List.map Cell.row (l.set i ⟨x0,x1,x2⟩):=by rw[List.map_set]; rfl
def Cell.key (x:Cell):Key:=.ints [x.X,x.Y,x.S]
def Cell.ints (x:Cell):List Int:=[x.X,x.Y,x.S]
instance:KeyF Cell.key:=⟨fun a b h=>by unfold Cell.key at h; cases a; cases b; injection h with h; simp only[List.cons.injEq,and_true] at h; simp only[Cell.mk.injEq]; exact h⟩
structure Motion where
 Period:Int
 DX:Int
 DY:Int
 deriving DecidableEq,Inhabited
def Motion.row (x:Motion):List L:=[.int .i64 x.Period,.int .i64 x.DX,.int .i64 x.DY]
theorem Motion.row_eq (x:Motion):x.row=[.int .i64 x.Period,.int .i64 x.DX,.int .i64 x.DY]:=rfl
theorem Motion.rset (l:List Motion) (i:Nat) (x0 x1 x2:Int):(List.map Motion.row l).set i [.int .i64 x0,.int .i64 x1,.int .i64 x2]=List.map Motion.row (l.set i ⟨x0,x1,x2⟩):=by rw[List.map_set]; rfl
def Motion.key (x:Motion):Key:=.ints [x.Period,x.DX,x.DY]
def Motion.ints (x:Motion):List Int:=[x.Period,x.DX,x.DY]
instance:KeyF Motion.key:=⟨fun a b h=>by unfold Motion.key at h; cases a; cases b; injection h with h; simp only[List.cons.injEq,and_true] at h; simp only[Motion.mk.injEq]; exact h⟩
structure Ship where
 Cells:List Cell
 Motion:Motion
 deriving DecidableEq,Inhabited
def Ship.row (x:Ship):List L:=[.sl 3 (List.map Cell.row x.Cells),.int .i64 x.Motion.Period,.int .i64 x.Motion.DX,.int .i64 x.Motion.DY]
theorem Ship.row_eq (x:Ship):x.row=[.sl 3 (List.map Cell.row x.Cells),.int .i64 x.Motion.Period,.int .i64 x.Motion.DX,.int .i64 x.Motion.DY]:=rfl
structure Ah where
 Ships:List Ship
 Shot:Shot
 N:Int
 deriving DecidableEq,Inhabited
def Ah.row (x:Ah):List L:=[.sl 4 (List.map Ship.row x.Ships),.int .i64 x.Shot.Ship,.int .i64 x.Shot.Phase,.int .i64 x.Shot.Sym,.int .i64 x.Shot.X,.int .i64 x.Shot.Y,.int .i64 x.N]
theorem Ah.row_eq (x:Ah):x.row=[.sl 4 (List.map Ship.row x.Ships),.int .i64 x.Shot.Ship,.int .i64 x.Shot.Phase,.int .i64 x.Shot.Sym,.int .i64 x.Shot.X,.int .i64 x.Shot.Y,.int .i64 x.N]:=rfl
structure Ai where
 Hood:List Point
 States:Int
 Birth:List Int
 Survive:List Int
 deriving DecidableEq,Inhabited
def Ai.row (x:Ai):List L:=[.sl 2 (List.map Point.row x.Hood),.int .i64 x.States,.sl 1 (List.map (rI .i64) x.Birth),.sl 1 (List.map (rI .i64) x.Survive)]
theorem Ai.row_eq (x:Ai):x.row=[.sl 2 (List.map Point.row x.Hood),.int .i64 x.States,.sl 1 (List.map (rI .i64) x.Birth),.sl 1 (List.map (rI .i64) x.Survive)]:=rfl
structure Row where
 Ins:List Int
 Out:Int
 deriving DecidableEq,Inhabited
def Row.row (x:Row):List L:=[.sl 1 (List.map (rI .i64) x.Ins),.int .i64 x.Out]
theorem Row.row_eq (x:Row):x.row=[.sl 1 (List.map (rI .i64) x.Ins),.int .i64 x.Out]:=rfl
structure Table where
 States:Int
 Sym:Int
 Hood:List Point
 Vars:List (List Int)
 Rows:List Row
 deriving DecidableEq,Inhabited
def Table.row (x:Table):List L:=[.int .i64 x.States,.int .i64 x.Sym,.sl 2 (List.map Point.row x.Hood),.sl 1 (List.map (rS 1 (rI .i64)) x.Vars),.sl 2 (List.map Row.row x.Rows)]
theorem Table.row_eq (x:Table):x.row=[.int .i64 x.States,.int .i64 x.Sym,.sl 2 (List.map Point.row x.Hood),.sl 1 (List.map (rS 1 (rI .i64)) x.Vars),.sl 2 (List.map Row.row x.Rows)]:=rfl
structure Box where
 X:Int
 Y:Int
 W:Int
 H:Int
 deriving DecidableEq,Inhabited
def Box.row (x:Box):List L:=[.int .i64 x.X,.int .i64 x.Y,.int .i64 x.W,.int .i64 x.H]
theorem Box.row_eq (x:Box):x.row=[.int .i64 x.X,.int .i64 x.Y,.int .i64 x.W,.int .i64 x.H]:=rfl
theorem Box.rset (l:List Box) (i:Nat) (x0 x1 x2 x3:Int):(List.map Box.row l).set i [.int .i64 x0,.int .i64 x1,.int .i64 x2,.int .i64 x3]=List.map Box.row (l.set i ⟨x0,x1,x2,x3⟩):=by rw[List.map_set]; rfl
def Box.key (x:Box):Key:=.ints [x.X,x.Y,x.W,x.H]
def Box.ints (x:Box):List Int:=[x.X,x.Y,x.W,x.H]
instance:KeyF Box.key:=⟨fun a b h=>by unfold Box.key at h; cases a; cases b; injection h with h; simp only[List.cons.injEq,and_true] at h; simp only[Box.mk.injEq]; exact h⟩
structure Aj where
 ones:Int
 centre:Int
 deriving DecidableEq,Inhabited
def Aj.row (x:Aj):List L:=[.int .i64 x.ones,.int .i64 x.centre]
theorem Aj.row_eq (x:Aj):x.row=[.int .i64 x.ones,.int .i64 x.centre]:=rfl
theorem Aj.rset (l:List Aj) (i:Nat) (x0 x1:Int):(List.map Aj.row l).set i [.int .i64 x0,.int .i64 x1]=List.map Aj.row (l.set i ⟨x0,x1⟩):=by rw[List.map_set]; rfl
def Aj.key (x:Aj):Key:=.ints [x.ones,x.centre]
def Aj.ints (x:Aj):List Int:=[x.ones,x.centre]
instance:KeyF Aj.key:=⟨fun a b h=>by unfold Aj.key at h; cases a; cases b; injection h with h; simp only[List.cons.injEq,and_true] at h; simp only[Aj.mk.injEq]; exact h⟩
structure Ak where
 at_:Int
 s:Aj
 deriving DecidableEq,Inhabited
def Ak.row (x:Ak):List L:=[.int .i64 x.at_,.int .i64 x.s.ones,.int .i64 x.s.centre]
theorem Ak.row_eq (x:Ak):x.row=[.int .i64 x.at_,.int .i64 x.s.ones,.int .i64 x.s.centre]:=rfl
def Ak.key (x:Ak):Key:=.ints [x.at_,x.s.ones,x.s.centre]
def Ak.ints (x:Ak):List Int:=[x.at_,x.s.ones,x.s.centre]
instance:KeyF Ak.key:=⟨fun a b h=>by obtain⟨a0,⟨a1,a2⟩⟩:=a; obtain⟨b0,⟨b1,b2⟩⟩:=b; simp only[Ak.key,Key.ints.injEq,List.cons.injEq,and_true] at h; obtain⟨rfl,rfl,rfl⟩:=h; rfl⟩
structure Al where
 at_:Int
 s:Int
 deriving DecidableEq,Inhabited
def Al.row (x:Al):List L:=[.int .i64 x.at_,.int .i64 x.s]
theorem Al.row_eq (x:Al):x.row=[.int .i64 x.at_,.int .i64 x.s]:=rfl
theorem Al.rset (l:List Al) (i:Nat) (x0 x1:Int):(List.map Al.row l).set i [.int .i64 x0,.int .i64 x1]=List.map Al.row (l.set i ⟨x0,x1⟩):=by rw[List.map_set]; rfl
def Al.key (x:Al):Key:=.ints [x.at_,x.s]
def Al.ints (x:Al):List Int:=[x.at_,x.s]
instance:KeyF Al.key:=⟨fun a b h=>by unfold Al.key at h; cases a; cases b; injection h with h; simp only[List.cons.injEq,and_true] at h; simp only[Al.mk.injEq]; exact h⟩
structure Am where
 flat:Bool
 box:Box
 cells:List Int
 list:List Cell
 deriving DecidableEq,Inhabited
def Am.row (x:Am):List L:=[.bool x.flat,.int .i64 x.box.X,.int .i64 x.box.Y,.int .i64 x.box.W,.int .i64 x.box.H,.sl 1 (List.map (rI .i64) x.cells),.sl 3 (List.map Cell.row x.list)]
theorem Am.row_eq (x:Am):x.row=[.bool x.flat,.int .i64 x.box.X,.int .i64 x.box.Y,.int .i64 x.box.W,.int .i64 x.box.H,.sl 1 (List.map (rI .i64) x.cells),.sl 3 (List.map Cell.row x.list)]:=rfl
attribute [simp] Point.row_eq Node.row_eq Tree.row_eq Shot.row_eq Cell.row_eq Motion.row_eq Ship.row_eq Ah.row_eq Ai.row_eq Row.row_eq Table.row_eq Box.row_eq Aj.row_eq Ak.row_eq Al.row_eq Am.row_eq
def g0R:List (Int×Int×Int×Int):=[(1,0,0,1),(0,(-1),1,0),((-1),0,0,(-1)),(0,1,(-1),0),((-1),0,0,1),(0,(-1),(-1),0),(1,0,0,(-1)),(0,1,1,0)]
end Go.Proofs.YtffohfmfehjbmaaGreatDoor
namespace Go.Proofs.YtffohfmfehjbmaaGreatDoor
def cmpI (a b:Int):Int:=if a < b then -1 else if a > b then 1 else 0
def cmpYX (ay ax byy bx:Int):Int:=if cmpI ay byy≠0 then cmpI ay byy else cmpI ax bx
def cf_pattern_order (a b:Cell):Int:=cmpYX a.Y a.X b.Y b.X
def cf_algebra_order (a b:Cell):Int:=cmpYX a.Y a.X b.Y b.X
end Go.Proofs.YtffohfmfehjbmaaGreatDoor
namespace Go.Proofs.YtffohfmfehjbmaaGreatDoor
open Go.AM Go.Proofs
def b_L12_Few_1 (t:Tree) (stt:Int):Option (Lp (Int) (Bool ⊕ Unit)):=match stt with
 | a1 =>
  (bif (ltB a1 (aB t.Nodes)) then
   (idx t.Nodes a1).bind fun x =>
   (bif (gtB (aB x.Next) 20) then
    some (.out (.inl false))
   else
    some (.next (aO .i64 a1 1)))
  else
   some (.out (.inr ())))
def m_L12_Few (t:Tree):Option (Bool) :=
 ((bif (gtB (aB t.Hood) 40) then
  some true
 else
  some (gtB (aB t.Nodes) 400))).bind fun a =>
 (bif a then
  some false
 else
  (aK (b_L12_Few_1 t) aN 0).bind fun o=>match o with
   | .inl r =>
    some r
   | .inr _u =>
    some true)
def b_L50_small_1 (l:List Ship) (stt:Int):Option (Lp (Int) (Bool ⊕ Unit)):=match stt with
 | a1 =>
  (bif (ltB a1 (aB l)) then
   ((idx l a1).bind fun x =>
   (bif (gtB (aB x.Cells) 40) then
    some true
   else
    (bif (gtB x.Motion.Period 12) then
     some (leB x.Motion.Period 64)
    else
     some false))).bind fun a2 =>
   (bif a2 then
    some (.out (.inl false))
   else
    some (.next (aO .i64 a1 1)))
  else
   some (.out (.inr ())))
def m_L50_small (t:Tree) (l:List Ship):Option (Bool) :=
 ((m_L12_Few t).bind fun y =>
 (bif (ba y) then
  some true
 else
  (bif (gtB (aB t.Nodes) 100) then
   some true
  else
   some (gtB (aB l) 6)))).bind fun a =>
 (bif a then
  some false
 else
  (aK (b_L50_small_1 l) aN 0).bind fun o=>match o with
   | .inl r =>
    some r
   | .inr _u =>
    some true)
def m_internal_stringslite_HasPrefix (s aq:List UInt8):Option (Bool) :=
 ((bif (geB (eG s) (eG aq)) then
  (slcS s 0 (eG aq)).bind fun s1 =>
  some (eqS s1 aq)
 else
  some false)).bind fun a =>
 some a
def m_internal_stringslite_CutPrefix (s aq:List UInt8):Option ((List UInt8)×Bool) :=
 (m_internal_stringslite_HasPrefix s aq).bind fun y =>
 (bif (ba y) then
  some (s,false)
 else
  (slcS s (eG aq) (eG s)).bind fun s1 =>
  some (s1,true))
def m_strings_CutPrefix (s aq:List UInt8):Option ((List UInt8)×Bool) :=
 (m_internal_stringslite_CutPrefix s aq).bind fun y =>
 some (y.1,y.2)
def m_strings_Cut (s sep:List UInt8):Option ((List UInt8)×(List UInt8)×Bool):=cutS s sep
def m_hood_Moore_1 (_x _y:Int):Option (Bool) :=
 some true
def b_hood_collect_hood_Moore_1_2 (r_ y:Int) (stt:Int×(List Point)):Option (Lp (Int×(List Point)) ((List Point))):=match stt with
 | (x,l1) =>
  (bif (leB x r_) then
   ((m_hood_Moore_1 x y).bind fun y1 =>
   (bif y1 then
    (appL 16 l1 [(⟨x,y⟩:Point)]).bind fun _l2 =>
    some (l1++[(⟨x,y⟩:Point)])
   else
    some l1)).bind fun l2 =>
   some (.next ((aO .i64 x 1),l2))
  else
   some (.out l1))
def b_hood_collect_hood_Moore_1_1 (r_:Int) (stt:Int×(List Point)):Option (Lp (Int×(List Point)) ((List Point))):=match stt with
 | (y,l) =>
  (bif (leB y r_) then
   (aK (b_hood_collect_hood_Moore_1_2 r_ y) aN ((ineg .i64 r_),l)).bind fun l1 =>
   some (.next ((aO .i64 y 1),l1))
  else
   some (.out l))
def m_hood_collect_hood_Moore_1 (r_:Int):Option (List Point) :=
 (aK (b_hood_collect_hood_Moore_1_1 r_) aN ((ineg .i64 r_),[])).bind fun l =>
 some l
def m_hood_Moore (r_:Int):Option (List Point) :=
 ((bif (ltB r_ 0) then
  some true
 else
  some (gtB r_ 2))).bind fun a =>
 (bif a then
  some []
 else
  (m_hood_collect_hood_Moore_1 r_).bind fun y =>
  some y)
def m_internal_stringslite_HasSuffix (s ar:List UInt8):Option (Bool) :=
 ((bif (geB (eG s) (eG ar)) then
  (slcS s (aL .i64 (eG s) (eG ar)) (eG s)).bind fun s1 =>
  some (eqS s1 ar)
 else
  some false)).bind fun a =>
 some a
def m_internal_stringslite_CutSuffix (s ar:List UInt8):Option ((List UInt8)×Bool) :=
 (m_internal_stringslite_HasSuffix s ar).bind fun y =>
 (bif (ba y) then
  some (s,false)
 else
  (slcS s 0 (aL .i64 (eG s) (eG ar))).bind fun s1 =>
  some (s1,true))
def m_strings_CutSuffix (s ar:List UInt8):Option ((List UInt8)×Bool) :=
 (m_internal_stringslite_CutSuffix s ar).bind fun y =>
 some (y.1,y.2)
def b_lifelike_ascends_1 (l:List Int) (n:Int) (stt:Int×Int):Option (Lp (Int×Int) (Bool ⊕ Unit)):=match stt with
 | (last,a) =>
  (bif (ltB a (aB l)) then
   (idx l a).bind fun x =>
   ((bif (leB x last) then
    some true
   else
    some (gtB x n))).bind fun a1 =>
   (bif a1 then
    some (.out (.inl false))
   else
    some (.next (x,(aO .i64 a 1))))
  else
   some (.out (.inr ())))
def m_lifelike_ascends (l:List Int) (n:Int):Option (Bool) :=
 (aK (b_lifelike_ascends_1 l n) aN ((-1),0)).bind fun o=>match o with
  | .inl r =>
   some r
  | .inr _u =>
   some true
def b_lifelike_digits_1 (l:List Int) (stt:Int×(List Int)):Option (Lp (Int×(List Int)) (((List Int)×Bool) ⊕ (List Int))):=match stt with
 | (a,out) =>
  (bif (ltB a (aB l)) then
   (idx l a).bind fun x =>
   ((bif (ltB x 48) then
    some true
   else
    some (gtB x 57))).bind fun a1 =>
   (bif a1 then
    some (.out (.inl ([],false)))
   else
    (appL 8 out [(bI .i64 (aL .u8 x 48))]).bind fun _l1 =>
    some (.next ((aO .i64 a 1),(out++[(bI .i64 (aL .u8 x 48))]))))
  else
   some (.out (.inr out)))
def m_lifelike_digits (s:List UInt8):Option ((List Int)×Bool) :=
 (toBk s).bind fun l =>
 (aK (b_lifelike_digits_1 l) aN (0,[])).bind fun o=>match o with
  | .inl r =>
   some r
  | .inr out =>
   (m_lifelike_ascends out 9).bind fun y =>
   some (out,y)
def b_slices_Equal_api_Point_api_Point_1 (sv1 sv2:List Point) (stt:Int):Option (Lp (Int) (Bool ⊕ Unit)):=match stt with
 | a =>
  (bif (ltB a (aB sv1)) then
   (idx sv1 a).bind fun x =>
   (idx sv2 a).bind fun x1 =>
   (bif (ba (bW (eqB x.X x1.X) (bW (eqB x.Y x1.Y) true))) then
    some (.out (.inl false))
   else
    some (.next (aO .i64 a 1)))
  else
   some (.out (.inr ())))
def m_slices_Equal_api_Point_api_Point (sv1 sv2:List Point):Option (Bool) :=
 (bif (neB (aB sv1) (aB sv2)) then
  some false
 else
  (aK (b_slices_Equal_api_Point_api_Point_1 sv1 sv2) aN 0).bind fun o=>match o with
   | .inl r =>
    some r
   | .inr _u =>
    some true)
def m_hood_Same (a b:List Point):Option (Bool) :=
 (m_slices_Equal_api_Point_api_Point a b).bind fun y =>
 some y
def m_lifelike_letter (l:List Point):Option ((List UInt8)×Bool) :=
 (m_hood_Moore 1).bind fun y =>
 (m_hood_Same l y).bind fun y1 =>
 (bif y1 then
  some (([]:List UInt8),true)
 else
  none)
def m_lifelike_Right (t:Ai):Option (Bool) :=
 (m_lifelike_letter t.Hood).bind fun y =>
 ((bif y.2 then
  (bif (geB t.States 2) then
   (bif (leB t.States 8) then
    (m_lifelike_ascends t.Birth (aL .i64 (aB t.Hood) 1)).bind fun y1 =>
    (bif y1 then
     (m_lifelike_ascends t.Survive (aL .i64 (aB t.Hood) 1)).bind fun y2 =>
     some y2
    else
     some false)
   else
    some false)
  else
   some false)
 else
  some false)).bind fun a =>
 some a
def m_lifelike_Parse (s:List UInt8):Option (Ai×Int) :=
 (m_strings_CutPrefix s ([66]:List UInt8)).bind fun y =>
 (m_strings_Cut y.1 ([47,83]:List UInt8)).bind fun y1 =>
 ((bif (ba y.2) then
  some true
 else
  some (ba y1.2.2))).bind fun a =>
 (bif a then
  some ((⟨[],0,[],[]⟩:Ai),15)
 else
  (m_hood_Moore 1).bind fun y2 =>
  (m_strings_CutSuffix y1.2.1 ([86]:List UInt8)).bind fun y3 =>
  (bif y3.2 then
   none
  else
   (m_strings_CutSuffix y1.2.1 ([72]:List UInt8)).bind fun y4 =>
   (bif y4.2 then
    none
   else
    (m_lifelike_digits y1.1).bind fun y5 =>
    (m_lifelike_digits y1.2.1).bind fun y6 =>
    ((bif (ba y5.2) then
     some true
    else
     some (ba y6.2))).bind fun a1 =>
    (bif a1 then
     some ((⟨[],0,[],[]⟩:Ai),15)
    else
     (m_lifelike_Right (⟨y2,2,y5.1,y6.1⟩:Ai)).bind fun y7 =>
     (bif (ba y7) then
      some ((⟨[],0,[],[]⟩:Ai),5)
     else
      some ((⟨y2,2,y5.1,y6.1⟩:Ai),0))))))
def m_notation_Kind (s:List UInt8):Option (Int) :=
 (m_lifelike_Parse s).bind fun y =>
 (bif (neB y.2 15) then
  some 1
 else
  none)
def m_cmp_isNaN_int (x:Int):Option (Bool) :=
 some (neB x x)
def m_cmp_Compare_int (x y:Int):Option (Int) :=
 (m_cmp_isNaN_int x).bind fun y1 =>
 (m_cmp_isNaN_int y).bind fun y2 =>
 (bif y1 then
  (bif y2 then
   some 0
  else
   some (-1))
 else
  (bif y2 then
   some 1
  else
   (bif (ltB x y) then
    some (-1)
   else
    (bif (gtB x y) then
     some 1
    else
     some 0))))
def b_cmp_Or_int_1 (vals:List Int) (stt:Int):Option (Lp (Int) (Int ⊕ Unit)):=match stt with
 | a =>
  (bif (ltB a (aB vals)) then
   (idx vals a).bind fun x =>
   (bif (neB x 0) then
    some (.out (.inl x))
   else
    some (.next (aO .i64 a 1)))
  else
   some (.out (.inr ())))
def m_cmp_Or_int (vals:List Int):Option (Int) :=
 (aK (b_cmp_Or_int_1 vals) aN 0).bind fun o=>match o with
  | .inl r =>
   some r
  | .inr _u =>
   some 0
def m_point_Compare (a b:Point):Option (Int) :=
 (m_cmp_Compare_int a.Y b.Y).bind fun y =>
 (m_cmp_Compare_int a.X b.X).bind fun y1 =>
 (m_cmp_Or_int [y,y1]).bind fun y2 =>
 some y2
def b_hood_Right_1 (l:List Point) (stt:Int):Option (Lp (Int) (Bool ⊕ Unit)):=match stt with
 | a1 =>
  (bif (ltB a1 (aB l)) then
   (idx l a1).bind fun x =>
   ((bif (ltB x.X (-2)) then
    some true
   else
    (bif (gtB x.X 2) then
     some true
    else
     (bif (ltB x.Y (-2)) then
      some true
     else
      (bif (gtB x.Y 2) then
       some true
      else
       (bif (gtB a1 0) then
        (idx l (aL .i64 a1 1)).bind fun x1 =>
        (m_point_Compare x1 x).bind fun y =>
        some (geB y 0)
       else
        some false)))))).bind fun a2 =>
   (bif a2 then
    some (.out (.inl false))
   else
    some (.next (aO .i64 a1 1)))
  else
   some (.out (.inr ())))
def m_hood_Right (l:List Point):Option (Bool) :=
 ((bif (ltB (aB l) 1) then
  some true
 else
  some (gtB (aB l) 25))).bind fun a =>
 (bif a then
  some false
 else
  (aK (b_hood_Right_1 l) aN 0).bind fun o=>match o with
   | .inl r =>
    some r
   | .inr _u =>
    some true)
def b_slices_Index_api_Point_api_Point_1 (s:List Point) (v:Point) (stt:Int):Option (Lp (Int) (Int ⊕ Unit)):=match stt with
 | a =>
  (bif (ltB a (aB s)) then
   (idx s a).bind fun x =>
   (bif (bW (eqB v.X x.X) (bW (eqB v.Y x.Y) true)) then
    some (.out (.inl a))
   else
    some (.next (aO .i64 a 1)))
  else
   some (.out (.inr ())))
def m_slices_Index_api_Point_api_Point (s:List Point) (v:Point):Option (Int) :=
 (aK (b_slices_Index_api_Point_api_Point_1 s v) aN 0).bind fun o=>match o with
  | .inl r =>
   some r
  | .inr _u =>
   some (-1)
def m_hood_Centre (l:List Point):Option (Int) :=
 (m_hood_Right l).bind fun y =>
 (bif (ba y) then
  some (-1)
 else
  (m_slices_Index_api_Point_api_Point l (⟨0,0⟩:Point)).bind fun y1 =>
  some y1)
def m_slices_Clone_api_Point_api_Point (l:List Point):Option (List Point):=appL 16 [] l
def b_slices_Index_int_int_1 (s:List Int) (v stt:Int):Option (Lp (Int) (Int ⊕ Unit)):=match stt with
 | a =>
  (bif (ltB a (aB s)) then
   (idx s a).bind fun x =>
   (bif (eqB v x) then
    some (.out (.inl a))
   else
    some (.next (aO .i64 a 1)))
  else
   some (.out (.inr ())))
def m_slices_Index_int_int (s:List Int) (v:Int):Option (Int) :=
 (aK (b_slices_Index_int_int_1 s v) aN 0).bind fun o=>match o with
  | .inl r =>
   some r
  | .inr _u =>
   some (-1)
def m_slices_Contains_int_int (s:List Int) (v:Int):Option (Bool) :=
 (m_slices_Index_int_int s v).bind fun y =>
 some (geB y 0)
def m_totaltree_Totals_2 (s:Aj) (a:Ai):Option (Int) :=
 (bif (eqB s.centre 0) then
  ((m_slices_Contains_int_int a.Birth s.ones).bind fun y =>
  (bif y then
   some 1
  else
   some s.centre)).bind fun next =>
  some next
 else
  ((bif (eqB s.centre 1) then
   (m_slices_Contains_int_int a.Survive s.ones).bind fun y =>
   some y
  else
   some false)).bind fun a1 =>
  (bif a1 then
   some 1
  else
   (irem (aO .i64 s.centre 1) a.States).bind fun n =>
   some n))
def m_totaltree_Totals_1_o (s:Aj) (at_ state a:Int):Option (Int×Int) :=
 ((bif (eqB at_ a) then
  some (s.ones,state)
 else
  (bif (eqB state 1) then
   some ((aO .i64 s.ones 1),s.centre)
  else
   some (s.ones,s.centre)))).bind fun(sones,scentre) =>
 some (sones,scentre)
def m_internal_strconv_AppendUint_o (l:List Int) (n base:Int):Option (List Int):=appUM l n base
def m_internal_strconv_AppendInt_o (dst:List Int) (i base:Int):Option (List Int) :=
 ((bif (ltB i 0) then
  (appL 1 dst [45]).bind fun _l =>
  some ((ineg .u64 (bI .u64 i)),(dst++[45]))
 else
  some ((bI .u64 i),dst))).bind fun(u,dst1) =>
 (m_internal_strconv_AppendUint_o dst1 u base).bind fun y =>
 some y
def m_strconv_AppendInt_o (dst:List Int) (i base:Int):Option (List Int) :=
 (m_internal_strconv_AppendInt_o dst i base).bind fun y =>
 some y
def b_totaltree_build_totaltree_sum_1_o_o_o_o_o_o_o_o_1 (rcv:(Ak->(List Point)->(List Point)->Int->(List Int)->(List Int)->(List (Ak×Int))->Int->Int->(List (List UInt8×Int))->Int->(List Point)->(List Node)->Option (Int×(List (Ak×Int))×(List (List UInt8×Int))×(List Node)))) (p:Ak) (a al:List Point) (ah:Int) (aj aa:List Int) (a2 cv ai:Int) (am:List Point) (_u:Unit) (stt:Int×(List Node)×(List Int)×(List Int)×(List (Ak×Int))×(List (List UInt8×Int))):Option (Lp (Int×(List Node)×(List Int)×(List Int)×(List (Ak×Int))×(List (List UInt8×Int))) (((List Node)×(List Int)×(List Int)×(List (Ak×Int))×(List (List UInt8×Int))))):=match stt with
 | (a3,l,keyv,l1,mp,mp1) =>
  (bif (ltB a3 a2) then
   (m_totaltree_Totals_1_o p.s p.at_ a3 cv).bind fun y =>
   (rcv (⟨(aO .i64 p.at_ 1),⟨y.1,y.2⟩⟩:Ak) a al ah aj aa mp a2 cv mp1 ai am l).bind fun y1 =>
   (appL 8 l1 [y1.1]).bind fun _l2 =>
   (appL 1 keyv [32]).bind fun _l3 =>
   (m_strconv_AppendInt_o (keyv++[32]) y1.1 10).bind fun y2 =>
   some (.next ((aO .i64 a3 1),y1.2.2.2,y2,(l1++[y1.1]),y1.2.1,y1.2.2.1))
  else
   some (.out (l,keyv,l1,mp,mp1)))
def mb_totaltree_build_totaltree_sum_1_o_o_o_o_o_o_o_o (rcv:(Ak->(List Point)->(List Point)->Int->(List Int)->(List Int)->(List (Ak×Int))->Int->Int->(List (List UInt8×Int))->Int->(List Point)->(List Node)->Option (Int×(List (Ak×Int))×(List (List UInt8×Int))×(List Node)))) (p:Ak) (a al:List Point) (ah:Int) (aj aa:List Int) (a1:List (Ak×Int)) (a2 cv:Int) (cv1:List (List UInt8×Int)) (ai:Int) (am:List Point) (av:List Node):Option (Int×(List (Ak×Int))×(List (List UInt8×Int))×(List Node)) :=
 (bif (eqB p.at_ (aB a)) then
  (m_totaltree_Totals_2 p.s (⟨al,ah,aj,aa⟩:Ai)).bind fun y =>
  some (y,a1,cv1,av)
 else
  (kckL [p.at_,p.s.ones,p.s.centre]).bind fun u =>
  (bif (cS a1 p) then
   some ((bN a1 p 0),a1,cv1,av)
  else
   (aK (b_totaltree_build_totaltree_sum_1_o_o_o_o_o_o_o_o_1 rcv p a al ah aj aa a2 cv ai am u) aN (0,av,[(bI .u8 (aL .i64 (aB a) p.at_))],[],a1,cv1)).bind fun(l,keyv,l1,mp,mp1) =>
   (kckS (ofBytes keyv)).bind fun _u1 =>
   ((bif (ba (cS mp1 (ofBytes keyv))) then
    (appL 32 l [(⟨(aL .i64 (aB a) p.at_),l1⟩:Node)]).bind fun _l2 =>
    some ((aB l),(cP mp1 (ofBytes keyv) (aB l)),(l++[(⟨(aL .i64 (aB a) p.at_),l1⟩:Node)]))
   else
    some ((bN mp1 (ofBytes keyv) 0),mp1,l))).bind fun(idv,mp2,l2) =>
   some (idv,(cP mp p idv),mp2,l2)))
def m_totaltree_build_totaltree_sum_1_o_o_o_o_o_o_o_o (p:Ak) (a al:List Point) (ah:Int) (aj aa:List Int) (a1:List (Ak×Int)) (a2 cv:Int) (cv1:List (List UInt8×Int)) (ai:Int) (am:List Point) (av:List Node):Option (Int×(List (Ak×Int))×(List (List UInt8×Int))×(List Node)):=recN mb_totaltree_build_totaltree_sum_1_o_o_o_o_o_o_o_o (fun _ _ _ _ _ _ _ _ _ _ _ _ _=>none) recF p a al ah aj aa a1 a2 cv cv1 ai am av
def m_totaltree_build_totaltree_sum_totaltree_Totals_1_o_totaltree_Totals_2_o (states:Int) (l:List Point) (start:Aj) (cv:Int) (al:List Point) (ah:Int) (aj aa:List Int):Option (List Node) :=
 (m_totaltree_build_totaltree_sum_1_o_o_o_o_o_o_o_o (⟨0,⟨start.ones,start.centre⟩⟩:Ak) l al ah aj aa [] states cv [] states l []).bind fun y =>
 some y.2.2.2
def m_totaltree_Totals (x:Ai):Option (Tree×Int) :=
 (m_lifelike_Right x).bind fun y =>
 (bif (ba y) then
  some ((⟨0,[],[]⟩:Tree),2)
 else
  (m_hood_Centre x.Hood).bind fun y1 =>
  (m_slices_Clone_api_Point_api_Point x.Hood).bind fun y2 =>
  (m_totaltree_build_totaltree_sum_totaltree_Totals_1_o_totaltree_Totals_2_o x.States y2 (⟨0,0⟩:Aj) y1 x.Hood x.States x.Birth x.Survive).bind fun y3 =>
  some ((⟨x.States,y2,y3⟩:Tree),0))
def m_notation_Parse (s:List UInt8):Option (Tree×Int) :=
 (m_notation_Kind s).bind fun y =>
 ((bif (eqB y 1) then
  some (eqB y 1)
 else
  some (eqB y 2))).bind fun a =>
 (bif a then
  (bif (eqB y 2) then
   none
  else
   (m_lifelike_Parse s).bind fun y1 =>
   (bif (neB y1.2 0) then
    some ((⟨0,[],[]⟩:Tree),y1.2)
   else
    (m_totaltree_Totals y1.1).bind fun y2 =>
    some (y2.1,y2.2)))
 else
  ((bif (eqB y 3) then
   some (eqB y 3)
  else
   some (eqB y 4))).bind fun a1 =>
  (bif a1 then
   none
  else
   (bif (eqB y 5) then
    none
   else
    some ((⟨0,[],[]⟩:Tree),7))))
def m_L50_glider:Option (Ship) :=
 some (⟨[(⟨1,0,1⟩:Cell),(⟨2,1,1⟩:Cell),(⟨0,2,1⟩:Cell),(⟨1,2,1⟩:Cell),(⟨2,2,1⟩:Cell)],⟨4,1,1⟩⟩:Ship)
def b_tree_Right_2 (t:Tree) (a1:Int) (x:Node) (stt:Int):Option (Lp (Int) (Bool ⊕ Unit)):=match stt with
 | a3 =>
  (bif (ltB a3 (aB x.Next)) then
   (idx x.Next a3).bind fun x1 =>
   ((bif (ltB x1 0) then
    some true
   else
    (bif (eqB x.Level 1) then
     (bif (geB x1 t.States) then
      some true
     else
      (bif (gtB x.Level 1) then
       (bif (geB x1 a1) then
        some true
       else
        (idx t.Nodes x1).bind fun x2 =>
        some (neB x2.Level (aL .i64 x.Level 1)))
      else
       some false))
    else
     (bif (gtB x.Level 1) then
      (bif (geB x1 a1) then
       some true
      else
       (idx t.Nodes x1).bind fun x2 =>
       some (neB x2.Level (aL .i64 x.Level 1)))
     else
      some false)))).bind fun a4 =>
   (bif a4 then
    some (.out (.inl false))
   else
    some (.next (aO .i64 a3 1)))
  else
   some (.out (.inr ())))
def b_tree_Right_1 (t:Tree) (stt:Int):Option (Lp (Int) (Bool ⊕ Unit)):=match stt with
 | a1 =>
  (bif (ltB a1 (aB t.Nodes)) then
   (idx t.Nodes a1).bind fun x =>
   ((bif (ltB x.Level 1) then
    some true
   else
    (bif (gtB x.Level (aB t.Hood)) then
     some true
    else
     some (neB (aB x.Next) t.States)))).bind fun a2 =>
   (bif a2 then
    some (.out (.inl false))
   else
    (aK (b_tree_Right_2 t a1 x) aN 0).bind fun o=>match o with
     | .inl r =>
      some (.out (.inl r))
     | .inr _u =>
      some (.next (aO .i64 a1 1)))
  else
   some (.out (.inr ())))
def m_tree_Right (t:Tree):Option (Bool) :=
 ((bif (ltB t.States 2) then
  some true
 else
  (bif (gtB t.States 8) then
   some true
  else
   (m_hood_Right t.Hood).bind fun y =>
   (bif (ba y) then
    some true
   else
    (bif (ltB (aB t.Nodes) 1) then
     some true
    else
     (bif (gtB (aB t.Nodes) 4096) then
      some true
     else
      (idx t.Nodes (aL .i64 (aB t.Nodes) 1)).bind fun x =>
      some (neB x.Level (aB t.Hood)))))))).bind fun a =>
 (bif a then
  some false
 else
  (aK (b_tree_Right_1 t) aN 0).bind fun o=>match o with
   | .inl r =>
    some r
   | .inr _u =>
    some true)
def b_tree_value_1 (t:Tree) (in_:List Int) (stt:Int×Int):Option (Lp (Int×Int) (Int)):=match stt with
 | (k,a) =>
  (bif (ltB a (aB in_)) then
   (idx in_ a).bind fun x =>
   (idx t.Nodes k).bind fun x1 =>
   (idx x1.Next x).bind fun x2 =>
   some (.next (x2,(aO .i64 a 1)))
  else
   some (.out k))
def m_tree_value (t:Tree) (in_:List Int):Option (Int) :=
 (aK (b_tree_value_1 t in_) aN ((aL .i64 (aB t.Nodes) 1),0)).bind fun k =>
 some k
def m_tree_Quiet (t:Tree):Option (Bool) :=
 ((m_tree_Right t).bind fun y =>
 (bif y then
  (mkL 8 (aB t.Hood) (aB t.Hood) 0).bind fun _l =>
  (m_tree_value t (List.replicate (aB t.Hood).toNat 0)).bind fun y1 =>
  some (eqB y1 0)
 else
  some false)).bind fun a =>
 some a
def m_pattern_at (cv:Cell):Option (Point) :=
 some (⟨cv.X,cv.Y⟩:Point)
def m_pattern_placed (p:Point):Option (Bool) :=
 ((bif (leB (eE p.X p.Y) 1048576) then
  some (geB (ez p.X p.Y) (-1048576))
 else
  some false)).bind fun a =>
 some a
def m_pattern_order (a b:Cell):Option (Int) :=
 (m_pattern_at a).bind fun y =>
 (m_pattern_at b).bind fun y1 =>
 (m_point_Compare y y1).bind fun y2 =>
 some y2
def b_pattern_Right_1 (p:List Cell) (stt:Int):Option (Lp (Int) (Bool ⊕ Unit)):=match stt with
 | a =>
  (bif (ltB a (aB p)) then
   (idx p a).bind fun x =>
   ((m_pattern_at x).bind fun y =>
   (m_pattern_placed y).bind fun y1 =>
   (bif (ba y1) then
    some true
   else
    (bif (ltB x.S 1) then
     some true
    else
     (bif (geB x.S 8) then
      some true
     else
      (bif (gtB a 0) then
       (idx p (aL .i64 a 1)).bind fun x1 =>
       (m_pattern_order x1 x).bind fun y2 =>
       some (geB y2 0)
      else
       some false))))).bind fun a1 =>
   (bif a1 then
    some (.out (.inl false))
   else
    some (.next (aO .i64 a 1)))
  else
   some (.out (.inr ())))
def m_pattern_Right (p:List Cell):Option (Bool) :=
 (bif (gtB (aB p) 5000) then
  some false
 else
  (aK (b_pattern_Right_1 p) aN 0).bind fun o=>match o with
   | .inl r =>
    some r
   | .inr _u =>
    some true)
def b_pattern_Box_1 (p:List Cell) (stt:Int×Int×Int):Option (Lp (Int×Int×Int) ((Int×Int))):=match stt with
 | (left,right,a1) =>
  (bif (ltB a1 (aB p)) then
   (idx p a1).bind fun x1 =>
   some (.next ((ez left x1.X),(eE right x1.X),(aO .i64 a1 1)))
  else
   some (.out (left,right)))
def m_pattern_Box (p:List Cell):Option (Box×Bool) :=
 ((bif (eqB (aB p) 0) then
  some true
 else
  (m_pattern_Right p).bind fun y =>
  some (ba y))).bind fun a =>
 (bif a then
  some ((⟨0,0,0,0⟩:Box),false)
 else
  (idx p 0).bind fun x =>
  (aK (b_pattern_Box_1 p) aN (x.X,x.X,0)).bind fun(left,right) =>
  (idx p (aL .i64 (aB p) 1)).bind fun x1 =>
  some ((⟨left,x.Y,(aO .i64 (aL .i64 right left) 1),(aO .i64 (aL .i64 x1.Y x.Y) 1)⟩:Box),true))
def b_pattern_Top_1 (p:List Cell) (stt:Int×Int):Option (Lp (Int×Int) (Int)):=match stt with
 | (n,a) =>
  (bif (ltB a (aB p)) then
   (idx p a).bind fun x =>
   some (.next ((eE n x.S),(aO .i64 a 1)))
  else
   some (.out n))
def m_pattern_Top (p:List Cell):Option (Int) :=
 (aK (b_pattern_Top_1 p) aN (0,0)).bind fun n =>
 some n
def m_direct_check (t:Tree) (p:List Cell):Option (Int) :=
 (m_tree_Quiet t).bind fun y =>
 (bif (ba y) then
  some 11
 else
  (m_pattern_Right p).bind fun y1 =>
  (bif (ba y1) then
   some 2
  else
   (m_pattern_Top p).bind fun y2 =>
   (bif (geB y2 t.States) then
    some 10
   else
    some 0)))
def b_direct_of_1 (p:List Cell) (stt:Int×(List (Point×Int))):Option (Lp (Int×(List (Point×Int))) ((List (Point×Int)))):=match stt with
 | (a,m) =>
  (bif (ltB a (aB p)) then
   (idx p a).bind fun x =>
   (kckL [x.X,x.Y]).bind fun _u =>
   some (.next ((aO .i64 a 1),(cP m (⟨x.X,x.Y⟩:Point) x.S)))
  else
   some (.out m))
def m_direct_of (p:List Cell):Option (List (Point×Int)) :=
 (aK (b_direct_of_1 p) aN (0,[])).bind fun m =>
 some m
def b_direct_cells_next_o_1 (m:List (Point×Int)) (t:Tree) (p:Point) (stt:Int×Int):Option (Lp (Int×Int) (Int)):=match stt with
 | (k,a) =>
  (bif (ltB a (aB t.Hood)) then
   (idx t.Hood a).bind fun x =>
   (idx t.Nodes k).bind fun x1 =>
   (kckL [(aO .i64 p.X x.X),(aO .i64 p.Y x.Y)]).bind fun _u =>
   (idx x1.Next (bN m (⟨(aO .i64 p.X x.X),(aO .i64 p.Y x.Y)⟩:Point) 0)).bind fun x2 =>
   some (.next (x2,(aO .i64 a 1)))
  else
   some (.out k))
def m_direct_cells_next_o (m:List (Point×Int)) (t:Tree) (p:Point):Option (Int) :=
 (aK (b_direct_cells_next_o_1 m t p) aN ((aL .i64 (aB t.Nodes) 1),0)).bind fun k =>
 some k
def m_direct_place (p:Point):Option (Bool) :=
 ((bif (leB (eE p.X p.Y) 1048576) then
  some (geB (ez p.X p.Y) (-1048576))
 else
  some false)).bind fun a =>
 some a
def m_slices_SortFunc_api_Pattern_api_Cell_o_pattern_order (l:List Cell):Option (List Cell):=sortM cf_pattern_order l
def b_pattern_From_1 (l:List Cell) (stt:Int×(List Cell)):Option (Lp (Int×(List Cell)) (((List Cell)×Int) ⊕ (List Cell))):=match stt with
 | (a,out) =>
  (bif (ltB a (aB l)) then
   (idx l a).bind fun x =>
   (m_pattern_at x).bind fun y =>
   (m_pattern_placed y).bind fun y1 =>
   (bif (ba y1) then
    some (.out (.inl ([],5)))
   else
    ((bif (ltB x.S 0) then
     some true
    else
     some (geB x.S 8))).bind fun a1 =>
    (bif a1 then
     some (.out (.inl ([],10)))
    else
     (bif (gtB x.S 0) then
      (appL 24 out [x]).bind fun _l1 =>
      some (.next ((aO .i64 a 1),(out++[x])))
     else
      some (.next ((aO .i64 a 1),out)))))
  else
   some (.out (.inr out)))
def b_pattern_From_2 (_out y:List Cell) (stt:Int):Option (Lp (Int) (((List Cell)×Int) ⊕ Unit)):=match stt with
 | i =>
  (bif (ltB i (aB y)) then
   (idx y (aL .i64 i 1)).bind fun x =>
   (m_pattern_at x).bind fun y1 =>
   (idx y i).bind fun x1 =>
   (m_pattern_at x1).bind fun y2 =>
   (bif (bW (eqB y1.X y2.X) (bW (eqB y1.Y y2.Y) true)) then
    some (.out (.inl ([],8)))
   else
    some (.next (aO .i64 i 1)))
  else
   some (.out (.inr ())))
def m_pattern_From (l:List Cell):Option ((List Cell)×Int) :=
 (aK (b_pattern_From_1 l) aN (0,[])).bind fun o=>match o with
  | .inl r =>
   some r
  | .inr out =>
   (m_slices_SortFunc_api_Pattern_api_Cell_o_pattern_order out).bind fun y =>
   (aK (b_pattern_From_2 out y) aN 1).bind fun o=>match o with
    | .inl r =>
     some r
    | .inr _u =>
     (bif (gtB (aB y) 5000) then
      some ([],6)
     else
      some (y,0))
def b_direct_step_2 (t:Tree) (_p:List Cell) (y:List (Point×Int)) (_a:Int) (x:Cell) (stt:Int×(List (Point×Bool))×(List Cell)):Option (Lp (Int×(List (Point×Bool))×(List Cell)) (((List Cell)×Int) ⊕ ((List (Point×Bool))×(List Cell)))):=match stt with
 | (a1,ab,l1) =>
  (bif (ltB a1 (aB t.Hood)) then
   (idx t.Hood a1).bind fun x1 =>
   (kckL [(aL .i64 x.X x1.X),(aL .i64 x.Y x1.Y)]).bind fun _u =>
   (bif (bN ab (⟨(aL .i64 x.X x1.X),(aL .i64 x.Y x1.Y)⟩:Point) false) then
    some (.next ((aO .i64 a1 1),ab,l1))
   else
    (m_direct_cells_next_o y t (⟨(aL .i64 x.X x1.X),(aL .i64 x.Y x1.Y)⟩:Point)).bind fun y1 =>
    (bif (gtB y1 0) then
     (m_direct_place (⟨(aL .i64 x.X x1.X),(aL .i64 x.Y x1.Y)⟩:Point)).bind fun y2 =>
     (bif (ba y2) then
      some (.out (.inl ([],5)))
     else
      (appL 24 l1 [(⟨(aL .i64 x.X x1.X),(aL .i64 x.Y x1.Y),y1⟩:Cell)]).bind fun _l2 =>
      some (.next ((aO .i64 a1 1),(cP ab (⟨(aL .i64 x.X x1.X),(aL .i64 x.Y x1.Y)⟩:Point) true),(l1++[(⟨(aL .i64 x.X x1.X),(aL .i64 x.Y x1.Y),y1⟩:Cell)]))))
    else
     some (.next ((aO .i64 a1 1),(cP ab (⟨(aL .i64 x.X x1.X),(aL .i64 x.Y x1.Y)⟩:Point) true),l1))))
  else
   some (.out (.inr (ab,l1))))
def b_direct_step_1 (t:Tree) (p:List Cell) (y:List (Point×Int)) (stt:Int×(List (Point×Bool))×(List Cell)):Option (Lp (Int×(List (Point×Bool))×(List Cell)) (((List Cell)×Int) ⊕ (List Cell))):=match stt with
 | (a,done,l) =>
  (bif (ltB a (aB p)) then
   (idx p a).bind fun x =>
   (aK (b_direct_step_2 t p y a x) aN (0,done,l)).bind fun o=>match o with
    | .inl r =>
     some (.out (.inl r))
    | .inr (ab,l1) =>
     some (.next ((aO .i64 a 1),ab,l1))
  else
   some (.out (.inr l)))
def m_direct_step (t:Tree) (p:List Cell):Option ((List Cell)×Int) :=
 (m_direct_of p).bind fun y =>
 (aK (b_direct_step_1 t p y) aN (0,[],[])).bind fun o=>match o with
  | .inl r =>
   some r
  | .inr l =>
   (m_pattern_From l).bind fun y1 =>
   some (y1.1,y1.2)
def b_direct_Run_1 (t:Tree) (n:Int) (stt:(List Cell)×Int):Option (Lp ((List Cell)×Int) (((List Cell)×Int) ⊕ (List Cell))):=match stt with
 | (p1,a1) =>
  (bif (ltB a1 n) then
   (m_direct_step t p1).bind fun y1 =>
   (bif (neB y1.2 0) then
    some (.out (.inl ([],y1.2)))
   else
    some (.next (y1.1,(aO .i64 a1 1))))
  else
   some (.out (.inr p1)))
def m_direct_Run (t:Tree) (p:List Cell) (n:Int):Option ((List Cell)×Int) :=
 (m_direct_check t p).bind fun y =>
 (bif (neB y 0) then
  some ([],y)
 else
  ((bif (ltB n 0) then
   some true
  else
   some (gtB n 10000))).bind fun a =>
  (bif a then
   some ([],2)
  else
   (aK (b_direct_Run_1 t n) aN (p,0)).bind fun o=>match o with
    | .inl r =>
     some r
    | .inr p1 =>
     some (p1,0)))
def m_period_proper (n:Int):Option (Bool) :=
 ((bif (geB n 1) then
  some (leB n 64)
 else
  some false)).bind fun a =>
 some a
def m_direct_Step (t:Tree) (p:List Cell):Option ((List Cell)×Int) :=
 (m_direct_check t p).bind fun y =>
 (bif (neB y 0) then
  some ([],y)
 else
  (m_direct_step t p).bind fun y1 =>
  some (y1.1,y1.2))
def b_period_moved_1 (a b:List Cell) (x x1:Cell) (stt:Int):Option (Lp (Int) ((Int×Int×Bool) ⊕ Unit)):=match stt with
 | a2 =>
  (bif (ltB a2 (aB a)) then
   (idx b a2).bind fun x2 =>
   (idx a a2).bind fun x3 =>
   (bif (ba (bW (eqB x2.X (aO .i64 x3.X (aL .i64 x.X x1.X))) (bW (eqB x2.Y (aO .i64 x3.Y (aL .i64 x.Y x1.Y))) (bW (eqB x2.S x3.S) true)))) then
    some (.out (.inl (0,0,false)))
   else
    some (.next (aO .i64 a2 1)))
  else
   some (.out (.inr ())))
def m_period_moved (a b:List Cell):Option (Int×Int×Bool) :=
 ((bif (neB (aB a) (aB b)) then
  some true
 else
  some (eqB (aB a) 0))).bind fun a1 =>
 (bif a1 then
  some (0,0,false)
 else
  (idx b 0).bind fun x =>
  (idx a 0).bind fun x1 =>
  (aK (b_period_moved_1 a b x x1) aN 0).bind fun o=>match o with
   | .inl r =>
    some r
   | .inr _u =>
    some ((aL .i64 x.X x1.X),(aL .i64 x.Y x1.Y),true))
def b_period_Find_1 (t:Tree) (p:List Cell) (most:Int) (stt:(List Cell)×Int):Option (Lp ((List Cell)×Int) ((Motion×Bool×Int) ⊕ Unit)):=match stt with
 | (q,gv) =>
  ((bif (leB gv most) then
   some (gtB (aB q) 0)
  else
   some false)).bind fun a =>
  (bif a then
   (m_direct_Step t q).bind fun y2 =>
   (bif (neB y2.2 0) then
    some (.out (.inl ((⟨0,0,0⟩:Motion),false,y2.2)))
   else
    (m_period_moved p y2.1).bind fun y3 =>
    (bif y3.2.2 then
     some (.out (.inl ((⟨gv,y3.1,y3.2.1⟩:Motion),true,0)))
    else
     some (.next (y2.1,(aO .i64 gv 1)))))
  else
   some (.out (.inr ())))
def m_period_Find (t:Tree) (p:List Cell) (most:Int):Option (Motion×Bool×Int) :=
 (m_direct_Run t p 0).bind fun y =>
 (bif (neB y.2 0) then
  some ((⟨0,0,0⟩:Motion),false,y.2)
 else
  (m_period_proper most).bind fun y1 =>
  (bif (ba y1) then
   some ((⟨0,0,0⟩:Motion),false,2)
  else
   (aK (b_period_Find_1 t p most) aN (p,1)).bind fun o=>match o with
    | .inl r =>
     some r
    | .inr _u =>
     some ((⟨0,0,0⟩:Motion),false,0)))
def m_period_Has (t:Tree) (p:List Cell) (m:Motion):Option (Bool×Int) :=
 (m_period_Find t p m.Period).bind fun y =>
 ((bif y.2.1 then
  some (bW (eqB y.1.Period m.Period) (bW (eqB y.1.DX m.DX) (bW (eqB y.1.DY m.DY) true)))
 else
  some false)).bind fun a =>
 some (a,y.2.2)
def m_ship_Right (t:Tree) (s:Ship):Option (Bool) :=
 (m_pattern_Box s.Cells).bind fun y =>
 ((bif (ba y.2) then
  some true
 else
  (bif (gtB y.1.W 10000) then
   some true
  else
   some (gtB y.1.H 10000)))).bind fun a =>
 (bif a then
  some false
 else
  (m_period_Has t s.Cells s.Motion).bind fun y1 =>
  ((bif y1.1 then
   some (eqB y1.2 0)
  else
   some false)).bind fun a1 =>
  some a1)
def b_algebra_Home_1 (p:List Cell) (y:Box×Bool) (stt:Int×(List Cell)):Option (Lp (Int×(List Cell)) ((List Cell))):=match stt with
 | (a1,out) =>
  (bif (ltB a1 (aB p)) then
   (idx p a1).bind fun x =>
   (appL 24 out [(⟨(aL .i64 x.X y.1.X),(aL .i64 x.Y y.1.Y),x.S⟩:Cell)]).bind fun _l1 =>
   some (.next ((aO .i64 a1 1),(out++[(⟨(aL .i64 x.X y.1.X),(aL .i64 x.Y y.1.Y),x.S⟩:Cell)])))
  else
   some (.out out))
def m_algebra_Home (p:List Cell):Option (List Cell) :=
 (m_pattern_Box p).bind fun y =>
 ((bif (ba y.2) then
  some true
 else
  (m_pattern_Right p).bind fun y1 =>
  some (ba y1))).bind fun a =>
 (bif a then
  some p
 else
  (mkL 24 0 (aB p) (⟨0,0,0⟩:Cell)).bind fun _l =>
  (aK (b_algebra_Home_1 p y) aN (0,[])).bind fun out =>
  some out)
def m_ship_Phase (t:Tree) (s:Ship) (n:Int):Option ((List Cell)×Int) :=
 (m_tree_Quiet t).bind fun y =>
 (bif (ba y) then
  some ([],11)
 else
  ((bif (ltB n 0) then
   some true
  else
   (bif (gtB n 10000) then
    some true
   else
    (m_ship_Right t s).bind fun y1 =>
    some (ba y1)))).bind fun a =>
  (bif a then
   some ([],2)
  else
   (irem n s.Motion.Period).bind fun n1 =>
   (m_direct_Run t s.Cells n1).bind fun y1 =>
   (m_algebra_Home y1.1).bind fun y2 =>
   some (y2,y1.2)))
def m_symmetry_Apply (k:Int) (p:Point):Option (Point) :=
 (aidx 8 g0R (iand .i64 k 7)).bind fun x =>
 some (⟨(aO .i64 (bP .i64 x.1 p.X) (bP .i64 x.2.1 p.Y)),(aO .i64 (bP .i64 x.2.2.1 p.X) (bP .i64 x.2.2.2 p.Y))⟩:Point)
def m_algebra_order (a b:Cell):Option (Int) :=
 (m_cmp_Compare_int a.Y b.Y).bind fun y =>
 (m_cmp_Compare_int a.X b.X).bind fun y1 =>
 (m_cmp_Or_int [y,y1]).bind fun y2 =>
 some y2
def m_slices_SortFunc_api_Pattern_api_Cell_o_algebra_order (l:List Cell):Option (List Cell):=sortM cf_algebra_order l
def b_algebra_Turn_1 (k:Int) (p:List Cell) (stt:Int×(List Cell)):Option (Lp (Int×(List Cell)) ((List Cell))):=match stt with
 | (a,out) =>
  (bif (ltB a (aB p)) then
   (idx p a).bind fun x =>
   (m_symmetry_Apply k (⟨x.X,x.Y⟩:Point)).bind fun y1 =>
   (appL 24 out [(⟨y1.X,y1.Y,x.S⟩:Cell)]).bind fun _l1 =>
   some (.next ((aO .i64 a 1),(out++[(⟨y1.X,y1.Y,x.S⟩:Cell)])))
  else
   some (.out out))
def m_algebra_Turn (k:Int) (p:List Cell):Option ((List Cell)×Int) :=
 (m_pattern_Right p).bind fun y =>
 (bif (ba y) then
  some ([],2)
 else
  (mkL 24 0 (aB p) (⟨0,0,0⟩:Cell)).bind fun _l =>
  (aK (b_algebra_Turn_1 k p) aN (0,[])).bind fun out =>
  (m_slices_SortFunc_api_Pattern_api_Cell_o_algebra_order out).bind fun y1 =>
  some (y1,0))
def m_slices_Clone_api_Pattern_api_Cell (l:List Cell):Option (List Cell):=appL 24 [] l
def b_pattern_Shift_1 (dx dy:Int) (y1:List Cell) (stt:Int×(List Cell)):Option (Lp (Int×(List Cell)) (((List Cell)×Int) ⊕ (List Cell))):=match stt with
 | (a1,out) =>
  (bif (ltB a1 (aB y1)) then
   (idx out a1).bind fun x =>
   (idx (out.set a1.toNat (⟨(aO .i64 x.X dx),x.Y,x.S⟩:Cell)) a1).bind fun x1 =>
   (idx ((out.set a1.toNat (⟨(aO .i64 x.X dx),x.Y,x.S⟩:Cell)).set a1.toNat (⟨x1.X,(aO .i64 x1.Y dy),x1.S⟩:Cell)) a1).bind fun x2 =>
   (m_pattern_at x2).bind fun y2 =>
   (m_pattern_placed y2).bind fun y3 =>
   (bif (ba y3) then
    some (.out (.inl ([],5)))
   else
    some (.next ((aO .i64 a1 1),((out.set a1.toNat (⟨(aO .i64 x.X dx),x.Y,x.S⟩:Cell)).set a1.toNat (⟨x1.X,(aO .i64 x1.Y dy),x1.S⟩:Cell)))))
  else
   some (.out (.inr out)))
def m_pattern_Shift (p:List Cell) (dx dy:Int):Option ((List Cell)×Int) :=
 (m_pattern_Right p).bind fun y =>
 (bif (ba y) then
  some ([],2)
 else
  ((bif (gtB (eE dx dy) 2097152) then
   some true
  else
   some (ltB (ez dx dy) (-2097152)))).bind fun a =>
  (bif a then
   some ([],5)
  else
   (m_slices_Clone_api_Pattern_api_Cell p).bind fun y1 =>
   (aK (b_pattern_Shift_1 dx dy y1) aN (0,y1)).bind fun o=>match o with
    | .inl r =>
     some r
    | .inr out =>
     some (out,0)))
def m_ship_Place (t:Tree) (ships:List Ship) (x:Shot):Option ((List Cell)×Int) :=
 (m_tree_Quiet t).bind fun y =>
 (bif (ba y) then
  some ([],11)
 else
  ((bif (ltB x.Ship 0) then
   some true
  else
   some (geB x.Ship (aB ships)))).bind fun a =>
  (bif a then
   some ([],13)
  else
   ((bif (ltB x.Sym 0) then
    some true
   else
    some (gtB x.Sym 7))).bind fun a1 =>
   (bif a1 then
    some ([],2)
   else
    (idx ships x.Ship).bind fun x1 =>
    (m_ship_Phase t x1 x.Phase).bind fun y1 =>
    (bif (neB y1.2 0) then
     some ([],y1.2)
    else
     (m_algebra_Turn x.Sym y1.1).bind fun y2 =>
     (bif (neB y2.2 0) then
      some ([],y2.2)
     else
      (m_algebra_Home y2.1).bind fun y3 =>
      (m_pattern_Shift y3 x.X x.Y).bind fun y4 =>
      some (y4.1,y4.2))))))
def m_slices_Clone_int_int (l:List Int):Option (List Int):=appL 8 [] l
def m_reduce_Reduce_1 (_x:Int) (next:List Int):Option (List Int) :=
 some next
def m_internal_strconv_AppendInt_N (i base:Int):Option (List Int) :=
 ((bif (ltB i 0) then
  (appL 1 [] [45]).bind fun _l =>
  some ((ineg .u64 (bI .u64 i)),([]++[45]))
 else
  some ((bI .u64 i),[]))).bind fun(u,dst) =>
 (m_internal_strconv_AppendUint_o dst u base).bind fun y =>
 some y
def m_strconv_AppendInt_N (i base:Int):Option (List Int) :=
 (m_internal_strconv_AppendInt_N i base).bind fun y =>
 some y
def b_reduce_builder_node_o_1 (_ag:List Node) (_a8:List (List UInt8×Int)) (_level:Int) (next:List Int) (stt:Int×(List Int)):Option (Lp (Int×(List Int)) ((List Int))):=match stt with
 | (a,keyv) =>
  (bif (ltB a (aB next)) then
   (idx next a).bind fun x =>
   (appL 1 keyv [32]).bind fun _l =>
   (m_strconv_AppendInt_o (keyv++[32]) x 10).bind fun y1 =>
   some (.next ((aO .i64 a 1),y1))
  else
   some (.out keyv))
def m_reduce_builder_node_o (ag:List Node) (a8:List (List UInt8×Int)) (level:Int) (next:List Int):Option (Int×(List (List UInt8×Int))×(List Node)) :=
 (m_strconv_AppendInt_N level 10).bind fun y =>
 (aK (b_reduce_builder_node_o_1 ag a8 level next) aN (0,y)).bind fun keyv =>
 (kckS (ofBytes keyv)).bind fun _u =>
 (bif (cS a8 (ofBytes keyv)) then
  some ((bN a8 (ofBytes keyv) 0),a8,ag)
 else
  (appL 32 ag [(⟨level,next⟩:Node)]).bind fun _l =>
  some ((aL .i64 ((aB ag)+1) 1),(cP a8 (ofBytes keyv) (aL .i64 ((aB ag)+1) 1)),(ag++[(⟨level,next⟩:Node)])))
def b_reduce_ordered_1_o_o_o_o_1 (rcv:(Int->(List Int)->(List Node)->(List Node)->Option (Int×(List Int)×(List Node)))) (_k:Int) (a1:List Node) (x1:Node) (y:List Int) (stt:Int×(List Int)×(List Node)×(List Int)):Option (Lp (Int×(List Int)×(List Node)×(List Int)) (((List Int)×(List Node)×(List Int)))):=match stt with
 | (a2,l,l2,l1) =>
  (bif (ltB a2 (aB y)) then
   ((idx l a2).bind fun x2 =>
   (bif (gtB x1.Level 1) then
    (rcv x2 l1 a1 l2).bind fun y1 =>
    some ((l.set a2.toNat y1.1),y1.2.1,y1.2.2)
   else
    some (l,l1,l2))).bind fun(l3,l4,l5) =>
   some (.next ((aO .i64 a2 1),l3,l5,l4))
  else
   some (.out (l,l2,l1)))
def mb_reduce_ordered_1_o_o_o_o (rcv:(Int->(List Int)->(List Node)->(List Node)->Option (Int×(List Int)×(List Node)))) (k:Int) (a:List Int) (a1 cv:List Node):Option (Int×(List Int)×(List Node)) :=
 (idx a k).bind fun x =>
 (bif (gtB x 0) then
  some ((aL .i64 x 1),a,cv)
 else
  (idx a1 k).bind fun x1 =>
  (m_slices_Clone_int_int x1.Next).bind fun y =>
  (aK (b_reduce_ordered_1_o_o_o_o_1 rcv k a1 x1 y) aN (0,y,cv,a)).bind fun(l,l1,l2) =>
  (appL 32 l1 [(⟨x1.Level,l⟩:Node)]).bind fun _l3 =>
  (idx l2 k).bind fun _x2 =>
  some ((aL .i64 ((aB l1)+1) 1),(l2.set k.toNat ((aB l1)+1)),(l1++[(⟨x1.Level,l⟩:Node)])))
def m_reduce_ordered_1_o_o_o_o (k:Int) (a:List Int) (a1 cv:List Node):Option (Int×(List Int)×(List Node)):=recN mb_reduce_ordered_1_o_o_o_o (fun _ _ _ _=>none) recF k a a1 cv
def m_reduce_ordered (nodes:List Node) (root:Int):Option (List Node) :=
 (mkL 8 (aB nodes) (aB nodes) 0).bind fun _l =>
 (m_reduce_ordered_1_o_o_o_o root (List.replicate (aB nodes).toNat 0) nodes []).bind fun y =>
 some y.2.2
def b_reduce_rebuilt_reduce_Reduce_1_w_2 (_t:Tree) (_a:Int) (_mp:List (List UInt8×Int)) (_l:List Node) (to_:List Int) (x:Node) (y:List Int) (stt:Int×(List Int)):Option (Lp (Int×(List Int)) ((List Int))):=match stt with
 | (a1,next) =>
  (bif (ltB a1 (aB y)) then
   ((idx next a1).bind fun x1 =>
   (bif (gtB x.Level 1) then
    (idx to_ x1).bind fun x2 =>
    some (next.set a1.toNat x2)
   else
    some next)).bind fun next1 =>
   some (.next ((aO .i64 a1 1),next1))
  else
   some (.out next))
def b_reduce_rebuilt_reduce_Reduce_1_w_1 (t:Tree) (stt:Int×(List (List UInt8×Int))×(List Node)×(List Int)):Option (Lp (Int×(List (List UInt8×Int))×(List Node)×(List Int)) (((List (List UInt8×Int))×(List Node)×(List Int)))):=match stt with
 | (a,mp,l,to_) =>
  (bif (ltB a (aB t.Nodes)) then
   (idx t.Nodes a).bind fun x =>
   (m_slices_Clone_int_int x.Next).bind fun y =>
   (aK (b_reduce_rebuilt_reduce_Reduce_1_w_2 t a mp l to_ x y) aN (0,y)).bind fun next =>
   (m_reduce_Reduce_1 x.Level next).bind fun y1 =>
   (m_reduce_builder_node_o l mp x.Level y1).bind fun y2 =>
   (appL 8 to_ [y2.1]).bind fun _l1 =>
   some (.next ((aO .i64 a 1),y2.2.1,y2.2.2,(to_++[y2.1])))
  else
   some (.out (mp,l,to_)))
def m_reduce_rebuilt_reduce_Reduce_1_w (t:Tree):Option (List Node) :=
 (aK (b_reduce_rebuilt_reduce_Reduce_1_w_1 t) aN (0,[],[],[])).bind fun(_mp,l,to_) =>
 (m_slices_Clone_api_Point_api_Point t.Hood).bind fun _l1 =>
 (idx to_ (aL .i64 (aB to_) 1)).bind fun x =>
 (m_reduce_ordered l x).bind fun y =>
 some y
def m_reduce_Reduce_w (t:Tree):Option (Int×(List Node)×(List Point)) :=
 (m_tree_Right t).bind fun y =>
 (bif (ba y) then
  some (0,[],[])
 else
  (m_reduce_rebuilt_reduce_Reduce_1_w t).bind fun y1 =>
  some (t.States,y1,t.Hood))
def b_reduce_builder_node_o_o_1 (_ag:List Node) (_a8:List (List UInt8×Int)) (_level:Int) (next:List Int) (stt:Int×(List Int)):Option (Lp (Int×(List Int)) ((List Int))):=match stt with
 | (a,keyv) =>
  (bif (ltB a (aB next)) then
   (idx next a).bind fun x =>
   (appL 1 keyv [32]).bind fun _l =>
   (m_strconv_AppendInt_o (keyv++[32]) x 10).bind fun y1 =>
   some (.next ((aO .i64 a 1),y1))
  else
   some (.out keyv))
def m_reduce_builder_node_o_o (ag:List Node) (a8:List (List UInt8×Int)) (level:Int) (next:List Int):Option (Int×(List (List UInt8×Int))×(List Node)) :=
 (m_strconv_AppendInt_N level 10).bind fun y =>
 (aK (b_reduce_builder_node_o_o_1 ag a8 level next) aN (0,y)).bind fun keyv =>
 (kckS (ofBytes keyv)).bind fun _u =>
 (bif (cS a8 (ofBytes keyv)) then
  some ((bN a8 (ofBytes keyv) 0),a8,ag)
 else
  (appL 32 ag [(⟨level,next⟩:Node)]).bind fun _l =>
  some ((aL .i64 ((aB ag)+1) 1),(cP a8 (ofBytes keyv) (aL .i64 ((aB ag)+1) 1)),(ag++[(⟨level,next⟩:Node)])))
def b_reduce_swapped_o_w_3 (_ae:Int) (ak:List Point) (ac:List Node) (i _a:Int) (to_:List Int) (x:Node) (a1:Int) (_mp1:List (List UInt8×Int)) (_next:List Int) (_l3:List Node) (stt:Int×(List Int)):Option (Lp (Int×(List Int)) ((List Int))):=match stt with
 | (a2,inner) =>
  (bif (ltB a2 (aB x.Next)) then
   ((idx x.Next a2).bind fun x2 =>
   (idx ac x2).bind fun x3 =>
   (idx x3.Next a1).bind fun x4 =>
   (idx inner a2).bind fun _x5 =>
   (bif (gtB (aL .i64 (aB ak) i) 2) then
    (idx (inner.set a2.toNat x4) a2).bind fun x6 =>
    (idx to_ x6).bind fun x7 =>
    some ((inner.set a2.toNat x4).set a2.toNat x7)
   else
    some (inner.set a2.toNat x4))).bind fun inner1 =>
   some (.next ((aO .i64 a2 1),inner1))
  else
   some (.out inner))
def b_reduce_swapped_o_w_2 (ae:Int) (ak:List Point) (ac:List Node) (i a:Int) (to_:List Int) (x:Node) (stt:Int×(List (List UInt8×Int))×(List Int)×(List Node)):Option (Lp (Int×(List (List UInt8×Int))×(List Int)×(List Node)) (((List (List UInt8×Int))×(List Int)×(List Node)))):=match stt with
 | (a1,mp1,next,l3) =>
  (bif (ltB a1 (aB x.Next)) then
   (idx x.Next a1).bind fun x1 =>
   (bif (eqB x.Level (aL .i64 (aB ak) i)) then
    (mkL 8 ae ae 0).bind fun _l4 =>
    (aK (b_reduce_swapped_o_w_3 ae ak ac i a to_ x a1 mp1 next l3) aN (0,(List.replicate ae.toNat 0))).bind fun inner =>
    (m_reduce_builder_node_o_o l3 mp1 (aL .i64 (aL .i64 (aB ak) i) 1) inner).bind fun y =>
    (idx next a1).bind fun _x2 =>
    some (.next ((aO .i64 a1 1),y.2.1,(next.set a1.toNat y.1),y.2.2))
   else
    (bif (gtB x.Level 1) then
     (idx to_ x1).bind fun x2 =>
     (idx next a1).bind fun _x3 =>
     some (.next ((aO .i64 a1 1),mp1,(next.set a1.toNat x2),l3))
    else
     (idx next a1).bind fun _x2 =>
     some (.next ((aO .i64 a1 1),mp1,(next.set a1.toNat x1),l3))))
  else
   some (.out (mp1,next,l3)))
def b_reduce_swapped_o_w_1 (ae:Int) (ak:List Point) (ac:List Node) (i:Int) (stt:Int×(List (List UInt8×Int))×(List Int)×(List Node)):Option (Lp (Int×(List (List UInt8×Int))×(List Int)×(List Node)) (((List (List UInt8×Int))×(List Int)×(List Node)))):=match stt with
 | (a,mp,to_,l1) =>
  (bif (ltB a (aB ac)) then
   (idx ac a).bind fun x =>
   (bif (eqB x.Level (aL .i64 (aL .i64 (aB ak) i) 1)) then
    some (.next ((aO .i64 a 1),mp,to_,l1))
   else
    (mkL 8 ae ae 0).bind fun _l2 =>
    (aK (b_reduce_swapped_o_w_2 ae ak ac i a to_ x) aN (0,mp,(List.replicate ae.toNat 0),l1)).bind fun(mp1,next,l3) =>
    (m_reduce_builder_node_o_o l3 mp1 x.Level next).bind fun y =>
    (idx to_ a).bind fun _x1 =>
    some (.next ((aO .i64 a 1),y.2.1,(to_.set a.toNat y.1),y.2.2)))
  else
   some (.out (mp,to_,l1)))
def m_reduce_swapped_o_w (ae:Int) (ak:List Point) (ac:List Node) (i:Int):Option (List Node) :=
 (mkL 8 (aB ac) (aB ac) 0).bind fun _l =>
 (aK (b_reduce_swapped_o_w_1 ae ak ac i) aN (0,[],(List.replicate (aB ac).toNat 0),[])).bind fun(_mp,to_,l1) =>
 (idx to_ (aL .i64 (aB to_) 1)).bind fun x =>
 (m_reduce_ordered l1 x).bind fun y =>
 some y
def m_reduce_sized (t:Tree):Option (Tree×Int) :=
 (bif (gtB (aB t.Nodes) 4096) then
  some ((⟨0,[],[]⟩:Tree),6)
 else
  some (t,0))
def b_reduce_Turn_1 (k:Int) (y1:Int×(List Node)×(List Point)) (stt:Int×(List Point)):Option (Lp (Int×(List Point)) ((List Point))):=match stt with
 | (a,l) =>
  (bif (ltB a (aB y1.2.2)) then
   (idx l a).bind fun x =>
   (m_symmetry_Apply k x).bind fun y2 =>
   some (.next ((aO .i64 a 1),(l.set a.toNat y2)))
  else
   some (.out l))
def b_reduce_Turn_3 (y1:Int×(List Node)×(List Point)) (stt:Bool×Int×(List Node)×(List Point)):Option (Lp (Bool×Int×(List Node)×(List Point)) ((Bool×(List Node)×(List Point)))):=match stt with
 | (aw,i,au,l2) =>
  (bif (ltB i (aB l2)) then
   ((idx l2 (aL .i64 i 1)).bind fun x =>
   (idx l2 i).bind fun x1 =>
   (m_point_Compare x x1).bind fun y2 =>
   (bif (gtB y2 0) then
    (m_reduce_swapped_o_w y1.1 l2 au (aL .i64 i 1)).bind fun y3 =>
    (idx (l2.set (aL .i64 i 1).toNat x1) i).bind fun _x2 =>
    some (false,y3,((l2.set (aL .i64 i 1).toNat x1).set i.toNat x))
   else
    some (aw,au,l2))).bind fun(sorted2,uNodes2,l3) =>
   some (.next (sorted2,(aO .i64 i 1),uNodes2,l3))
  else
   some (.out (aw,au,l2)))
def b_reduce_Turn_2 (y1:Int×(List Node)×(List Point)) (stt:Bool×(List Node)×(List Point)):Option (Lp (Bool×(List Node)×(List Point)) (((List Node)×(List Point)))):=match stt with
 | (sorted,az,l1) =>
  (bif (ba sorted) then
   (aK (b_reduce_Turn_3 y1) aN (true,1,az,l1)).bind fun(aw,au,l2) =>
   some (.next (aw,au,l2))
  else
   some (.out (az,l1)))
def m_reduce_Turn (k:Int) (t:Tree):Option (Tree×Int) :=
 (m_tree_Right t).bind fun y =>
 (bif (ba y) then
  some ((⟨0,[],[]⟩:Tree),11)
 else
  (m_reduce_Reduce_w t).bind fun y1 =>
  (aK (b_reduce_Turn_1 k y1) aN (0,y1.2.2)).bind fun l =>
  (aK (b_reduce_Turn_2 y1) aN (false,y1.2.1,l)).bind fun(az,l1) =>
  (m_reduce_sized (⟨y1.1,l1,az⟩:Tree)).bind fun y2 =>
  some (y2.1,y2.2))
def b_reduce_rebuilt_reduce_Reduce_1_2 (_t:Tree) (_a:Int) (_mp:List (List UInt8×Int)) (_l:List Node) (to_:List Int) (x:Node) (y:List Int) (stt:Int×(List Int)):Option (Lp (Int×(List Int)) ((List Int))):=match stt with
 | (a1,next) =>
  (bif (ltB a1 (aB y)) then
   ((idx next a1).bind fun x1 =>
   (bif (gtB x.Level 1) then
    (idx to_ x1).bind fun x2 =>
    some (next.set a1.toNat x2)
   else
    some next)).bind fun next1 =>
   some (.next ((aO .i64 a1 1),next1))
  else
   some (.out next))
def b_reduce_rebuilt_reduce_Reduce_1_1 (t:Tree) (stt:Int×(List (List UInt8×Int))×(List Node)×(List Int)):Option (Lp (Int×(List (List UInt8×Int))×(List Node)×(List Int)) (((List (List UInt8×Int))×(List Node)×(List Int)))):=match stt with
 | (a,mp,l,to_) =>
  (bif (ltB a (aB t.Nodes)) then
   (idx t.Nodes a).bind fun x =>
   (m_slices_Clone_int_int x.Next).bind fun y =>
   (aK (b_reduce_rebuilt_reduce_Reduce_1_2 t a mp l to_ x y) aN (0,y)).bind fun next =>
   (m_reduce_Reduce_1 x.Level next).bind fun y1 =>
   (m_reduce_builder_node_o l mp x.Level y1).bind fun y2 =>
   (appL 8 to_ [y2.1]).bind fun _l1 =>
   some (.next ((aO .i64 a 1),y2.2.1,y2.2.2,(to_++[y2.1])))
  else
   some (.out (mp,l,to_)))
def m_reduce_rebuilt_reduce_Reduce_1 (t:Tree):Option (Tree) :=
 (aK (b_reduce_rebuilt_reduce_Reduce_1_1 t) aN (0,[],[],[])).bind fun(_mp,l,to_) =>
 (m_slices_Clone_api_Point_api_Point t.Hood).bind fun y =>
 (idx to_ (aL .i64 (aB to_) 1)).bind fun x =>
 (m_reduce_ordered l x).bind fun y1 =>
 some (⟨t.States,y,y1⟩:Tree)
def m_reduce_Reduce (t:Tree):Option (Tree) :=
 (m_tree_Right t).bind fun y =>
 (bif (ba y) then
  some (⟨0,[],[]⟩:Tree)
 else
  (m_reduce_rebuilt_reduce_Reduce_1 t).bind fun y1 =>
  some y1)
def b_slices_Equal_int_int_1 (sv1 sv2:List Int) (stt:Int):Option (Lp (Int) (Bool ⊕ Unit)):=match stt with
 | a =>
  (bif (ltB a (aB sv1)) then
   (idx sv1 a).bind fun x =>
   (idx sv2 a).bind fun x1 =>
   (bif (neB x x1) then
    some (.out (.inl false))
   else
    some (.next (aO .i64 a 1)))
  else
   some (.out (.inr ())))
def m_slices_Equal_int_int (sv1 sv2:List Int):Option (Bool) :=
 (bif (neB (aB sv1) (aB sv2)) then
  some false
 else
  (aK (b_slices_Equal_int_int_1 sv1 sv2) aN 0).bind fun o=>match o with
   | .inl r =>
    some r
   | .inr _u =>
    some true)
def m_tree_Same_1 (x y:Node):Option (Bool) :=
 ((bif (eqB x.Level y.Level) then
  (m_slices_Equal_int_int x.Next y.Next).bind fun y1 =>
  some y1
 else
  some false)).bind fun a =>
 some a
def b_slices_EqualFunc_api_Node_api_Node_api_Node_api_Node_tree_Same_1_1 (sv1 sv2:List Node) (stt:Int):Option (Lp (Int) (Bool ⊕ Unit)):=match stt with
 | a =>
  (bif (ltB a (aB sv1)) then
   (idx sv1 a).bind fun x =>
   (idx sv2 a).bind fun x1 =>
   (m_tree_Same_1 x x1).bind fun y =>
   (bif (ba y) then
    some (.out (.inl false))
   else
    some (.next (aO .i64 a 1)))
  else
   some (.out (.inr ())))
def m_slices_EqualFunc_api_Node_api_Node_api_Node_api_Node_tree_Same_1 (sv1 sv2:List Node):Option (Bool) :=
 (bif (neB (aB sv1) (aB sv2)) then
  some false
 else
  (aK (b_slices_EqualFunc_api_Node_api_Node_api_Node_api_Node_tree_Same_1_1 sv1 sv2) aN 0).bind fun o=>match o with
   | .inl r =>
    some r
   | .inr _u =>
    some true)
def m_tree_Same (a b:Tree):Option (Bool) :=
 ((bif (eqB a.States b.States) then
  (m_hood_Same a.Hood b.Hood).bind fun y =>
  (bif y then
   (m_slices_EqualFunc_api_Node_api_Node_api_Node_api_Node_tree_Same_1 a.Nodes b.Nodes).bind fun y1 =>
   some y1
  else
   some false)
 else
  some false)).bind fun a1 =>
 some a1
def m_reduce_Equal (a b:Tree):Option (Bool) :=
 ((m_tree_Right a).bind fun y =>
 (bif y then
  (m_tree_Right b).bind fun y1 =>
  (bif y1 then
   (bif (eqB a.States b.States) then
    (m_hood_Same a.Hood b.Hood).bind fun y2 =>
    (bif y2 then
     (m_reduce_Reduce a).bind fun y3 =>
     (m_reduce_Reduce b).bind fun y4 =>
     (m_tree_Same y3 y4).bind fun y5 =>
     some y5
    else
     some false)
   else
    some false)
  else
   some false)
 else
  some false)).bind fun a1 =>
 some a1
def m_ship_Turned (k:Int) (m:Motion):Option (Motion) :=
 (m_symmetry_Apply k (⟨m.DX,m.DY⟩:Point)).bind fun y =>
 some (⟨m.Period,y.X,y.Y⟩:Motion)
def m_ship_corner (t:Tree) (s:Ship) (sym n:Int):Option (Point×Int) :=
 (irem n s.Motion.Period).bind fun n1 =>
 (m_direct_Run t s.Cells n1).bind fun y =>
 (bif (neB y.2 0) then
  some ((⟨0,0⟩:Point),y.2)
 else
  (m_algebra_Turn sym y.1).bind fun y1 =>
  (bif (neB y1.2 0) then
   some ((⟨0,0⟩:Point),y1.2)
  else
   (m_pattern_Box y1.1).bind fun y2 =>
   (m_ship_Turned sym s.Motion).bind fun y3 =>
   (iquo .i64 n s.Motion.Period).bind fun n2 =>
   some ((⟨(aO .i64 y2.1.X (bP .i64 n2 y3.DX)),(aO .i64 y2.1.Y (bP .i64 n2 y3.DY))⟩:Point),0)))
def m_ship_Later (t:Tree) (ships:List Ship) (x:Shot) (n:Int):Option (Shot×Int) :=
 (m_ship_Place t ships x).bind fun y =>
 (bif (neB y.2 0) then
  some ((⟨0,0,0,0,0⟩:Shot),y.2)
 else
  ((bif (ltB n 0) then
   some true
  else
   some (gtB n 10000))).bind fun a =>
  (bif a then
   some ((⟨0,0,0,0,0⟩:Shot),2)
  else
   (m_reduce_Turn x.Sym t).bind fun y1 =>
   ((bif (neB y1.2 0) then
    some true
   else
    (m_reduce_Equal t y1.1).bind fun y2 =>
    some (ba y2))).bind fun a1 =>
   (bif a1 then
    some ((⟨0,0,0,0,0⟩:Shot),11)
   else
    (idx ships x.Ship).bind fun x1 =>
    (m_ship_corner t x1 x.Sym x.Phase).bind fun y2 =>
    (bif (neB y2.2 0) then
     some ((⟨0,0,0,0,0⟩:Shot),y2.2)
    else
     (m_ship_corner t x1 x.Sym (aO .i64 x.Phase n)).bind fun y3 =>
     (bif (neB y3.2 0) then
      some ((⟨0,0,0,0,0⟩:Shot),y3.2)
     else
      (irem (aO .i64 x.Phase n) x1.Motion.Period).bind fun n1 =>
      (m_ship_Place t ships (⟨x.Ship,n1,x.Sym,(aL .i64 (aO .i64 x.X y3.1.X) y2.1.X),(aL .i64 (aO .i64 x.Y y3.1.Y) y2.1.Y)⟩:Shot)).bind fun y4 =>
      (bif (neB y4.2 0) then
       some ((⟨0,0,0,0,0⟩:Shot),y4.2)
      else
       some ((⟨x.Ship,n1,x.Sym,(aL .i64 (aO .i64 x.X y3.1.X) y2.1.X),(aL .i64 (aO .i64 x.Y y3.1.Y) y2.1.Y)⟩:Shot),0)))))))
def m_ship_in (x y:Int):Option (Bool) :=
 ((bif (leB (eE x y) 1048576) then
  some (geB (ez x y) (-1048576))
 else
  some false)).bind fun a =>
 some a
def b_ship_Stream_1 (x:Shot) (m:Motion) (count gap:Int) (stt:Int×(List Shot)):Option (Lp (Int×(List Shot)) (((List Shot)×Int) ⊕ (List Shot))):=match stt with
 | (a1,out) =>
  (bif (ltB a1 count) then
   (m_ship_in x.X x.Y).bind fun y =>
   (bif (ba y) then
    some (.out (.inl ([],5)))
   else
    (m_ship_in (aL .i64 x.X (bP .i64 (bP .i64 a1 gap) m.DX)) (aL .i64 x.Y (bP .i64 (bP .i64 a1 gap) m.DY))).bind fun y1 =>
    (bif (ba y1) then
     some (.out (.inl ([],5)))
    else
     (appL 40 out [(⟨x.Ship,x.Phase,x.Sym,(aL .i64 x.X (bP .i64 (bP .i64 a1 gap) m.DX)),(aL .i64 x.Y (bP .i64 (bP .i64 a1 gap) m.DY))⟩:Shot)]).bind fun _l =>
     some (.next ((aO .i64 a1 1),(out++[(⟨x.Ship,x.Phase,x.Sym,(aL .i64 x.X (bP .i64 (bP .i64 a1 gap) m.DX)),(aL .i64 x.Y (bP .i64 (bP .i64 a1 gap) m.DY))⟩:Shot)])))))
  else
   some (.out (.inr out)))
def m_ship_Stream (x:Shot) (m:Motion) (count gap:Int):Option ((List Shot)×Int) :=
 ((bif (ltB m.Period 1) then
  some true
 else
  (bif (gtB m.Period 64) then
   some true
  else
   (m_ship_in m.DX m.DY).bind fun y =>
   (bif (ba y) then
    some true
   else
    (bif (ltB count 0) then
     some true
    else
     (bif (gtB count 16) then
      some true
     else
      (bif (ltB gap 1) then
       some true
      else
       some (gtB gap 1000)))))))).bind fun a =>
 (bif a then
  some ([],2)
 else
  (aK (b_ship_Stream_1 x m count gap) aN (0,[])).bind fun o=>match o with
   | .inl r =>
    some r
   | .inr out =>
    some (out,0))
def m_R05_order (a b:Int):Option (Int) :=
 (bif (ltB a b) then
  some (-1)
 else
  (bif (gtB a b) then
   some 1
  else
   some 0))
def b_R05_Compare_1 (a b:List Cell) (stt:Int):Option (Lp (Int) (Int ⊕ Unit)):=match stt with
 | i =>
  ((bif (ltB i (aB a)) then
   some (ltB i (aB b))
  else
   some false)).bind fun a1 =>
  (bif a1 then
   (idx a i).bind fun x =>
   (idx b i).bind fun x1 =>
   (bif (neB x.Y x1.Y) then
    (m_R05_order x.Y x1.Y).bind fun y =>
    some (.out (.inl y))
   else
    (bif (neB x.X x1.X) then
     (m_R05_order x.X x1.X).bind fun y =>
     some (.out (.inl y))
    else
     (bif (neB x.S x1.S) then
      (m_R05_order x.S x1.S).bind fun y =>
      some (.out (.inl y))
     else
      some (.next (aO .i64 i 1)))))
  else
   some (.out (.inr ())))
def m_R05_Compare (a b:List Cell):Option (Int) :=
 (aK (b_R05_Compare_1 a b) aN 0).bind fun o=>match o with
  | .inl r =>
   some r
  | .inr _u =>
   (m_R05_order (aB a) (aB b)).bind fun y =>
   some y
def m_R05_Same (a b:List Cell):Option (Bool) :=
 (m_R05_Compare a b).bind fun y =>
 some (eqB y 0)
def m_L50_awake:Option (Bool) :=
 (m_notation_Parse ([66,51,47,83,50,51]:List UInt8)).bind fun y =>
 (m_L50_glider).bind fun y1 =>
 (m_ship_Place y.1 [y1] (⟨0,0,0,0,0⟩:Shot)).bind fun y2 =>
 (idx [y1] 0).bind fun x =>
 (m_ship_Phase y.1 x 1).bind fun y3 =>
 (m_ship_Later y.1 [y1] (⟨0,0,0,5,5⟩:Shot) 6).bind fun y4 =>
 (m_ship_Stream (⟨0,0,0,0,0⟩:Shot) x.Motion 3 5).bind fun y5 =>
 ((bif (neB y.2 0) then
  some true
 else
  (bif (neB y2.2 0) then
   some true
  else
   (bif (neB y3.2 0) then
    some true
   else
    (bif (neB y4.2 0) then
     some true
    else
     (bif (neB y5.2 0) then
      some true
     else
      some (neB (aB y5.1) 3))))))).bind fun a =>
 (bif a then
  some false
 else
  ((m_ship_Right y.1 x).bind fun y6 =>
  (bif y6 then
   (m_R05_Same y2.1 x.Cells).bind fun y7 =>
   (bif y7 then
    (m_R05_Same y3.1 [(⟨0,0,1⟩:Cell),(⟨2,0,1⟩:Cell),(⟨1,1,1⟩:Cell),(⟨2,1,1⟩:Cell),(⟨1,2,1⟩:Cell)]).bind fun y8 =>
    (bif y8 then
     (bif (bW (eqB y4.1.Ship 0) (bW (eqB y4.1.Phase 2) (bW (eqB y4.1.Sym 0) (bW (eqB y4.1.X 6) (bW (eqB y4.1.Y 7) true))))) then
      (idx y5.1 2).bind fun x1 =>
      (bif (bW (eqB x1.Ship 0) (bW (eqB x1.Phase 0) (bW (eqB x1.Sym 0) (bW (eqB x1.X (-10)) (bW (eqB x1.Y (-10)) true))))) then
       (m_ship_Turned 1 x.Motion).bind fun y9 =>
       some (bW (eqB y9.Period 4) (bW (eqB y9.DX (-1)) (bW (eqB y9.DY 1) true)))
      else
       some false)
     else
      some false)
    else
     some false)
   else
    some false)
  else
   some false)).bind fun a1 =>
  some a1)
def b_L50_ShipFollows_1 (t:Tree) (cv:Ah) (n2:Int) (x:Ship) (y:(List Cell)×Int) (y2:(List Shot)×Int) (stt:Int):Option (Lp (Int) (Bool ⊕ Unit)):=match stt with
 | a2 =>
  (bif (ltB a2 (aB y2.1)) then
   (idx y2.1 a2).bind fun x1 =>
   (m_ship_Later t cv.Ships x1 (bP .i64 (bP .i64 a2 (aO .i64 1 (bI .i64 n2))) x.Motion.Period)).bind fun y3 =>
   (bif (neB y3.2 0) then
    ((bif (eqB y3.2 5) then
     (m_L50_awake).bind fun y4 =>
     some y4
    else
     (bif (eqB y3.2 11) then
      (m_L50_awake).bind fun y4 =>
      some y4
     else
      some false))).bind fun a3 =>
    some (.out (.inl a3))
   else
    (m_ship_Place t cv.Ships y3.1).bind fun y4 =>
    ((bif (neB y4.2 0) then
     some true
    else
     (m_R05_Same y4.1 y.1).bind fun y5 =>
     some (ba y5))).bind fun a3 =>
    (bif a3 then
     some (.out (.inl false))
    else
     some (.next (aO .i64 a2 1))))
  else
   some (.out (.inr ())))
def m_L50_ShipFollows (t:Tree) (cv:Ah) (n:Int×Int):Option (Bool) :=
 (irem n.1 6).bind fun n1 =>
 (irem n.2 20).bind fun n2 =>
 ((m_L50_small t cv.Ships).bind fun y =>
 (bif (ba y) then
  some true
 else
  (bif (gtB (aB t.Nodes) 60) then
   some true
  else
   (bif (gtB (aB t.Hood) 9) then
    some true
   else
    (bif (ltB cv.Shot.Ship 0) then
     some true
    else
     some (geB cv.Shot.Ship (aB cv.Ships))))))).bind fun a =>
 (bif a then
  (m_L50_awake).bind fun y =>
  some y
 else
  (idx cv.Ships cv.Shot.Ship).bind fun x =>
  (m_ship_Place t cv.Ships cv.Shot).bind fun y =>
  (m_ship_Turned cv.Shot.Sym x.Motion).bind fun y1 =>
  (m_ship_Stream cv.Shot y1 (bI .i64 n1) (aO .i64 1 (bI .i64 n2))).bind fun y2 =>
  ((bif (neB y.2 0) then
   some true
  else
   some (neB y2.2 0))).bind fun a1 =>
  (bif a1 then
   (m_L50_awake).bind fun y3 =>
   some y3
  else
   (bif (neB (aB y2.1) (bI .i64 n1)) then
    some false
   else
    (aK (b_L50_ShipFollows_1 t cv n2 x y y2) aN 0).bind fun o=>match o with
     | .inl r =>
      some r
     | .inr _u =>
      (m_L50_awake).bind fun y3 =>
      some y3)))
abbrev vI (n:Int):V:=.u (.one (.d (.int .i64 n)))
abbrev dI (n:Int):C:=.d (.int .i64 n)
abbrev vX (k:Nat):V:=.u (.one (.box k 0))
abbrev vO (k:Nat):V:=.u (.one (.own k))
abbrev dL (l:List Int):C:=.d (.sl 1 (List.map (rI .i64) l))
abbrev vT (b:Bool):V:=.u (.one (.d (.bool b)))
abbrev dR0 (l:List Cell):C:=.d (.sl 3 (List.map Cell.row l))
abbrev dR1 (l:List Node):C:=.d (.sl 2 (List.map Node.row l))
abbrev dR2 (l:List Point):C:=.d (.sl 2 (List.map Point.row l))
abbrev dR3 (l:List Ship):C:=.d (.sl 4 (List.map Ship.row l))
abbrev dR4 (l:List Shot):C:=.d (.sl 5 (List.map Shot.row l))
end Go.Proofs.YtffohfmfehjbmaaGreatDoor
