/- The types of the program, as lists and numbers. -/
import Derived.Test.YtbgliammfkgfoaaGreatDoorAmAp
import Derived.Test.YtbgliammfkgfoaaGreatDoorAmFz
import Derived.Test.YtbgliammfkgfoaaGreatDoorAmOr
import Derived.Test.YtbgliammfkgfoaaGreatDoorAmSi
import Derived.Test.YtbgliammfkgfoaaGreatDoorAmSu
import Derived.Test.YtbgliammfkgfoaaGreatDoorAmZr
namespace Go.Proofs.YtbgliammfkgfoaaGreatDoor
open Go.AM Go.Proofs
theorem mJ (k:IntKind) (l:List Int) (i:Nat) (x:Int):(List.map (rI k) l).set i [L.int k x]=List.map (rI k) (l.set i x):=by rw[List.map_set]; rfl
theorem rsetB (l:List Bool) (i:Nat) (x:Bool):(List.map rB l).set i [L.bool x]=List.map rB (l.set i x):=by rw[List.map_set]; rfl
structure Point where
 X:Int
 Y:Int
 deriving DecidableEq,Inhabited
def Point.row (x:Point):List L:=[.int .i64 x.X,.int .i64 x.Y]
theorem Point.row_eq (x:Point):x.row=[.int .i64 x.X,.int .i64 x.Y]:=rfl
def Point.key (x:Point):Key:=.ints [x.X,x.Y]
def Point.ints (x:Point):List Int:=[x.X,x.Y]
instance:KeyF Point.key:=⟨fun a b h=>by unfold Point.key at h; cases a; cases b; injection h with h; simp only[List.cons.injEq,and_true] at h; simp only[Point.mk.injEq]; exact h⟩
structure Node where
 Level:Int
 Next:List Int
 deriving DecidableEq,Inhabited
def Node.row (x:Node):List L:=[.int .i64 x.Level,.sl 1 (List.map (rI .i64) x.Next)]
theorem Node.row_eq (x:Node):x.row=[.int .i64 x.Level,.sl 1 (List.map (rI .i64) x.Next)]:=rfl
structure Tree where
 States:Int
 Hood:List Point
 Nodes:List Node
 deriving DecidableEq,Inhabited
def Tree.row (x:Tree):List L:=[.int .i64 x.States,.sl 2 (List.map Point.row x.Hood),.sl 2 (List.map Node.row x.Nodes)]
theorem Tree.row_eq (x:Tree):x.row=[.int .i64 x.States,.sl 2 (List.map Point.row x.Hood),.sl 2 (List.map Node.row x.Nodes)]:=rfl
structure Grid where
 W:Int
 H:Int
 Edge:Int
 Cells:List Int
 deriving DecidableEq,Inhabited
def Grid.row (x:Grid):List L:=[.int .i64 x.W,.int .i64 x.H,.int .i64 x.Edge,.sl 1 (List.map (rI .i64) x.Cells)]
theorem Grid.row_eq (x:Grid):x.row=[.int .i64 x.W,.int .i64 x.H,.int .i64 x.Edge,.sl 1 (List.map (rI .i64) x.Cells)]:=rfl
structure Bh where
 W:Int
 H:Int
 Gens:Int
 DX:Int
 DY:Int
 Syms:List Int
 deriving DecidableEq,Inhabited
def Bh.row (x:Bh):List L:=[.int .i64 x.W,.int .i64 x.H,.int .i64 x.Gens,.int .i64 x.DX,.int .i64 x.DY,.sl 1 (List.map (rI .i64) x.Syms)]
theorem Bh.row_eq (x:Bh):x.row=[.int .i64 x.W,.int .i64 x.H,.int .i64 x.Gens,.int .i64 x.DX,.int .i64 x.DY,.sl 1 (List.map (rI .i64) x.Syms)]:=rfl
structure Bi where
 Vars:Int
 Clauses:List (List Int)
 deriving DecidableEq,Inhabited
def Bi.row (x:Bi):List L:=[.int .i64 x.Vars,.sl 1 (List.map (rS 1 (rI .i64)) x.Clauses)]
theorem Bi.row_eq (x:Bi):x.row=[.int .i64 x.Vars,.sl 1 (List.map (rS 1 (rI .i64)) x.Clauses)]:=rfl
structure Box where
 X:Int
 Y:Int
 W:Int
 H:Int
 deriving DecidableEq,Inhabited
def Box.row (x:Box):List L:=[.int .i64 x.X,.int .i64 x.Y,.int .i64 x.W,.int .i64 x.H]
theorem Box.row_eq (x:Box):x.row=[.int .i64 x.X,.int .i64 x.Y,.int .i64 x.W,.int .i64 x.H]:=rfl
def Box.key (x:Box):Key:=.ints [x.X,x.Y,x.W,x.H]
def Box.ints (x:Box):List Int:=[x.X,x.Y,x.W,x.H]
instance:KeyF Box.key:=⟨fun a b h=>by unfold Box.key at h; cases a; cases b; injection h with h; simp only[List.cons.injEq,and_true] at h; simp only[Box.mk.injEq]; exact h⟩
structure Bj where
 constant:Int
 vars:List Int
 deriving DecidableEq,Inhabited
def Bj.row (x:Bj):List L:=[.int .i64 x.constant,pnil 1 (List.map (rI .i64) x.vars)]
theorem Bj.row_eq (x:Bj):x.row=[.int .i64 x.constant,pnil 1 (List.map (rI .i64) x.vars)]:=rfl
structure Bl where
 box:Box
 values:List Bj
 deriving DecidableEq,Inhabited
def Bl.row (x:Bl):List L:=[.int .i64 x.box.X,.int .i64 x.box.Y,.int .i64 x.box.W,.int .i64 x.box.H,.sl 2 (List.map Bj.row x.values)]
theorem Bl.row_eq (x:Bl):x.row=[.int .i64 x.box.X,.int .i64 x.box.Y,.int .i64 x.box.W,.int .i64 x.box.H,.sl 2 (List.map Bj.row x.values)]:=rfl
structure Bm where
 State:Int
 Vars:List Int
 deriving DecidableEq,Inhabited
def Bm.row (x:Bm):List L:=[.int .i64 x.State,.sl 1 (List.map (rI .i64) x.Vars)]
theorem Bm.row_eq (x:Bm):x.row=[.int .i64 x.State,.sl 1 (List.map (rI .i64) x.Vars)]:=rfl
structure Bn where
 variable_:Int
 trail:Int
 turned:Bool
 deriving DecidableEq,Inhabited
def Bn.row (x:Bn):List L:=[.int .i64 x.variable_,.int .i64 x.trail,.bool x.turned]
theorem Bn.row_eq (x:Bn):x.row=[.int .i64 x.variable_,.int .i64 x.trail,.bool x.turned]:=rfl
attribute [simp] Point.row_eq Node.row_eq Tree.row_eq Grid.row_eq Bh.row_eq Bi.row_eq Box.row_eq Bj.row_eq Bl.row_eq Bm.row_eq Bn.row_eq
end Go.Proofs.YtbgliammfkgfoaaGreatDoor
namespace Go.Proofs.YtbgliammfkgfoaaGreatDoor
def cmpI (a b:Int):Int:=if a < b then -1 else if a > b then 1 else 0
def gy:List Int->List Int->Int
 | [],[]=>0
 | [],_::_=>-1
 | _::_,[]=>1
 | x::a,y::b=>if cmpI x y≠0 then cmpI x y else gy a b
def ed (a b:Grid):Int:=gy a.Cells b.Cells
def dH (a:Grid):Bool:=decide (a.Cells.length < 1000000)
end Go.Proofs.YtbgliammfkgfoaaGreatDoor
namespace Go.Proofs.YtbgliammfkgfoaaGreatDoor
open Go.AM Go.Proofs
def jd (t:Tree) (_x:Bh) (stt:Int):Option (Lp (Int) (Bool ⊕ Unit)):=match stt with
 | a1 =>
  (bif (ltB a1 (bf t.Nodes)) then
   (idx t.Nodes a1).bind fun x1 =>
   (bif (gtB (bf x1.Next) 20) then
    some (.out (.inl false))
   else
    some (.next (bu .i64 a1 1)))
  else
   some (.out (.inr ())))
def kV (t:Tree) (x:Bh):Option (Bool) :=
 ((bif (gtB (bf t.Nodes) 150) then
  some true
 else
  (bif (gtB (bf t.Hood) 9) then
   some true
  else
   (bif (gtB (bf x.Syms) 20) then
    some true
   else
    (bif (gtB x.Gens 3) then
     some (leB x.Gens 6)
    else
     some false))))).bind fun a =>
 (bif a then
  some false
 else
  (bm (jd t x) bI 0).bind fun o=>match o with
   | .inl r =>
    some r
   | .inr _u =>
    ((bif (ltB x.W 1) then
     some true
    else
     (bif (ltB x.H 1) then
      some true
     else
      (bif (gtB x.W 16) then
       some true
      else
       (bif (gtB x.H 16) then
        some true
       else
        (bif (leB (bU .i64 x.W x.H) 9) then
         some true
        else
         some (gtB (bU .i64 x.W x.H) 16))))))).bind fun a1 =>
    some a1)
def m_L48_shift:Option (Tree) :=
 some (⟨2,[(⟨(-1),0⟩:Point)],[(⟨1,[0,1]⟩:Node)]⟩:Tree)
def gY (x:Int):Option (Bool) :=
 some (neB x x)
def dG (x y:Int):Option (Int) :=
 (gY x).bind fun y1 =>
 (gY y).bind fun y2 =>
 (bif y1 then
  (bif y2 then
   some 0
  else
   some (-1))
 else
  (bif y2 then
   some 1
  else
   (bif (ltB x y) then
    some (-1)
   else
    (bif (gtB x y) then
     some 1
    else
     some 0))))
def gB (vals:List Int) (stt:Int):Option (Lp (Int) (Int ⊕ Unit)):=match stt with
 | a =>
  (bif (ltB a (bf vals)) then
   (idx vals a).bind fun x =>
   (bif (neB x 0) then
    some (.out (.inl x))
   else
    some (.next (bu .i64 a 1)))
  else
   some (.out (.inr ())))
def k4 (vals:List Int):Option (Int) :=
 (bm (gB vals) bI 0).bind fun o=>match o with
  | .inl r =>
   some r
  | .inr _u =>
   some 0
def gU (a b:Point):Option (Int) :=
 (dG a.Y b.Y).bind fun y =>
 (dG a.X b.X).bind fun y1 =>
 (k4 [y,y1]).bind fun y2 =>
 some y2
def iC (l:List Point) (stt:Int):Option (Lp (Int) (Bool ⊕ Unit)):=match stt with
 | a1 =>
  (bif (ltB a1 (bf l)) then
   (idx l a1).bind fun x =>
   ((bif (ltB x.X (-2)) then
    some true
   else
    (bif (gtB x.X 2) then
     some true
    else
     (bif (ltB x.Y (-2)) then
      some true
     else
      (bif (gtB x.Y 2) then
       some true
      else
       (bif (gtB a1 0) then
        (idx l (bK .i64 a1 1)).bind fun x1 =>
        (gU x1 x).bind fun y =>
        some (geB y 0)
       else
        some false)))))).bind fun a2 =>
   (bif a2 then
    some (.out (.inl false))
   else
    some (.next (bu .i64 a1 1)))
  else
   some (.out (.inr ())))
def iJ (l:List Point):Option (Bool) :=
 ((bif (ltB (bf l) 1) then
  some true
 else
  some (gtB (bf l) 25))).bind fun a =>
 (bif a then
  some false
 else
  (bm (iC l) bI 0).bind fun o=>match o with
   | .inl r =>
    some r
   | .inr _u =>
    some true)
def gl (t:Tree) (a1:Int) (x:Node) (stt:Int):Option (Lp (Int) (Bool ⊕ Unit)):=match stt with
 | a3 =>
  (bif (ltB a3 (bf x.Next)) then
   (idx x.Next a3).bind fun x1 =>
   ((bif (ltB x1 0) then
    some true
   else
    (bif (eqB x.Level 1) then
     (bif (geB x1 t.States) then
      some true
     else
      (bif (gtB x.Level 1) then
       (bif (geB x1 a1) then
        some true
       else
        (idx t.Nodes x1).bind fun x2 =>
        some (neB x2.Level (bK .i64 x.Level 1)))
      else
       some false))
    else
     (bif (gtB x.Level 1) then
      (bif (geB x1 a1) then
       some true
      else
       (idx t.Nodes x1).bind fun x2 =>
       some (neB x2.Level (bK .i64 x.Level 1)))
     else
      some false)))).bind fun a4 =>
   (bif a4 then
    some (.out (.inl false))
   else
    some (.next (bu .i64 a3 1)))
  else
   some (.out (.inr ())))
def gr (t:Tree) (stt:Int):Option (Lp (Int) (Bool ⊕ Unit)):=match stt with
 | a1 =>
  (bif (ltB a1 (bf t.Nodes)) then
   (idx t.Nodes a1).bind fun x =>
   ((bif (ltB x.Level 1) then
    some true
   else
    (bif (gtB x.Level (bf t.Hood)) then
     some true
    else
     some (neB (bf x.Next) t.States)))).bind fun a2 =>
   (bif a2 then
    some (.out (.inl false))
   else
    (bm (gl t a1 x) bI 0).bind fun o=>match o with
     | .inl r =>
      some (.out (.inl r))
     | .inr _u =>
      some (.next (bu .i64 a1 1)))
  else
   some (.out (.inr ())))
def eQ (t:Tree):Option (Bool) :=
 ((bif (ltB t.States 2) then
  some true
 else
  (bif (gtB t.States 8) then
   some true
  else
   (iJ t.Hood).bind fun y =>
   (bif (fO y) then
    some true
   else
    (bif (ltB (bf t.Nodes) 1) then
     some true
    else
     (bif (gtB (bf t.Nodes) 4096) then
      some true
     else
      (idx t.Nodes (bK .i64 (bf t.Nodes) 1)).bind fun x =>
      some (neB x.Level (bf t.Hood)))))))).bind fun a =>
 (bif a then
  some false
 else
  (bm (gr t) bI 0).bind fun o=>match o with
   | .inl r =>
    some r
   | .inr _u =>
    some true)
def lM (w hv b0:Int):Option (Bool) :=
 ((bif (geB w 1) then
  (bif (leB w 256) then
   (bif (geB hv 1) then
    (bif (leB hv 256) then
     (bif (leB (bU .i64 w hv) 4096) then
      (bif (geB b0 0) then
       some (leB b0 2)
      else
       some false)
     else
      some false)
    else
     some false)
   else
    some false)
  else
   some false)
 else
  some false)).bind fun a =>
 some a
def jN (s:Int):Option (Bool) :=
 ((bif (ltB s 0) then
  some true
 else
  some (geB s 8))).bind fun a =>
 some a
def bF (s:List Int) (stt:Int):Option (Lp (Int) (Int ⊕ Unit)):=match stt with
 | a =>
  (bif (ltB a (bf s)) then
   (idx s a).bind fun x =>
   (jN x).bind fun y =>
   (bif y then
    some (.out (.inl a))
   else
    some (.next (bu .i64 a 1)))
  else
   some (.out (.inr ())))
def cn (s:List Int):Option (Int) :=
 (bm (bF s) bI 0).bind fun o=>match o with
  | .inl r =>
   some r
  | .inr _u =>
   some (-1)
def bP (s:List Int):Option (Bool) :=
 (cn s).bind fun y =>
 some (geB y 0)
def iD (gv:Grid):Option (Bool) :=
 ((lM gv.W gv.H gv.Edge).bind fun y =>
 (bif y then
  (bif (eqB (bf gv.Cells) (bU .i64 gv.W gv.H)) then
   (bP gv.Cells).bind fun y1 =>
   some (fO y1)
  else
   some false)
 else
  some false)).bind fun a =>
 some a
def jt (s:Int) (a:Tree):Option (Bool) :=
 some (geB s a.States)
def ct (s:List Int) (cv:Tree) (stt:Int):Option (Lp (Int) (Int ⊕ Unit)):=match stt with
 | a =>
  (bif (ltB a (bf s)) then
   (idx s a).bind fun x =>
   (jt x cv).bind fun y =>
   (bif y then
    some (.out (.inl a))
   else
    some (.next (bu .i64 a 1)))
  else
   some (.out (.inr ())))
def cB (s:List Int) (cv:Tree):Option (Int) :=
 (bm (ct s cv) bI 0).bind fun o=>match o with
  | .inl r =>
   some r
  | .inr _u =>
   some (-1)
def cr (s:List Int) (cv:Tree):Option (Bool) :=
 (cB s cv).bind fun y =>
 some (geB y 0)
def dj (l:List Point) (stt:Int×Int):Option (Lp (Int×Int) (Int)):=match stt with
 | (r_,a) =>
  (bif (ltB a (bf l)) then
   (idx l a).bind fun x =>
   some (.next ((gD (gD (gD (gD r_ x.X) (cA .i64 x.X)) x.Y) (cA .i64 x.Y)),(bu .i64 a 1)))
  else
   some (.out r_))
def di (l:List Point):Option (Int) :=
 ((iJ l).bind fun y =>
 (bif y then
  (bm (dj l) bI (0,0)).bind fun r_ =>
  some r_
 else
  some 0)).bind fun r_ =>
 some r_
def cF (l:List Int):Option (List Int):=gf 8 [] l
def jW (_x:Int) (next:List Int):Option (List Int) :=
 some next
def dM (l:List Int) (n base:Int):Option (List Int):=appUM l n base
def dW (i base:Int):Option (List Int) :=
 ((bif (ltB i 0) then
  (gf 1 [] [45]).bind fun _l =>
  some ((cA .u64 (iconv .u64 i)),([]++[45]))
 else
  some ((iconv .u64 i),[]))).bind fun(u,dst) =>
 (dM dst u base).bind fun y =>
 some y
def dT (i base:Int):Option (List Int) :=
 (dW i base).bind fun y =>
 some y
def dV (dst:List Int) (i base:Int):Option (List Int) :=
 ((bif (ltB i 0) then
  (gf 1 dst [45]).bind fun _l =>
  some ((cA .u64 (iconv .u64 i)),(dst++[45]))
 else
  some ((iconv .u64 i),dst))).bind fun(u,dst1) =>
 (dM dst1 u base).bind fun y =>
 some y
def dc (dst:List Int) (i base:Int):Option (List Int) :=
 (dV dst i base).bind fun y =>
 some y
def dN (_ay:List Node) (_aq:List (List UInt8×Int)) (_level:Int) (next:List Int) (stt:Int×(List Int)):Option (Lp (Int×(List Int)) ((List Int))):=match stt with
 | (a,keyv) =>
  (bif (ltB a (bf next)) then
   (idx next a).bind fun x =>
   (gf 1 keyv [32]).bind fun _l =>
   (dc (keyv++[32]) x 10).bind fun y1 =>
   some (.next ((bu .i64 a 1),y1))
  else
   some (.out keyv))
def cU (ay:List Node) (aq:List (List UInt8×Int)) (level:Int) (next:List Int):Option (Int×(List (List UInt8×Int))×(List Node)) :=
 (dT level 10).bind fun y =>
 (bm (dN ay aq level next) bI (0,y)).bind fun keyv =>
 (kckS (ofBytes keyv)).bind fun _u =>
 (bif (cH aq (ofBytes keyv)) then
  some ((fe aq (ofBytes keyv) 0),aq,ay)
 else
  (gf 32 ay [(⟨level,next⟩:Node)]).bind fun _l =>
  some ((bK .i64 ((bf ay)+1) 1),(ig aq (ofBytes keyv) (bK .i64 ((bf ay)+1) 1)),(ay++[(⟨level,next⟩:Node)])))
def cE (l:List Point):Option (List Point):=gf 16 [] l
def ep (rcv:(Int->(List Int)->(List Node)->(List Node)->Option (Int×(List Int)×(List Node)))) (_k:Int) (a1:List Node) (x1:Node) (y:List Int) (stt:Int×(List Int)×(List Node)×(List Int)):Option (Lp (Int×(List Int)×(List Node)×(List Int)) (((List Int)×(List Node)×(List Int)))):=match stt with
 | (a2,l,l2,l1) =>
  (bif (ltB a2 (bf y)) then
   ((idx l a2).bind fun x2 =>
   (bif (gtB x1.Level 1) then
    (rcv x2 l1 a1 l2).bind fun y1 =>
    some ((l.set a2.toNat y1.1),y1.2.1,y1.2.2)
   else
    some (l,l1,l2))).bind fun(l3,l4,l5) =>
   some (.next ((bu .i64 a2 1),l3,l5,l4))
  else
   some (.out (l,l2,l1)))
def eJ (rcv:(Int->(List Int)->(List Node)->(List Node)->Option (Int×(List Int)×(List Node)))) (k:Int) (a:List Int) (a1 cv:List Node):Option (Int×(List Int)×(List Node)) :=
 (idx a k).bind fun x =>
 (bif (gtB x 0) then
  some ((bK .i64 x 1),a,cv)
 else
  (idx a1 k).bind fun x1 =>
  (cF x1.Next).bind fun y =>
  (bm (ep rcv k a1 x1 y) bI (0,y,cv,a)).bind fun(l,l1,l2) =>
  (gf 32 l1 [(⟨x1.Level,l⟩:Node)]).bind fun _l3 =>
  (idx l2 k).bind fun _x2 =>
  some ((bK .i64 ((bf l1)+1) 1),(l2.set k.toNat ((bf l1)+1)),(l1++[(⟨x1.Level,l⟩:Node)])))
def iB (k:Int) (a:List Int) (a1 cv:List Node):Option (Int×(List Int)×(List Node)):=recN eJ (fun _ _ _ _=>none) recF k a a1 cv
def iH (nodes:List Node) (root:Int):Option (List Node) :=
 (mkL 8 (bf nodes) (bf nodes) 0).bind fun _l =>
 (iB root (List.replicate (bf nodes).toNat 0) nodes []).bind fun y =>
 some y.2.2
def dr (_t:Tree) (_a:Int) (_mp:List (List UInt8×Int)) (_l:List Node) (to_:List Int) (x:Node) (y:List Int) (stt:Int×(List Int)):Option (Lp (Int×(List Int)) ((List Int))):=match stt with
 | (a1,next) =>
  (bif (ltB a1 (bf y)) then
   ((idx next a1).bind fun x1 =>
   (bif (gtB x.Level 1) then
    (idx to_ x1).bind fun x2 =>
    some (next.set a1.toNat x2)
   else
    some next)).bind fun aL =>
   some (.next ((bu .i64 a1 1),aL))
  else
   some (.out next))
def dq (t:Tree) (stt:Int×(List (List UInt8×Int))×(List Node)×(List Int)):Option (Lp (Int×(List (List UInt8×Int))×(List Node)×(List Int)) (((List (List UInt8×Int))×(List Node)×(List Int)))):=match stt with
 | (a,mp,l,to_) =>
  (bif (ltB a (bf t.Nodes)) then
   (idx t.Nodes a).bind fun x =>
   (cF x.Next).bind fun y =>
   (bm (dr t a mp l to_ x y) bI (0,y)).bind fun next =>
   (jW x.Level next).bind fun y1 =>
   (cU l mp x.Level y1).bind fun y2 =>
   (gf 8 to_ [y2.1]).bind fun _l1 =>
   some (.next ((bu .i64 a 1),y2.2.1,y2.2.2,(to_++[y2.1])))
  else
   some (.out (mp,l,to_)))
def dF (t:Tree):Option (Tree) :=
 (bm (dq t) bI (0,[],[],[])).bind fun(_mp,l,to_) =>
 (cE t.Hood).bind fun y =>
 (idx to_ (bK .i64 (bf to_) 1)).bind fun x =>
 (iH l x).bind fun y1 =>
 some (⟨t.States,y,y1⟩:Tree)
def lz (t:Tree):Option (Tree) :=
 (eQ t).bind fun y =>
 (bif (fO y) then
  some (⟨0,[],[]⟩:Tree)
 else
  (dF t).bind fun y1 =>
  some y1)
def jQ (states:Int):Option (Int) :=
 (bif (eqB states 2) then
  some 1
 else
  ((bif (eqB states 3) then
   some (eqB states 3)
  else
   some (eqB states 4))).bind fun a =>
  (bif a then
   some 2
  else
   ((bif (gtB states 4) then
    some (leB states 8)
   else
    some false)).bind fun a1 =>
   (bif a1 then
    some 3
   else
    some 0)))
def m7 (t:Tree):Option (Int×(List Point)×(List Node)×Int) :=
 (lz t).bind fun y =>
 (jQ t.States).bind fun y1 =>
 some (y.States,y.Hood,y.Nodes,y1)
def fi (_ag:List (List Int)) (_aa:Int) (_ae:List Point) (_ab:List Node) (al:Int) (_aj:List (List UInt8×Tree)) (stt:Int×(List Int)×Int):Option (Lp (Int×(List Int)×Int) (((List Int)×Int))):=match stt with
 | (a,l,ai) =>
  (bif (ltB a al) then
   (gf 8 l [(bu .i64 ai 1)]).bind fun _l1 =>
   some (.next ((bu .i64 a 1),(l++[(bu .i64 ai 1)]),(bu .i64 ai 1)))
  else
   some (.out (l,ai)))
def dY (ah:Int) (ag:List (List Int)) (aa:Int) (ae:List Point) (ab:List Node) (al:Int) (aj:List (List UInt8×Tree)):Option ((List Int)×Int) :=
 (bm (fi ag aa ae ab al aj) bI (0,[],ah)).bind fun(l,ai) =>
 some (l,ai)
def jA (cv:Int) (y:List Int) (stt:Int×(List Int)):Option (Lp (Int×(List Int)) ((List Int))):=match stt with
 | (a,l) =>
  (bif (ltB a (bf y)) then
   ((ishr .i64 cv a).bind fun n =>
   (bif (eqB (iand .i64 n 1) 1) then
    (idx l a).bind fun x =>
    some (l.set a.toNat (cA .i64 x))
   else
    some l)).bind fun l1 =>
   some (.next ((bu .i64 a 1),l1))
  else
   some (.out l))
def iR (vars:List Int) (cv:Int):Option (List Int) :=
 (cF vars).bind fun y =>
 (bm (jA cv y) bI (0,y)).bind fun l =>
 some l
def dQ (_ah:Int) (ag:List (List Int)) (_aa:Int) (_ae:List Point) (_ab:List Node) (_al:Int) (_aj:List (List UInt8×Tree)) (l:List Int):Option (Unit) :=
 (gf 24 ag [l]).bind fun _l1 =>
 some ()
def fv (ag:List (List Int)) (aa:Int) (ae:List Point) (ab:List Node) (al:Int) (aj:List (List UInt8×Tree)) (box:Box) (stt:Int×(List Bj)×Int):Option (Lp (Int×(List Bj)×Int) (((List Bj)×Int))):=match stt with
 | (a,l,ai) =>
  (bif (ltB a (bU .i64 box.W box.H)) then
   (dY ai ag aa ae ab al aj).bind fun y =>
   (neE y.1).bind fun _u =>
   (gf 32 l [(⟨0,y.1⟩:Bj)]).bind fun _l1 =>
   some (.next ((bu .i64 a 1),(l++[(⟨0,y.1⟩:Bj)]),y.2))
  else
   some (.out (l,ai)))
def fx (aa:Int) (ae:List Point) (ab:List Node) (al:Int) (aj:List (List UInt8×Tree)) (_box:Box) (_l:List Bj) (ai _a:Int) (x:Bj) (stt:Int×(List (List Int))):Option (Lp (Int×(List (List Int))) ((List (List Int)))):=match stt with
 | (cv,l2) =>
  (ishl .i64 1 al).bind fun n =>
  (bif (ltB cv n) then
   (neE x.vars).bind fun _u =>
   (iR x.vars cv).bind fun y =>
   (dQ ai l2 aa ae ab al aj y).bind fun _y1 =>
   some (.next ((bu .i64 cv 1),(l2++[y])))
  else
   some (.out l2))
def fC (aa:Int) (ae:List Point) (ab:List Node) (al:Int) (aj:List (List UInt8×Tree)) (box:Box) (l:List Bj) (ai:Int) (stt:Int×(List (List Int))):Option (Lp (Int×(List (List Int))) ((List (List Int)))):=match stt with
 | (a,l1) =>
  (bif (ltB a (bf l)) then
   (idx l a).bind fun x =>
   (bm (fx aa ae ab al aj box l ai a x) bI (aa,l1)).bind fun l2 =>
   some (.next ((bu .i64 a 1),l2))
  else
   some (.out l1))
def gn (ah:Int) (ag:List (List Int)) (aa:Int) (ae:List Point) (ab:List Node) (al:Int) (aj:List (List UInt8×Tree)) (box:Box):Option ((List Bj)×(List (List Int))×Int) :=
 (bm (fv ag aa ae ab al aj box) bI (0,[],ah)).bind fun(l,ai) =>
 (bm (fC aa ae ab al aj box l ai) bI (0,ag)).bind fun l1 =>
 some (l,l1,ai)
def jS (f:Bl) (x y:Int):Option (Bj) :=
 ((bif (ltB (bK .i64 x f.box.X) 0) then
  some true
 else
  (bif (geB (bK .i64 x f.box.X) f.box.W) then
   some true
  else
   (bif (ltB (bK .i64 y f.box.Y) 0) then
    some true
   else
    some (geB (bK .i64 y f.box.Y) f.box.H))))).bind fun a =>
 (bif a then
  some (⟨0,[]⟩:Bj)
 else
  (idx f.values (bu .i64 (bU .i64 (bK .i64 y f.box.Y) f.box.W) (bK .i64 x f.box.X))).bind fun x1 =>
  some x1)
def fP (next:List Int) (_aN:Int) (_aV:List Point) (_aS:List Node) (_a a1:Int) (stt:Int×(List Int)):Option (Lp (Int×(List Int)) ((List Int))):=match stt with
 | (a2,aL) =>
  (bif (ltB a2 (bf next)) then
   ((bif (neB a2 a1) then
    (idx aL a1).bind fun x =>
    (idx aL a2).bind fun _x1 =>
    some (aL.set a2.toNat x)
   else
    some aL)).bind fun next2 =>
   some (.next ((bu .i64 a2 1),next2))
  else
   some (.out aL))
def gO (level:Int) (next:List Int) (aN:Int) (aV:List Point) (aS:List Node) (a a1:Int):Option (List Int) :=
 ((bif (eqB level (bK .i64 (bf aV) a)) then
  (bm (fP next aN aV aS a a1) bI (0,next)).bind fun aL =>
  some aL
 else
  some next)).bind fun aL =>
 some aL
def eS (_ay:List Node) (_aq:List (List UInt8×Int)) (_level:Int) (next:List Int) (stt:Int×(List Int)):Option (Lp (Int×(List Int)) ((List Int))):=match stt with
 | (a,keyv) =>
  (bif (ltB a (bf next)) then
   (idx next a).bind fun x =>
   (gf 1 keyv [32]).bind fun _l =>
   (dc (keyv++[32]) x 10).bind fun y1 =>
   some (.next ((bu .i64 a 1),y1))
  else
   some (.out keyv))
def fB (ay:List Node) (aq:List (List UInt8×Int)) (level:Int) (next:List Int):Option (Int×(List (List UInt8×Int))×(List Node)) :=
 (dT level 10).bind fun y =>
 (bm (eS ay aq level next) bI (0,y)).bind fun keyv =>
 (kckS (ofBytes keyv)).bind fun _u =>
 (bif (cH aq (ofBytes keyv)) then
  some ((fe aq (ofBytes keyv) 0),aq,ay)
 else
  (gf 32 ay [(⟨level,next⟩:Node)]).bind fun _l =>
  some ((bK .i64 ((bf ay)+1) 1),(ig aq (ofBytes keyv) (bK .i64 ((bf ay)+1) 1)),(ay++[(⟨level,next⟩:Node)])))
def cZ (_t:Tree) (_aB:Int) (_aO:List Point) (_aF:List Node) (_cv _cv1 _a:Int) (_mp:List (List UInt8×Int)) (_l:List Node) (to_:List Int) (x:Node) (y:List Int) (stt:Int×(List Int)):Option (Lp (Int×(List Int)) ((List Int))):=match stt with
 | (a1,next) =>
  (bif (ltB a1 (bf y)) then
   ((idx next a1).bind fun x1 =>
   (bif (gtB x.Level 1) then
    (idx to_ x1).bind fun x2 =>
    some (next.set a1.toNat x2)
   else
    some next)).bind fun aL =>
   some (.next ((bu .i64 a1 1),aL))
  else
   some (.out next))
def d9 (t:Tree) (aB:Int) (aO:List Point) (aF:List Node) (cv cv1:Int) (stt:Int×(List (List UInt8×Int))×(List Node)×(List Int)):Option (Lp (Int×(List (List UInt8×Int))×(List Node)×(List Int)) (((List (List UInt8×Int))×(List Node)×(List Int)))):=match stt with
 | (a,mp,l,to_) =>
  (bif (ltB a (bf t.Nodes)) then
   (idx t.Nodes a).bind fun x =>
   (cF x.Next).bind fun y =>
   (bm (cZ t aB aO aF cv cv1 a mp l to_ x y) bI (0,y)).bind fun next =>
   (gO x.Level next aB aO aF cv cv1).bind fun y1 =>
   (fB l mp x.Level y1).bind fun y2 =>
   (gf 8 to_ [y2.1]).bind fun _l1 =>
   some (.next ((bu .i64 a 1),y2.2.1,y2.2.2,(to_++[y2.1])))
  else
   some (.out (mp,l,to_)))
def dd (t:Tree) (aB:Int) (aO:List Point) (aF:List Node) (cv cv1:Int):Option ((List Point)×(List Node)) :=
 (bm (d9 t aB aO aF cv cv1) bI (0,[],[],[])).bind fun(_mp,l,to_) =>
 (cE t.Hood).bind fun y =>
 (idx to_ (bK .i64 (bf to_) 1)).bind fun x =>
 (iH l x).bind fun y1 =>
 some (y,y1)
def ot (t:Tree) (k s:Int):Option (Tree×Int) :=
 (eQ t).bind fun y =>
 (bif (fO y) then
  some ((⟨0,[],[]⟩:Tree),11)
 else
  ((bif (ltB k 0) then
   some true
  else
   some (geB k (bf t.Hood)))).bind fun a =>
  (bif a then
   some ((⟨0,[],[]⟩:Tree),2)
  else
   ((bif (ltB s 0) then
    some true
   else
    some (geB s t.States))).bind fun a1 =>
   (bif a1 then
    some ((⟨0,[],[]⟩:Tree),10)
   else
    (dd t t.States t.Hood t.Nodes k s).bind fun y1 =>
    some ((⟨t.States,y1.1,y1.2⟩:Tree),0))))
def ek (_ah:Int) (_ag:List (List Int)) (_aa:Int) (_ae:List Point) (_ab:List Node) (_al:Int) (_aj:List (List UInt8×Tree)) (in_:List Bj) (stt:Int×(List Int)):Option (Lp (Int×(List Int)) ((List Int))):=match stt with
 | (a,keyv) =>
  (bif (ltB a (bf in_)) then
   (idx in_ a).bind fun x =>
   ((bif (fO (isE x.vars)) then
    some 255
   else
    some (iconv .u8 x.constant))).bind fun k =>
   (gf 1 keyv [k]).bind fun _l =>
   some (.next ((bu .i64 a 1),(keyv++[k])))
  else
   some (.out keyv))
def eA (_ah:Int) (_ag:List (List Int)) (_aa:Int) (_ae:List Point) (_ab:List Node) (_al:Int) (_aj:List (List UInt8×Tree)) (in_:List Bj) (_keyv:List Int) (_u:Unit) (stt:Int×Int×(List Point)×(List Node)):Option (Lp (Int×Int×(List Point)×(List Node)) ((Int×(List Point)×(List Node)))):=match stt with
 | (a,aA,aM,aC) =>
  (bif (ltB a (bf in_)) then
   ((idx in_ a).bind fun x =>
   (bif (isE x.vars) then
    (ot (⟨aA,aM,aC⟩:Tree) a x.constant).bind fun y =>
    some (y.1.States,y.1.Hood,y.1.Nodes)
   else
    some (aA,aM,aC))).bind fun(b8,tHood1,tNodes1) =>
   some (.next ((bu .i64 a 1),b8,tHood1,tNodes1))
  else
   some (.out (aA,aM,aC)))
def f7 (ah:Int) (ag:List (List Int)) (aa:Int) (ae:List Point) (ab:List Node) (al:Int) (aj:List (List UInt8×Tree)) (in_:List Bj):Option (Int×(List Point)×(List Node)×(List (List UInt8×Tree))) :=
 (bm (ek ah ag aa ae ab al aj in_) bI (0,[])).bind fun keyv =>
 (kckS (ofBytes keyv)).bind fun u =>
 (bif (cH aj (ofBytes keyv)) then
  (gx aj (ofBytes keyv)).bind fun v =>
  some (v.States,v.Hood,v.Nodes,aj)
 else
  (bm (eA ah ag aa ae ab al aj in_ keyv u) bI (0,aa,ae,ab)).bind fun(aA,aM,aC) =>
  some (aA,aM,aC,(ig aj (ofBytes keyv) (⟨aA,aM,aC⟩:Tree))))
def gC (n:Int) (a:Node):Option (Bool) :=
 (idx a.Next 0).bind fun x =>
 some (neB n x)
def ck (s:List Int) (cv:Node) (stt:Int):Option (Lp (Int) (Int ⊕ Unit)):=match stt with
 | a =>
  (bif (ltB a (bf s)) then
   (idx s a).bind fun x =>
   (gC x cv).bind fun y =>
   (bif y then
    some (.out (.inl a))
   else
    some (.next (bu .i64 a 1)))
  else
   some (.out (.inr ())))
def co (s:List Int) (cv:Node):Option (Int) :=
 (bm (ck s cv) bI 0).bind fun o=>match o with
  | .inl r =>
   some r
  | .inr _u =>
   some (-1)
def ci (s:List Int) (cv:Node):Option (Bool) :=
 (co s cv).bind fun y =>
 some (geB y 0)
def dC (s b7:Int) (aNext:List Int) (a:List Bj):Option (Int×(List Int)) :=
 (bif (eqB b7 1) then
  (idx aNext s).bind fun x =>
  some (x,[])
 else
  (idx aNext s).bind fun x =>
  (idx a x).bind fun x1 =>
  some (x1.constant,x1.vars))
def eN (_ah:Int) (ag:List (List Int)) (_aa:Int) (_ae:List Point) (_ab:List Node) (_al:Int) (_aj:List (List UInt8×Tree)) (l:List Int):Option (Unit) :=
 (gf 24 ag [l]).bind fun _l1 =>
 some ()
def ch (l:List Int) (aQ:Int) (aK:List (List Int)) (aT:Int) (aX:List Point) (aU:List Node) (abits:Int) (b6:List (List UInt8×Tree)) (a:List Int):Option (List (List Int)) :=
 (cF a).bind fun y =>
 (gf 8 y l).bind fun _l1 =>
 (eN aQ aK aT aX aU abits b6 (y++l)).bind fun _y1 =>
 some (aK++[(y++l)])
def eC (ah aa:Int) (ae:List Point) (ab:List Node) (al:Int) (aj:List (List UInt8×Tree)) (aH own:List Int) (v:Bj) (stt:Int×(List (List Int))):Option (Lp (Int×(List (List Int))) ((List (List Int)))):=match stt with
 | (a,l) =>
  (bif (ltB a (bf own)) then
   ((idx own a).bind fun x =>
   (bif (fO (isE v.vars)) then
    (neE v.vars).bind fun _u =>
    (idx v.vars a).bind fun x1 =>
    (ch [(cA .i64 x),x1] ah l aa ae ab al aj aH).bind fun y =>
    (ch [x,(cA .i64 x1)] ah y aa ae ab al aj aH).bind fun y1 =>
    some y1
   else
    (ishr .i64 v.constant a).bind fun n =>
    (bif (eqB (iand .i64 n 1) 1) then
     (ch [x] ah l aa ae ab al aj aH).bind fun y =>
     some y
    else
     (ch [(cA .i64 x)] ah l aa ae ab al aj aH).bind fun y =>
     some y))).bind fun l1 =>
   some (.next ((bu .i64 a 1),l1))
  else
   some (.out l))
def f8 (ah:Int) (ag:List (List Int)) (aa:Int) (ae:List Point) (ab:List Node) (al:Int) (aj:List (List UInt8×Tree)) (aH own:List Int) (v:Bj):Option (List (List Int)) :=
 (bm (eC ah aa ae ab al aj aH own v) bI (0,ag)).bind fun l =>
 some l
def eO (aa:Int) (ae:List Point) (ab:List Node) (al:Int) (aj:List (List UInt8×Tree)) (_t:Tree) (_in_:List Bj) (a:Int) (l1:List Bj) (x:Node) (x1:Bj) (y1:(List Int)×Int) (x2:Bj) (_u:Unit) (stt:Int×(List (List Int))):Option (Lp (Int×(List (List Int))) ((List (List Int)))):=match stt with
 | (a1,l3) =>
  (bif (ltB a1 (bf x.Next)) then
   (neE x1.vars).bind fun _u1 =>
   (iR x1.vars a1).bind fun y2 =>
   (dC a1 x.Level x.Next (l1.set a.toNat (⟨x2.constant,y1.1⟩:Bj))).bind fun y3 =>
   (f8 y1.2 l3 aa ae ab al aj y2 y1.1 (⟨y3.1,y3.2⟩:Bj)).bind fun y4 =>
   some (.next ((bu .i64 a1 1),y4))
  else
   some (.out l3))
def eP (aa:Int) (ae:List Point) (ab:List Node) (al:Int) (aj:List (List UInt8×Tree)) (t:Tree) (in_:List Bj) (stt:Int×(List Bj)×(List (List Int))×Int):Option (Lp (Int×(List Bj)×(List (List Int))×Int) (((List Bj)×(List (List Int))×Int))):=match stt with
 | (a,l1,l2,ai) =>
  (bif (ltB a (bf t.Nodes)) then
   (idx t.Nodes a).bind fun x =>
   (ci x.Next x).bind fun y =>
   (bif (fO y) then
    (dC 0 x.Level x.Next l1).bind fun y1 =>
    (idx l1 a).bind fun _x1 =>
    some (.next ((bu .i64 a 1),(l1.set a.toNat (⟨y1.1,y1.2⟩:Bj)),l2,ai))
   else
    (idx in_ (bK .i64 (bf t.Hood) x.Level)).bind fun x1 =>
    (dY ai l2 aa ae ab al aj).bind fun y1 =>
    (idx l1 a).bind fun x2 =>
    (neE y1.1).bind fun u =>
    (bm (eO aa ae ab al aj t in_ a l1 x x1 y1 x2 u) bI (0,l2)).bind fun l3 =>
    some (.next ((bu .i64 a 1),(l1.set a.toNat (⟨x2.constant,y1.1⟩:Bj)),l3,y1.2)))
  else
   some (.out (l1,l2,ai)))
def fq (ah:Int) (ag:List (List Int)) (aa:Int) (ae:List Point) (ab:List Node) (al:Int) (aj:List (List UInt8×Tree)) (t:Tree) (in_:List Bj):Option (Int×(List Int)×(List (List Int))×Int) :=
 (mkL 32 (bf t.Nodes) (bf t.Nodes) (⟨0,[]⟩:Bj)).bind fun _l =>
 (bm (eP aa ae ab al aj t in_) bI (0,(List.replicate (bf t.Nodes).toNat (⟨0,[]⟩:Bj)),ag,ah)).bind fun(l1,l2,ai) =>
 (idx l1 (bK .i64 (bf l1) 1)).bind fun x =>
 some (x.constant,x.vars,l2,ai)
def dZ (ah:Int) (ag:List (List Int)) (_aa:Int) (_ae:List Point) (_ab:List Node) (_al:Int) (_aj:List (List UInt8×Tree)):Option (Bool) :=
 ((bif (gtB ah 65536) then
  some true
 else
  some (gtB (bf ag) 262144))).bind fun a =>
 some a
def fI (_aa:Int) (ae:List Point) (_ab:List Node) (_al:Int) (f:Bl) (_box:Box) (_fixed:Bool) (y x:Int) (_l2:List Bj) (_l3:List (List Int)) (_aw:Int) (_mp1:List (List UInt8×Tree)) (stt:Int×(List Bj)):Option (Lp (Int×(List Bj)) ((List Bj))):=match stt with
 | (a,in_) =>
  (bif (ltB a (bf ae)) then
   (idx ae a).bind fun x1 =>
   (jS f (bu .i64 x x1.X) (bu .i64 y x1.Y)).bind fun y1 =>
   (gf 32 in_ [y1]).bind fun _l4 =>
   some (.next ((bu .i64 a 1),(in_++[y1])))
  else
   some (.out in_))
def fA (aa:Int) (ae:List Point) (ab:List Node) (al:Int) (f:Bl) (box:Box) (fixed:Bool) (y:Int) (stt:Int×(List Bj)×(List (List Int))×Int×(List (List UInt8×Tree))):Option (Lp (Int×(List Bj)×(List (List Int))×Int×(List (List UInt8×Tree))) ((Int×Int×Int×Int×(List Bj)×Bool×Int×(List (List UInt8×Tree))×(List (List Int))) ⊕ ((List Bj)×(List (List Int))×Int×(List (List UInt8×Tree))))):=match stt with
 | (x,l2,l3,aw,mp1) =>
  (bif (ltB x (bu .i64 box.X box.W)) then
   (bm (fI aa ae ab al f box fixed y x l2 l3 aw mp1) bI (0,[])).bind fun in_ =>
   ((bif fixed then
    (f7 aw l3 aa ae ab al mp1 in_).bind fun y1 =>
    some (y1.1,y1.2.1,y1.2.2.1,y1.2.2.2)
   else
    some (aa,ae,ab,mp1))).bind fun(aA,aM,aC,mp2) =>
   (fq aw l3 aa ae ab al mp2 (⟨aA,aM,aC⟩:Tree) in_).bind fun y1 =>
   (gf 32 l2 [(⟨y1.1,y1.2.1⟩:Bj)]).bind fun _l4 =>
   (dZ y1.2.2.2 y1.2.2.1 aa ae ab al mp2).bind fun y2 =>
   (bif y2 then
    some (.out (.inl (0,0,0,0,[],false,y1.2.2.2,mp2,y1.2.2.1)))
   else
    some (.next ((bu .i64 x 1),(l2++[(⟨y1.1,y1.2.1⟩:Bj)]),y1.2.2.1,y1.2.2.2,mp2)))
  else
   some (.out (.inr (l2,l3,aw,mp1))))
def ft (aa:Int) (ae:List Point) (ab:List Node) (al:Int) (f:Bl) (box:Box) (fixed:Bool) (stt:Int×(List Bj)×(List (List Int))×Int×(List (List UInt8×Tree))):Option (Lp (Int×(List Bj)×(List (List Int))×Int×(List (List UInt8×Tree))) ((Int×Int×Int×Int×(List Bj)×Bool×Int×(List (List UInt8×Tree))×(List (List Int))) ⊕ ((List Bj)×(List (List Int))×Int×(List (List UInt8×Tree))))):=match stt with
 | (y,l,l1,ai,mp) =>
  (bif (ltB y (bu .i64 box.Y box.H)) then
   (bm (fA aa ae ab al f box fixed y) bI (box.X,l,l1,ai,mp)).bind fun o=>match o with
    | .inl r =>
     some (.out (.inl r))
    | .inr (l2,l3,aw,mp1) =>
     some (.next ((bu .i64 y 1),l2,l3,aw,mp1))
  else
   some (.out (.inr (l,l1,ai,mp))))
def gu (ah:Int) (ag:List (List Int)) (aa:Int) (ae:List Point) (ab:List Node) (al:Int) (aj:List (List UInt8×Tree)) (f:Bl) (box:Box) (fixed:Bool):Option (Int×Int×Int×Int×(List Bj)×Bool×Int×(List (List UInt8×Tree))×(List (List Int))) :=
 (bm (ft aa ae ab al f box fixed) bI (box.Y,[],ag,ah,aj)).bind fun o=>match o with
  | .inl r =>
   some r
  | .inr (l,l1,ai,mp) =>
   some (box.X,box.Y,box.W,box.H,l,true,ai,mp,l1)
def fT (ah aa:Int) (ae:List Point) (ab:List Node) (al:Int) (aj:List (List UInt8×Tree)) (vars:List Int) (cv:Int) (stt:Int×(List (List Int))):Option (Lp (Int×(List (List Int))) ((List (List Int)))):=match stt with
 | (a,l) =>
  (bif (ltB a (bf vars)) then
   (idx vars a).bind fun x =>
   ((ishr .i64 cv a).bind fun n =>
   (bif (eqB (iand .i64 n 1) 0) then
    some (cA .i64 x)
   else
    some x)).bind fun v =>
   (dQ ah l aa ae ab al aj [v]).bind fun _y =>
   some (.next ((bu .i64 a 1),(l++[[v]])))
  else
   some (.out l))
def gL (ah:Int) (ag:List (List Int)) (aa:Int) (ae:List Point) (ab:List Node) (al:Int) (aj:List (List UInt8×Tree)) (vars:List Int) (cv:Int):Option (List (List Int)) :=
 (bm (fT ah aa ae ab al aj vars cv) bI (0,ag)).bind fun l =>
 some l
def eU (_ah:Int) (ag:List (List Int)) (_aa:Int) (_ae:List Point) (_ab:List Node) (_al:Int) (_aj:List (List UInt8×Tree)):Option (Unit) :=
 (gf 24 ag [[]]).bind fun _l =>
 some ()
def jx (gv:Grid) (y3:Int) (y4:Int×(List Point)×(List Node)×Int) (y5:(List Bj)×(List (List Int))×Int) (stt:Int×(List (List UInt8×Tree))×Int×(List (List Int))):Option (Lp (Int×(List (List UInt8×Tree))×Int×(List (List Int))) ((Bi×Int×Int) ⊕ ((List (List UInt8×Tree))×Int×(List (List Int))))):=match stt with
 | (a,mp,ah,l) =>
  (bif (ltB a (bf gv.Cells)) then
   (idx gv.Cells a).bind fun x =>
   (irem a gv.W).bind fun n =>
   (iquo .i64 a gv.W).bind fun n1 =>
   (gu ah l y4.1 y4.2.1 y4.2.2.1 y4.2.2.2 mp (⟨⟨(⟨(cA .i64 y3),(cA .i64 y3),(bu .i64 gv.W (bU .i64 2 y3)),(bu .i64 gv.H (bU .i64 2 y3))⟩:Box).X,(⟨(cA .i64 y3),(cA .i64 y3),(bu .i64 gv.W (bU .i64 2 y3)),(bu .i64 gv.H (bU .i64 2 y3))⟩:Box).Y,(⟨(cA .i64 y3),(cA .i64 y3),(bu .i64 gv.W (bU .i64 2 y3)),(bu .i64 gv.H (bU .i64 2 y3))⟩:Box).W,(⟨(cA .i64 y3),(cA .i64 y3),(bu .i64 gv.W (bU .i64 2 y3)),(bu .i64 gv.H (bU .i64 2 y3))⟩:Box).H⟩,y5.1⟩:Bl) (⟨n,n1,1,1⟩:Box) false).bind fun y6 =>
   (bif (fO y6.2.2.2.2.2.1) then
    some (.out (.inl ((⟨0,[]⟩:Bi),0,6)))
   else
    (idx y6.2.2.2.2.1 0).bind fun x1 =>
    (bif (fO (isE x1.vars)) then
     (neE x1.vars).bind fun _u =>
     (gL y6.2.2.2.2.2.2.1 y6.2.2.2.2.2.2.2.2 y4.1 y4.2.1 y4.2.2.1 y4.2.2.2 y6.2.2.2.2.2.2.2.1 x1.vars x).bind fun y7 =>
     some (.next ((bu .i64 a 1),y6.2.2.2.2.2.2.2.1,y6.2.2.2.2.2.2.1,y7))
    else
     (bif (neB x1.constant x) then
      (eU y6.2.2.2.2.2.2.1 y6.2.2.2.2.2.2.2.2 y4.1 y4.2.1 y4.2.2.1 y4.2.2.2 y6.2.2.2.2.2.2.2.1).bind fun _y7 =>
      some (.next ((bu .i64 a 1),y6.2.2.2.2.2.2.2.1,y6.2.2.2.2.2.2.1,(y6.2.2.2.2.2.2.2.2++[[]])))
     else
      some (.next ((bu .i64 a 1),y6.2.2.2.2.2.2.2.1,y6.2.2.2.2.2.2.1,y6.2.2.2.2.2.2.2.2)))))
  else
   some (.out (.inr (mp,ah,l))))
def iN (t:Tree) (gv:Grid):Option (Bi×Int×Int) :=
 (eQ t).bind fun y =>
 (bif (fO y) then
  some ((⟨0,[]⟩:Bi),0,11)
 else
  (iD gv).bind fun y1 =>
  (bif (fO y1) then
   some ((⟨0,[]⟩:Bi),0,2)
  else
   (cr gv.Cells t).bind fun y2 =>
   (bif y2 then
    some ((⟨0,[]⟩:Bi),0,10)
   else
    (di t.Hood).bind fun y3 =>
    (bif (gtB (bU .i64 (bu .i64 gv.W (bU .i64 2 y3)) (bu .i64 gv.H (bU .i64 2 y3))) 16) then
     some ((⟨0,[]⟩:Bi),0,6)
    else
     (m7 t).bind fun y4 =>
     (gn 0 [] y4.1 y4.2.1 y4.2.2.1 y4.2.2.2 [] (⟨(cA .i64 y3),(cA .i64 y3),(bu .i64 gv.W (bU .i64 2 y3)),(bu .i64 gv.H (bU .i64 2 y3))⟩:Box)).bind fun y5 =>
     (bm (jx gv y3 y4 y5) bI (0,[],y5.2.2,y5.2.1)).bind fun o=>match o with
      | .inl r =>
       some r
      | .inr (mp,ah,l) =>
       (dZ ah l y4.1 y4.2.1 y4.2.2.1 y4.2.2.2 mp).bind fun y6 =>
       (bif y6 then
        some ((⟨0,[]⟩:Bi),0,6)
       else
        some ((⟨ah,l⟩:Bi),y5.2.2,0))))))
def iX (_f:Bi) (n bits:Int) (stt:Int×(List Int)):Option (Lp (Int×(List Int)) ((List Int))):=match stt with
 | (a,vars) =>
  (bif (ltB a (bf (List.replicate n.toNat ()))) then
   (iquo .i64 a bits).bind fun n1 =>
   (irem a bits).bind fun n2 =>
   (idx vars a).bind fun _x =>
   some (.next ((bu .i64 a 1),(vars.set a.toNat (bK .i64 (bK .i64 (bu .i64 (bU .i64 n1 bits) bits) 1) n2))))
  else
   some (.out vars))
def jc (_f:Bi) (n:Int) (vars:List Int) (_a:Int) (_l1:List (List Int)) (x:List Int) (stt:Int×(List Int)):Option (Lp (Int×(List Int)) ((List Int))):=match stt with
 | (a1,l3) =>
  (bif (ltB a1 (bf x)) then
   (idx x a1).bind fun x1 =>
   ((bif (leB (gD x1 (cA .i64 x1)) n) then
    (idx vars (bK .i64 (gD x1 (cA .i64 x1)) 1)).bind fun x2 =>
    some (bu .i64 x2 1)
   else
    some (gD x1 (cA .i64 x1)))).bind fun v =>
   ((bif (ltB x1 0) then
    some (cA .i64 v)
   else
    some v)).bind fun v1 =>
   (idx l3 a1).bind fun _x2 =>
   some (.next ((bu .i64 a1 1),(l3.set a1.toNat v1)))
  else
   some (.out l3))
def j0 (f:Bi) (n:Int) (vars:List Int) (stt:Int×(List (List Int))):Option (Lp (Int×(List (List Int))) ((List (List Int)))):=match stt with
 | (a,l1) =>
  (bif (ltB a (bf f.Clauses)) then
   (idx f.Clauses a).bind fun x =>
   (mkL 8 (bf x) (bf x) 0).bind fun _l2 =>
   (bm (jc f n vars a l1 x) bI (0,(List.replicate (bf x).toNat 0))).bind fun l3 =>
   (gf 24 l1 [l3]).bind fun _l4 =>
   some (.next ((bu .i64 a 1),(l1++[l3])))
  else
   some (.out l1))
def jZ (f:Bi) (n bits:Int):Option (Bi×(List Int)) :=
 (mkL 8 n n 0).bind fun _l =>
 (bm (iX f n bits) bI (0,(List.replicate n.toNat 0))).bind fun vars =>
 (bm (j0 f n vars) bI (0,[])).bind fun l1 =>
 some ((⟨f.Vars,l1⟩:Bi),vars)
def jC (vars:Int) (l:List Int) (stt:Int):Option (Lp (Int) (Bool ⊕ Unit)):=match stt with
 | a =>
  (bif (ltB a (bf l)) then
   (idx l a).bind fun x =>
   ((bif (eqB x 0) then
    some true
   else
    (bif (gtB x vars) then
     some true
    else
     some (ltB x (cA .i64 vars))))).bind fun a1 =>
   (bif a1 then
    some (.out (.inl false))
   else
    some (.next (bu .i64 a 1)))
  else
   some (.out (.inr ())))
def kD (vars:Int) (l:List Int):Option (Bool) :=
 (bm (jC vars l) bI 0).bind fun o=>match o with
  | .inl r =>
   some r
  | .inr _u =>
   some true
def jP (f:Bi) (stt:Int):Option (Lp (Int) (Bool ⊕ Unit)):=match stt with
 | a1 =>
  (bif (ltB a1 (bf f.Clauses)) then
   (idx f.Clauses a1).bind fun x =>
   (kD f.Vars x).bind fun y =>
   (bif (fO y) then
    some (.out (.inl false))
   else
    some (.next (bu .i64 a1 1)))
  else
   some (.out (.inr ())))
def jp (f:Bi):Option (Bool) :=
 ((bif (ltB f.Vars 0) then
  some true
 else
  (bif (gtB f.Vars 65536) then
   some true
  else
   some (gtB (bf f.Clauses) 262144)))).bind fun a =>
 (bif a then
  some false
 else
  (bm (jP f) bI 0).bind fun o=>match o with
   | .inl r =>
    some r
   | .inr _u =>
    some true)
def jL (l:List Int):Option (List Int):=sortIM l
def iz (l:List Int):Option ((List Int)×Nat):=cmpIM l
def fN (am _av:List Int) (_au:Int) (_ak:List Bn) (_ar:Bool) (x:Int):Option (Int) :=
 (bif (ltB x 0) then
  (idx am (cA .i64 x)).bind fun x1 =>
  some (cA .i8 x1)
 else
  (idx am x).bind fun x1 =>
  some x1)
def ec (am av:List Int) (_au:Int) (_ar:Bool) (x:Int):Option (List Int) :=
 ((bif (gtB x 0) then
  (idx am x).bind fun _x1 =>
  some (am.set x.toNat 1)
 else
  (idx am (cA .i64 x)).bind fun _x1 =>
  some (am.set (cA .i64 x).toNat (-1)))).bind fun l =>
 (gf 8 av [x]).bind fun _l1 =>
 some l
def jb (_f:Bi) (_a:Int) (_l1:List Int) (_ar:Bool) (l2:List (List Int)) (_l3:List Int) (y2:(List Int)×Nat) (_u:Unit) (stt:Int×(List (Int×List Int))):Option (Lp (Int×(List (Int×List Int))) ((List (Int×List Int)))):=match stt with
 | (a1,mp1) =>
  (bif (ltB a1 (lenP 0 2)) then
   (idxP (y2.1.take y2.2) 0 2 a1).bind fun x1 =>
   (kckL [x1]).bind fun _u1 =>
   (gf 8 (fe mp1 x1 []) [(bf l2)]).bind fun _l5 =>
   some (.next ((bu .i64 a1 1),(ig (iQ mp1 x1) x1 ((fe mp1 x1 [])++[(bf l2)]))))
  else
   some (.out mp1))
def iV (f:Bi) (stt:Int×(List (Int×List Int))×(List Int)×Bool×(List (List Int))×(List Int)):Option (Lp (Int×(List (Int×List Int))×(List Int)×Bool×(List (List Int))×(List Int)) (((List (Int×List Int))×(List Int)×Bool×(List (List Int))×(List Int)))):=match stt with
 | (a,mp,l1,ar,l2,l3) =>
  (bif (ltB a (bf f.Clauses)) then
   (idx f.Clauses a).bind fun x =>
   (cF x).bind fun y =>
   (jL y).bind fun y1 =>
   (iz y1).bind fun y2 =>
   (bif (eqB (bf (y2.1.take y2.2)) 0) then
    some (.next ((bu .i64 a 1),mp,l1,true,l2,l3))
   else
    (bif (eqB (bf (y2.1.take y2.2)) 1) then
     (idx (y2.1.take y2.2) 0).bind fun x1 =>
     (fN l1 l3 0 [] ar x1).bind fun y3 =>
     (bif (eqB y3 (-1)) then
      some (.next ((bu .i64 a 1),mp,l1,true,l2,l3))
     else
      (bif (eqB y3 0) then
       (ec l1 l3 0 ar x1).bind fun y4 =>
       some (.next ((bu .i64 a 1),mp,y4,ar,l2,(l3++[x1])))
      else
       some (.next ((bu .i64 a 1),mp,l1,ar,l2,l3))))
    else
     (gf 24 l2 [(y2.1.take y2.2)]).bind fun _l4 =>
     (subK (y2.1.take y2.2) 0 2).bind fun u =>
     (bm (jb f a l1 ar l2 l3 y2 u) bI (0,mp)).bind fun mp1 =>
     some (.next ((bu .i64 a 1),mp1,l1,ar,(l2++[(y2.1.take y2.2)]),l3))))
  else
   some (.out (mp,l1,ar,l2,l3)))
def ia (f:Bi):Option ((List (Int×List Int))×(List Int)×Bool×(List (List Int))×(List Int)) :=
 (mkL 1 (bu .i64 f.Vars 1) (bu .i64 f.Vars 1) 0).bind fun _l =>
 (bm (iV f) bI (0,([]:List (Int×List Int)),(List.replicate (bu .i64 f.Vars 1).toNat 0),false,([]:List (List Int)),[])).bind fun(mp,l1,ar,l2,l3) =>
 some (mp,l1,ar,l2,l3)
def gJ (y:Int) (aW b2:List Int) (b5:Int) (aP:List Bn) (abad:Bool):Option (Bool) :=
 (fN aW b2 b5 aP abad y).bind fun y1 =>
 some (neB y1 (-1))
def cm (s aD aJ:List Int) (aR:Int) (az:List Bn) (aY:Bool) (stt:Int):Option (Lp (Int) (Int ⊕ Unit)):=match stt with
 | a =>
  (bif (ltB a (bf s)) then
   (idx s a).bind fun x =>
   (gJ x aD aJ aR az aY).bind fun y =>
   (bif y then
    some (.out (.inl a))
   else
    some (.next (bu .i64 a 1)))
  else
   some (.out (.inr ())))
def cq (s aD aJ:List Int) (aR:Int) (az:List Bn) (aY:Bool):Option (Int) :=
 (bm (cm s aD aJ aR az aY) bI 0).bind fun o=>match o with
  | .inl r =>
   some r
  | .inr _u =>
   some (-1)
def fU (ax:List (Int×List Int)) (au:Int) (ak:List Bn) (ar:Bool) (x:Int) (_u:Unit) (stt:Nat×Int×(List Int)×(List Int)×(List (List Int))×(List (Int×List Int))×(List Int)):Option (Lp (Nat×Int×(List Int)×(List Int)×(List (List Int))×(List (Int×List Int))×(List Int)) ((Bool×(List Int)×(List (List Int))×(List (Int×List Int))×(List Int)) ⊕ (Nat×(List Int)×(List Int)×(List (List Int))×(List (Int×List Int))×(List Int)))):=match stt with
 | (n,a,old,l2,l,mp,l1) =>
  (bif (ltB a (bf (fe ax x []))) then
   (idx old a).bind fun x1 =>
   (idx l x1).bind fun x2 =>
   ((idx x2 0).bind fun x3 =>
   (bif (eqB x3 x) then
    (idx x2 1).bind fun x4 =>
    (idx (x2.set 0 x4) 1).bind fun _x5 =>
    some ((x2.set 0 x4).set 1 x3)
   else
    some x2)).bind fun cv =>
   (idx cv 0).bind fun x3 =>
   (fN l1 l2 au ak ar x3).bind fun y =>
   (bif (eqB y 1) then
    (lenK old (n+1)).bind fun _u2 =>
    some (.next ((n+1),(bu .i64 a 1),(kj old n [x1]),l2,(l.set x1.toNat cv),mp,l1))
   else
    (subK cv 2 cv.length).bind fun _u2 =>
    (cq (subL cv 2 cv.length) l1 l2 au ak ar).bind fun y1 =>
    (bif (geB y1 0) then
     (idx cv (bu .i64 y1 2)).bind fun x4 =>
     (idx cv 1).bind fun x5 =>
     (idx (cv.set 1 x4) (bu .i64 y1 2)).bind fun _x6 =>
     (idx ((cv.set 1 x4).set (bu .i64 y1 2).toNat x5) 1).bind fun x7 =>
     (kckL [x7]).bind fun _u3 =>
     (ckB (neB x x7)).bind fun _u4 =>
     (gf 8 (fe mp x7 []) [x1]).bind fun _l3 =>
     some (.next (n,(bu .i64 a 1),old,l2,(l.set x1.toNat ((cv.set 1 x4).set (bu .i64 y1 2).toNat x5)),(ig (iQ mp x7) x7 ((fe mp x7 [])++[x1])),l1))
    else
     (lenK old (n+1)).bind fun _u3 =>
     (bif (eqB y (-1)) then
      (subK (kj old n [x1]) (bu .i64 a 1) (kj old n [x1]).length).bind fun _u4 =>
      (lenK (kj old n [x1]) ((n+1)+(subL (kj old n [x1]) ((bu .i64 a 1).toNat) ((kj old n [x1]).length)).length)).bind fun _u5 =>
      (kckL [x]).bind fun _u6 =>
      (ckB (cH mp x)).bind fun _u7 =>
      (lenK (kj (kj old n [x1]) (n+1) (subL (kj old n [x1]) ((bu .i64 a 1).toNat) ((kj old n [x1]).length))) ((n+1)+(subL (kj old n [x1]) ((bu .i64 a 1).toNat) ((kj old n [x1]).length)).length)).bind fun _u8 =>
      some (.out (.inl (false,l2,(l.set x1.toNat cv),(ig mp x ((kj (kj old n [x1]) (n+1) (subL (kj old n [x1]) ((bu .i64 a 1).toNat) ((kj old n [x1]).length))).take ((n+1)+(subL (kj old n [x1]) ((bu .i64 a 1).toNat) ((kj old n [x1]).length)).length))),l1)))
     else
      (ec l1 l2 au ar x3).bind fun y2 =>
      some (.next ((n+1),(bu .i64 a 1),(kj old n [x1]),(l2++[x3]),(l.set x1.toNat cv),mp,y2)))))
  else
   some (.out (.inr (n,old,l2,l,mp,l1))))
def gK (aI:List (List Int)) (ax:List (Int×List Int)) (am av:List Int) (au:Int) (ak:List Bn) (ar:Bool) (x:Int):Option (Bool×(List Int)×(List (List Int))×(List (Int×List Int))×(List Int)) :=
 (kckL [x]).bind fun u =>
 (subK (fe ax x []) 0 0).bind fun _u1 =>
 (bm (fU ax au ak ar x u) bI (0,0,(fe ax x []),av,aI,(iQ ax x),am)).bind fun o=>match o with
  | .inl r =>
   some r
  | .inr (n,l,l1,l2,mp,l3) =>
   (ckB (cH mp x)).bind fun _u2 =>
   (lenK l n).bind fun _u3 =>
   some (true,l1,l2,(ig mp x (l.take n)),l3)
def ej (ak:List Bn) (ar:Bool) (stt:(List Int)×Int×(List (List Int))×(List (Int×List Int))×(List Int)):Option (Lp ((List Int)×Int×(List (List Int))×(List (Int×List Int))×(List Int)) ((Bool×Int×(List (List Int))×(List (Int×List Int))×(List Int)×(List Int)) ⊕ ((List Int)×Int×(List (List Int))×(List (Int×List Int))×(List Int)))):=match stt with
 | (l2,aG,l,mp,l1) =>
  (bif (ltB aG (bf l2)) then
   (idx l2 aG).bind fun x =>
   (gK l mp l1 l2 aG ak ar (cA .i64 x)).bind fun y =>
   (bif (fO y.1) then
    some (.out (.inl (false,aG,y.2.2.1,y.2.2.2.1,y.2.2.2.2,y.2.1)))
   else
    some (.next (y.2.1,(bu .i64 aG 1),y.2.2.1,y.2.2.2.1,y.2.2.2.2)))
  else
   some (.out (.inr (l2,aG,l,mp,l1))))
def f9 (aI:List (List Int)) (ax:List (Int×List Int)) (am av:List Int) (au:Int) (ak:List Bn) (ar:Bool):Option (Bool×Int×(List (List Int))×(List (Int×List Int))×(List Int)×(List Int)) :=
 (bm (ej ak ar) bI (av,au,aI,ax,am)).bind fun o=>match o with
  | .inl r =>
   some r
  | .inr (l,bdone,l1,mp,l2) =>
   some (true,bdone,l1,mp,l2,l)
def gA (av:List Int) (_au:Int) (_ak:List Bn) (_ar:Bool) (x:Bn) (stt:Int×(List Int)):Option (Lp (Int×(List Int)) ((List Int))):=match stt with
 | (a,l) =>
  (bif (ltB a (lenP x.trail.toNat av.length)) then
   (idxP av x.trail.toNat av.length a).bind fun x1 =>
   (idx l (gD x1 (cA .i64 x1))).bind fun _x2 =>
   some (.next ((bu .i64 a 1),(l.set (gD x1 (cA .i64 x1)).toNat 0)))
  else
   some (.out l))
def i2 (am av:List Int) (au:Int) (ak:List Bn) (ar:Bool):Option (Int×Int×Bool×(List Int)×(List Int)) :=
 (idx ak (bK .i64 (bf ak) 1)).bind fun x =>
 (subK ak 0 (bK .i64 (bf ak) 1)).bind fun _u2 =>
 (subK av x.trail av.length).bind fun _u3 =>
 (bm (gA av au ak ar x) bI (0,am)).bind fun l =>
 (subK av 0 x.trail).bind fun _u4 =>
 some (x.variable_,x.trail,x.turned,(av.take x.trail.toNat),l)
def ei (am av:List Int) (au:Int) (ak:List Bn) (ar:Bool) (x:Int) (turned:Bool):Option (List Int) :=
 (gf 24 ak [(⟨(gD x (cA .i64 x)),(bf av),turned⟩:Bn)]).bind fun _l =>
 (ec am av au ar x).bind fun y =>
 some y
def gk (ar:Bool) (n:Int) (stt:(List Int)×(List Bn)×Int×(List Int)):Option (Lp ((List Int)×(List Bn)×Int×(List Int)) ((Bool×Int×(List Int)×(List Int)×(List Bn)) ⊕ ((List Int)×(List Bn)×Int×(List Int)))):=match stt with
 | (l1,l2,aG,l) =>
  (bif (gtB (bf l2) 0) then
   (i2 l l1 aG l2 ar).bind fun y =>
   ((bif (fO y.2.2.1) then
    some (leB y.1 n)
   else
    some false)).bind fun a =>
   (bif a then
    (ei y.2.2.2.2 y.2.2.2.1 y.2.1 (l2.take ((bK .i64 (bf l2) 1).toNat)) ar y.1 true).bind fun y1 =>
    some (.out (.inl (true,y.2.1,y1,(y.2.2.2.1++[y.1]),((l2.take ((bK .i64 (bf l2) 1).toNat))++[(⟨(gD y.1 (cA .i64 y.1)),(bf y.2.2.2.1),true⟩:Bn)]))))
   else
    some (.next (y.2.2.2.1,(l2.take ((bK .i64 (bf l2) 1).toNat)),y.2.1,y.2.2.2.2)))
  else
   some (.out (.inr (l1,l2,aG,l))))
def fp (am av:List Int) (au:Int) (ak:List Bn) (ar:Bool) (n:Int):Option (Bool×Int×(List Int)×(List Int)×(List Bn)) :=
 (bm (gk ar n) bI (av,ak,au,am)).bind fun o=>match o with
  | .inl r =>
   some r
  | .inr (l,l1,bdone,l2) =>
   some (false,bdone,l2,l,l1)
def fD (am:List Int) (ar:Bool) (l3:List Bn) (y:Bool×Int×(List (List Int))×(List (Int×List Int))×(List Int)×(List Int)) (stt:Int):Option (Lp (Int) (((List Bn)×(List Int)×(List Int)) ⊕ Unit)):=match stt with
 | v =>
  (bif (leB v (bK .i64 (bf am) 1)) then
   (idx y.2.2.2.2.1 v).bind fun x =>
   (bif (eqB x 0) then
    (ei y.2.2.2.2.1 y.2.2.2.2.2 y.2.1 l3 ar (cA .i64 v) false).bind fun y1 =>
    some (.out (.inl ((l3++[(⟨(gD (cA .i64 v) (cA .i64 (cA .i64 v))),(bf y.2.2.2.2.2),false⟩:Bn)]),(y.2.2.2.2.2++[(cA .i64 v)]),y1)))
   else
    some (.next (bu .i64 v 1)))
  else
   some (.out (.inr ())))
def fw (am:List Int) (ar:Bool) (stt:(List Int)×(List Bn)×Int×(List (List Int))×(List (Int×List Int))×(List Int)):Option (Lp ((List Int)×(List Bn)×Int×(List (List Int))×(List (Int×List Int))×(List Int)) ((Bool×Int×(List (List Int))×(List (Int×List Int))×(List Int)×(List Int)×(List Bn)))):=match stt with
 | (l2,l3,aG,l,mp,l1) =>
  (f9 l mp l1 l2 aG l3 ar).bind fun y =>
  (bif (fO y.1) then
   (fp y.2.2.2.2.1 y.2.2.2.2.2 y.2.1 l3 ar (bK .i64 (bf am) 1)).bind fun y1 =>
   (bif (fO y1.1) then
    some (.out (false,y1.2.1,y.2.2.1,y.2.2.2.1,y1.2.2.1,y1.2.2.2.1,y1.2.2.2.2))
   else
    some (.next (y1.2.2.2.1,y1.2.2.2.2,y1.2.1,y.2.2.1,y.2.2.2.1,y1.2.2.1)))
  else
   (bm (fD am ar l3 y) bI 1).bind fun o=>match o with
    | .inl (l4,l5,l6) =>
     some (.next (l5,l4,y.2.1,y.2.2.1,y.2.2.2.1,l6))
    | .inr _u =>
     some (.out (true,y.2.1,y.2.2.1,y.2.2.2.1,y.2.2.2.2.1,y.2.2.2.2.2,l3)))
def dy (aI:List (List Int)) (ax:List (Int×List Int)) (am av:List Int) (au:Int) (ak:List Bn) (ar:Bool):Option (Bool×Int×(List (List Int))×(List (Int×List Int))×(List Int)×(List Int)×(List Bn)) :=
 (bif ar then
  some (false,au,aI,ax,am,av,ak)
 else
  (bm (fw am ar) loopG (av,ak,au,aI,ax,am)).bind fun r =>
  some r)
def fQ (am:List Int) (_au:Int) (_ar:Bool) (n:Int) (stt:Int×(List Bool)):Option (Lp (Int×(List Bool)) ((List Bool))):=match stt with
 | (a,out) =>
  (bif (ltB a (bf (List.replicate n.toNat ()))) then
   (idx am (bu .i64 a 1)).bind fun x =>
   (idx out a).bind fun _x1 =>
   some (.next ((bu .i64 a 1),(out.set a.toNat (eqB x 1))))
  else
   some (.out out))
def eK (am:List Int) (au:Int) (ar:Bool) (n:Int):Option (List Bool) :=
 (mkL 1 n n false).bind fun _l =>
 (bm (fQ am au ar n) bI (0,(List.replicate n.toNat false))).bind fun out =>
 some out
def nI (f:Bi):Option ((List Bool)×Bool×Int) :=
 (jp f).bind fun y =>
 (bif (fO y) then
  some ([],false,2)
 else
  (ia f).bind fun y1 =>
  (dy y1.2.2.2.1 y1.1 y1.2.1 y1.2.2.2.2 0 [] y1.2.2.1).bind fun y2 =>
  (bif (fO y2.1) then
   some ([],false,0)
  else
   (eK y2.2.2.2.2.1 y2.2.1 y1.2.2.1 f.Vars).bind fun y3 =>
   some (y3,true,0)))
def iL (t:Tree) (gv:Grid):Option (Int×Int×Int) :=
 (di t.Hood).bind fun y =>
 (jQ t.States).bind fun y1 =>
 (some ()).bind fun _u =>
 some (y1,(bu .i64 gv.W (bU .i64 2 y)),(bu .i64 gv.H (bU .i64 2 y)))
def kg (l:List Bool) (vars:List Int) (stt:Int×(List Bool)):Option (Lp (Int×(List Bool)) ((List Bool))):=match stt with
 | (a,out) =>
  (bif (ltB a (bf vars)) then
   (idx vars a).bind fun x =>
   (idx l x).bind fun x1 =>
   (idx out a).bind fun _x2 =>
   some (.next ((bu .i64 a 1),(out.set a.toNat x1)))
  else
   some (.out out))
def lA (l:List Bool) (vars:List Int):Option (List Bool) :=
 (mkL 1 (bf vars) (bf vars) false).bind fun _l1 =>
 (bm (kg l vars) bI (0,(List.replicate (bf vars).toNat false))).bind fun out =>
 some out
def lD (l:List Bool) (stt:Int×Int):Option (Lp (Int×Int) (Int)):=match stt with
 | (n,a) =>
  (bif (ltB a (bf l)) then
   ((idx l a).bind fun x =>
   (bif x then
    (ishl .i64 1 a).bind fun n1 =>
    some (ior .i64 n n1)
   else
    some n)).bind fun n1 =>
   some (.next (n1,(bu .i64 a 1)))
  else
   some (.out n))
def nv (l:List Bool):Option (Int) :=
 (bif (gtB (bf l) 8) then
  some 0
 else
  (bm (lD l) bI (0,0)).bind fun n =>
  some n)
def fc (l:List Bool) (a a1 a2:Int) (stt:Int×(List Int)):Option (Lp (Int×(List Int)) ((List Int))):=match stt with
 | (a3,l1) =>
  (bif (ltB a3 (bU .i64 a a1)) then
   (slcL l (bU .i64 a3 a2) (bU .i64 (bu .i64 a3 1) a2)).bind fun l2 =>
   (nv l2).bind fun y =>
   (gf 8 l1 [y]).bind fun _l3 =>
   some (.next ((bu .i64 a3 1),(l1++[y])))
  else
   some (.out l1))
def e9 (l:List Bool) (a a1 a2:Int):Option (List Int) :=
 (bm (fc l a a1 a2) bI (0,[])).bind fun l1 =>
 some l1
def eY (t:Tree) (gv:Grid):Option (Grid×Bool×Int) :=
 (iN t gv).bind fun y =>
 (bif (neB y.2.2 0) then
  some ((⟨0,0,0,[]⟩:Grid),false,y.2.2)
 else
  (jQ t.States).bind fun y1 =>
  (jZ y.1 y.2.1 y1).bind fun y2 =>
  (nI y2.1).bind fun y3 =>
  ((bif (neB y3.2.2 0) then
   some true
  else
   some (fO y3.2.1))).bind fun a =>
  (bif a then
   some ((⟨0,0,0,[]⟩:Grid),false,y3.2.2)
  else
   (iL t gv).bind fun y4 =>
   (lA y3.1 y2.2).bind fun y5 =>
   (e9 y5 y4.2.1 y4.2.2 y4.1).bind fun y6 =>
   some ((⟨y4.2.1,y4.2.2,0,y6⟩:Grid),true,0)))
def nt (n most:Int) (y:(List (Int×List Int))×(List Int)×Bool×(List (List Int))×(List Int)) (stt:Bool×(List (Int×List Int))×(List Int)×Int×(List (List Int))×(List (List Bool))×(List Int)×(List Bn)):Option (Lp (Bool×(List (Int×List Int))×(List Int)×Int×(List (List Int))×(List (List Bool))×(List Int)×(List Bn)) (((List (List Bool))×Int) ⊕ (List (List Bool)))):=match stt with
 | (ok,mp,l,au,l1,out,l2,l3) =>
  (bif ok then
   (bif (geB (bf out) most) then
    some (.out (.inl ([],14)))
   else
    (eK l au y.2.2.1 n).bind fun y2 =>
    (gf 24 out [y2]).bind fun _l4 =>
    (fp l l2 au l3 y.2.2.1 n).bind fun y3 =>
    (bif y3.1 then
     (dy l1 mp y3.2.2.1 y3.2.2.2.1 y3.2.1 y3.2.2.2.2 y.2.2.1).bind fun y4 =>
     some (.next (y4.1,y4.2.2.2.1,y4.2.2.2.2.1,y4.2.1,y4.2.2.1,(out++[y2]),y4.2.2.2.2.2.1,y4.2.2.2.2.2.2))
    else
     some (.next (false,mp,y3.2.2.1,y3.2.1,l1,(out++[y2]),y3.2.2.2.1,y3.2.2.2.2))))
  else
   some (.out (.inr out)))
def m_solve_All (f:Bi) (n most:Int):Option ((List (List Bool))×Int) :=
 ((jp f).bind fun y =>
 (bif (fO y) then
  some true
 else
  (bif (ltB n 0) then
   some true
  else
   (bif (gtB n f.Vars) then
    some true
   else
    (bif (ltB most 0) then
     some true
    else
     some (gtB most 262144)))))).bind fun a =>
 (bif a then
  some ([],2)
 else
  (ia f).bind fun y =>
  (dy y.2.2.2.1 y.1 y.2.1 y.2.2.2.2 0 [] y.2.2.1).bind fun y1 =>
  (bm (nt n most y) bI (y1.1,y1.2.2.2.1,y1.2.2.2.2.1,y1.2.1,y1.2.2.1,[],y1.2.2.2.2.2.1,y1.2.2.2.2.2.2)).bind fun o=>match o with
   | .inl r =>
    some r
   | .inr out =>
    some (out,0))
def cu (sv1 sv2:List Int) (stt:Int):Option (Lp (Int) (Int ⊕ Unit)):=match stt with
 | a =>
  (bif (ltB a (bf sv1)) then
   (idx sv1 a).bind fun x =>
   (bif (geB a (bf sv2)) then
    some (.out (.inl 1))
   else
    (idx sv2 a).bind fun x1 =>
    (dG x x1).bind fun y =>
    (bif (neB y 0) then
     some (.out (.inl y))
    else
     some (.next (bu .i64 a 1))))
  else
   some (.out (.inr ())))
def e7 (sv1 sv2:List Int):Option (Int) :=
 (bm (cu sv1 sv2) bI 0).bind fun o=>match o with
  | .inl r =>
   some r
  | .inr _u =>
   (bif (ltB (bf sv1) (bf sv2)) then
    some (-1)
   else
    some 0)
def iE (a b:Grid):Option (Int) :=
 (e7 a.Cells b.Cells).bind fun y =>
 some y
def cg (l:List Grid):Option (List Grid):=sortR dH ed l
def kH (y1:(List (List Bool))×Int) (y2:Int×Int×Int) (stt:Int×(List Grid)):Option (Lp (Int×(List Grid)) ((List Grid))):=match stt with
 | (a1,out) =>
  (bif (ltB a1 (bf y1.1)) then
   (idx y1.1 a1).bind fun x =>
   (e9 x y2.2.1 y2.2.2 y2.1).bind fun y3 =>
   (gf 48 out [(⟨y2.2.1,y2.2.2,0,y3⟩:Grid)]).bind fun _l =>
   some (.next ((bu .i64 a1 1),(out++[(⟨y2.2.1,y2.2.2,0,y3⟩:Grid)])))
  else
   some (.out out))
def jU (t:Tree) (gv:Grid) (most:Int):Option ((List Grid)×Int) :=
 (iN t gv).bind fun y =>
 (bif (neB y.2.2 0) then
  some ([],y.2.2)
 else
  ((bif (ltB most 1) then
   some true
  else
   some (gtB most 5000))).bind fun a =>
  (bif a then
   some ([],2)
  else
   (m_solve_All y.1 y.2.1 most).bind fun y1 =>
   (bif (neB y1.2 0) then
    some ([],y1.2)
   else
    (iL t gv).bind fun y2 =>
    (bm (kH y1 y2) bI (0,[])).bind fun out =>
    (cg out).bind fun y3 =>
    some (y3,0))))
def ib (s:Int) (a:Tree):Option (Bool) :=
 some (geB s a.States)
def bB (s:List Int) (cv:Tree) (stt:Int):Option (Lp (Int) (Int ⊕ Unit)):=match stt with
 | a =>
  (bif (ltB a (bf s)) then
   (idx s a).bind fun x =>
   (ib x cv).bind fun y =>
   (bif y then
    some (.out (.inl a))
   else
    some (.next (bu .i64 a 1)))
  else
   some (.out (.inr ())))
def ce (s:List Int) (cv:Tree):Option (Int) :=
 (bm (bB s cv) bI 0).bind fun o=>match o with
  | .inl r =>
   some r
  | .inr _u =>
   some (-1)
def bM (s:List Int) (cv:Tree):Option (Bool) :=
 (ce s cv).bind fun y =>
 some (geB y 0)
def fL (t:Tree) (gv:Grid):Option (Int) :=
 (eQ t).bind fun y =>
 (bif (fO y) then
  some 11
 else
  (iD gv).bind fun y1 =>
  (bif (fO y1) then
   some 2
  else
   (bM gv.Cells t).bind fun y2 =>
   (bif y2 then
    some 10
   else
    some 0)))
def kO (s:Int) (a:Tree):Option (Bool) :=
 ((bif (ltB s 0) then
  some true
 else
  some (geB s a.States))).bind fun a1 =>
 some a1
def bJ (s:List Int) (cv:Tree) (stt:Int):Option (Lp (Int) (Int ⊕ Unit)):=match stt with
 | a =>
  (bif (ltB a (bf s)) then
   (idx s a).bind fun x =>
   (kO x cv).bind fun y =>
   (bif y then
    some (.out (.inl a))
   else
    some (.next (bu .i64 a 1)))
  else
   some (.out (.inr ())))
def cp (s:List Int) (cv:Tree):Option (Int) :=
 (bm (bJ s cv) bI 0).bind fun o=>match o with
  | .inl r =>
   some r
  | .inr _u =>
   some (-1)
def bS (s:List Int) (cv:Tree):Option (Bool) :=
 (cp s cv).bind fun y =>
 some (geB y 0)
def gt (t:Tree) (in_:List Int) (stt:Int×Int):Option (Lp (Int×Int) (Int)):=match stt with
 | (k,a) =>
  (bif (ltB a (bf in_)) then
   (idx in_ a).bind fun x =>
   (idx t.Nodes k).bind fun x1 =>
   (idx x1.Next x).bind fun x2 =>
   some (.next (x2,(bu .i64 a 1)))
  else
   some (.out k))
def ka (t:Tree) (in_:List Int):Option (Int) :=
 (bm (gt t in_) bI ((bK .i64 (bf t.Nodes) 1),0)).bind fun k =>
 some k
def kU (t:Tree) (in_:List Int):Option (Int×Int) :=
 (eQ t).bind fun y =>
 (bif (fO y) then
  some (0,11)
 else
  (bif (neB (bf in_) (bf t.Hood)) then
   some (0,2)
  else
   (bS in_ t).bind fun y1 =>
   (bif y1 then
    some (0,10)
   else
    (ka t in_).bind fun y2 =>
    some (y2,0))))
def gQ (t:Tree) (gv:Grid) (y1 a1 a2:Int) (_l1:List Int) (stt:Int×(List Int)):Option (Lp (Int×(List Int)) ((List Int))):=match stt with
 | (a3,in_) =>
  (bif (ltB a3 (bf t.Hood)) then
   (idx t.Hood a3).bind fun x =>
   (idx gv.Cells (bu .i64 (bu .i64 (bu .i64 (bU .i64 (bu .i64 (bu .i64 a1 y1) x.Y) gv.W) a2) y1) x.X)).bind fun x1 =>
   (gf 8 in_ [x1]).bind fun _l2 =>
   some (.next ((bu .i64 a3 1),(in_++[x1])))
  else
   some (.out in_))
def dt (t:Tree) (gv:Grid) (y1 a1:Int) (stt:Int×(List Int)):Option (Lp (Int×(List Int)) ((List Int))):=match stt with
 | (a2,l1) =>
  (bif (ltB a2 (bK .i64 gv.W (bU .i64 2 y1))) then
   (bm (gQ t gv y1 a1 a2 l1) bI (0,[])).bind fun in_ =>
   (kU t in_).bind fun y2 =>
   (gf 8 l1 [y2.1]).bind fun _l2 =>
   some (.next ((bu .i64 a2 1),(l1++[y2.1])))
  else
   some (.out l1))
def dv (t:Tree) (gv:Grid) (y1:Int) (stt:Int×(List Int)):Option (Lp (Int×(List Int)) ((List Int))):=match stt with
 | (a1,l) =>
  (bif (ltB a1 (bK .i64 gv.H (bU .i64 2 y1))) then
   (bm (dt t gv y1 a1) bI (0,l)).bind fun l1 =>
   some (.next ((bu .i64 a1 1),l1))
  else
   some (.out l))
def f0 (t:Tree) (gv:Grid):Option (Grid×Int) :=
 (fL t gv).bind fun y =>
 (bif (neB y 0) then
  some ((⟨0,0,0,[]⟩:Grid),y)
 else
  (di t.Hood).bind fun y1 =>
  ((bif (ltB (bK .i64 gv.W (bU .i64 2 y1)) 1) then
   some true
  else
   some (ltB (bK .i64 gv.H (bU .i64 2 y1)) 1))).bind fun a =>
  (bif a then
   some ((⟨0,0,0,[]⟩:Grid),6)
  else
   (bm (dv t gv y1) bI (0,[])).bind fun l =>
   some ((⟨(bK .i64 gv.W (bU .i64 2 y1)),(bK .i64 gv.H (bU .i64 2 y1)),0,l⟩:Grid),0)))
def ju (t:Tree) (n:Int) (stt:Int×Int×Int×(List Int)×(List Grid)):Option (Lp (Int×Int×Int×(List Int)×(List Grid)) ((List Grid))):=match stt with
 | (gW,gH,b4,aZ,out) =>
  (bif (ltB (bf out) n) then
   (eY t (⟨gW,gH,b4,aZ⟩:Grid)).bind fun y1 =>
   ((bif (eqB y1.2.2 6) then
    some true
   else
    some (fO y1.2.1))).bind fun a1 =>
   (bif a1 then
    some (.out out)
   else
    (gf 48 out [y1.1]).bind fun _l =>
    some (.next (y1.1.W,y1.1.H,y1.1.Edge,y1.1.Cells,(out++[y1.1]))))
  else
   some (.out out))
def kK (t:Tree) (gv:Grid) (n:Int):Option ((List Grid)×Int) :=
 (fL t gv).bind fun y =>
 (bif (neB y 0) then
  some ([],y)
 else
  ((bif (ltB n 0) then
   some true
  else
   some (gtB n 100))).bind fun a =>
  (bif a then
   some ([],2)
  else
   (bm (ju t n) bI (gv.W,gv.H,gv.Edge,gv.Cells,[])).bind fun out =>
   some (out,0)))
def jO (a b:Grid) (stt:Int):Option (Lp (Int) (Bool ⊕ Unit)):=match stt with
 | i =>
  (bif (ltB i (bf a.Cells)) then
   (idx a.Cells i).bind fun x =>
   (idx b.Cells i).bind fun x1 =>
   (bif (neB x x1) then
    some (.out (.inl false))
   else
    some (.next (bu .i64 i 1)))
  else
   some (.out (.inr ())))
def jB (a b:Grid):Option (Bool) :=
 ((bif (neB a.W b.W) then
  some true
 else
  (bif (neB a.H b.H) then
   some true
  else
   (bif (neB a.Edge b.Edge) then
    some true
   else
    some (neB (bf a.Cells) (bf b.Cells)))))).bind fun a1 =>
 (bif a1 then
  some false
 else
  (bm (jO a b) bI 0).bind fun o=>match o with
   | .inl r =>
    some r
   | .inr _u =>
    some true)
def lq:Option (Bool) :=
 (m_L48_shift).bind fun y =>
 (eY y (⟨1,1,0,[1]⟩:Grid)).bind fun y1 =>
 (jU y (⟨1,1,0,[1]⟩:Grid) 256).bind fun y2 =>
 (jU y (⟨1,1,0,[1]⟩:Grid) 255).bind fun y3 =>
 (f0 y y1.1).bind fun y4 =>
 (eY (⟨2,[(⟨0,0⟩:Point)],[(⟨1,[1,1]⟩:Node)]⟩:Tree) (⟨1,1,0,[0]⟩:Grid)).bind fun y5 =>
 (kK y (⟨1,1,0,[1]⟩:Grid) 5).bind fun y6 =>
 (eY (⟨0,[],[]⟩:Tree) (⟨1,1,0,[1]⟩:Grid)).bind fun y7 =>
 ((bif y1.2.1 then
  (bif (eqB y1.2.2 0) then
   (jB y1.1 (⟨3,3,0,[0,0,0,1,0,0,0,0,0]⟩:Grid)).bind fun y8 =>
   (bif y8 then
    (bif (eqB y2.2 0) then
     (bif (eqB (bf y2.1) 256) then
      (bif (eqB y3.2 14) then
       (bif (eqB y4.2 0) then
        (jB y4.1 (⟨1,1,0,[1]⟩:Grid)).bind fun y9 =>
        (bif y9 then
         (bif (fO y5.2.1) then
          (bif (eqB y5.2.2 0) then
           (bif (eqB y6.2 0) then
            (bif (eqB (bf y6.1) 1) then
             some (eqB y7.2.2 11)
            else
             some false)
           else
            some false)
          else
           some false)
         else
          some false)
        else
         some false)
       else
        some false)
      else
       some false)
     else
      some false)
    else
     some false)
   else
    some false)
  else
   some false)
 else
  some false)).bind fun a =>
 some a
def k9 (a b:Point):Option (Bool) :=
 ((bif (ltB a.Y b.Y) then
  some true
 else
  (bif (eqB a.Y b.Y) then
   some (ltB a.X b.X)
  else
   some false))).bind fun a1 =>
 some a1
def jh (l:List Point) (stt:Int):Option (Lp (Int) (Bool ⊕ Unit)):=match stt with
 | i =>
  (bif (ltB i (bf l)) then
   (idx l i).bind fun x =>
   ((bif (ltB x.X (-2)) then
    some true
   else
    (bif (gtB x.X 2) then
     some true
    else
     (bif (ltB x.Y (-2)) then
      some true
     else
      (bif (gtB x.Y 2) then
       some true
      else
       (bif (gtB i 0) then
        (idx l (bK .i64 i 1)).bind fun x1 =>
        (k9 x1 x).bind fun y =>
        some (fO y)
       else
        some false)))))).bind fun a1 =>
   (bif a1 then
    some (.out (.inl false))
   else
    some (.next (bu .i64 i 1)))
  else
   some (.out (.inr ())))
def jI (l:List Point):Option (Bool) :=
 ((bif (ltB (bf l) 1) then
  some true
 else
  some (gtB (bf l) 25))).bind fun a =>
 (bif a then
  some false
 else
  (bm (jh l) bI 0).bind fun o=>match o with
   | .inl r =>
    some r
   | .inr _u =>
    some true)
def hY (t:Tree) (i:Int) (x:Node) (stt:Int):Option (Lp (Int) (Bool ⊕ Unit)):=match stt with
 | s =>
  (bif (ltB s t.States) then
   (idx x.Next s).bind fun x1 =>
   (bif (ltB x1 0) then
    some (.out (.inl false))
   else
    ((bif (eqB x.Level 1) then
     some (geB x1 t.States)
    else
     some false)).bind fun a2 =>
    (bif a2 then
     some (.out (.inl false))
    else
     ((bif (gtB x.Level 1) then
      (bif (geB x1 i) then
       some true
      else
       (idx t.Nodes x1).bind fun x2 =>
       some (neB x2.Level (bK .i64 x.Level 1)))
     else
      some false)).bind fun a3 =>
     (bif a3 then
      some (.out (.inl false))
     else
      some (.next (bu .i64 s 1)))))
  else
   some (.out (.inr ())))
def hP (t:Tree) (stt:Int):Option (Lp (Int) (Bool ⊕ Unit)):=match stt with
 | i =>
  (bif (ltB i (bf t.Nodes)) then
   (idx t.Nodes i).bind fun x =>
   ((bif (ltB x.Level 1) then
    some true
   else
    (bif (gtB x.Level (bf t.Hood)) then
     some true
    else
     some (neB (bf x.Next) t.States)))).bind fun a1 =>
   (bif a1 then
    some (.out (.inl false))
   else
    (bm (hY t i x) bI 0).bind fun o=>match o with
     | .inl r =>
      some (.out (.inl r))
     | .inr _u =>
      some (.next (bu .i64 i 1)))
  else
   some (.out (.inr ())))
def lm (t:Tree):Option (Bool) :=
 ((bif (ltB t.States 2) then
  some true
 else
  (bif (gtB t.States 8) then
   some true
  else
   (jI t.Hood).bind fun y =>
   (bif (fO y) then
    some true
   else
    (bif (ltB (bf t.Nodes) 1) then
     some true
    else
     some (gtB (bf t.Nodes) 4096)))))).bind fun a =>
 (bif a then
  some false
 else
  (bm (hP t) bI 0).bind fun o=>match o with
   | .inl r =>
    some r
   | .inr _u =>
    (idx t.Nodes (bK .i64 (bf t.Nodes) 1)).bind fun x =>
    some (eqB x.Level (bf t.Hood)))
def oE (w hv b0:Int):Option (Bool) :=
 ((bif (geB w 1) then
  (bif (leB w 256) then
   (bif (geB hv 1) then
    (bif (leB hv 256) then
     (bif (leB (bU .i64 w hv) 4096) then
      (bif (geB b0 0) then
       some (leB b0 2)
      else
       some false)
     else
      some false)
    else
     some false)
   else
    some false)
  else
   some false)
 else
  some false)).bind fun a =>
 some a
def jo (gv:Grid) (stt:Int):Option (Lp (Int) (Bool ⊕ Unit)):=match stt with
 | i =>
  (bif (ltB i (bf gv.Cells)) then
   ((idx gv.Cells i).bind fun x =>
   (bif (ltB x 0) then
    some true
   else
    some (geB x 8))).bind fun a1 =>
   (bif a1 then
    some (.out (.inl false))
   else
    some (.next (bu .i64 i 1)))
  else
   some (.out (.inr ())))
def l7 (gv:Grid):Option (Bool) :=
 ((oE gv.W gv.H gv.Edge).bind fun y =>
 (bif (fO y) then
  some true
 else
  some (neB (bf gv.Cells) (bU .i64 gv.W gv.H)))).bind fun a =>
 (bif a then
  some false
 else
  (bm (jo gv) bI 0).bind fun o=>match o with
   | .inl r =>
    some r
   | .inr _u =>
    some true)
def ji (t:Tree) (gv:Grid) (stt:Int):Option (Lp (Int) (Int ⊕ Unit)):=match stt with
 | i =>
  (bif (ltB i (bf gv.Cells)) then
   (idx gv.Cells i).bind fun x =>
   (bif (geB x t.States) then
    some (.out (.inl 10))
   else
    some (.next (bu .i64 i 1)))
  else
   some (.out (.inr ())))
def l9 (t:Tree) (gv:Grid):Option (Int) :=
 (lm t).bind fun y =>
 (bif (fO y) then
  some 11
 else
  (l7 gv).bind fun y1 =>
  (bif (fO y1) then
   some 2
  else
   (bm (ji t gv) bI 0).bind fun o=>match o with
    | .inl r =>
     some r
    | .inr _u =>
     some 0))
def nU (n:Int):Option (Int) :=
 some (gD n (cA .i64 n))
def ik (l:List Point) (stt:Int×Int):Option (Lp (Int×Int) (Int)):=match stt with
 | (n,i) =>
  (bif (ltB i (bf l)) then
   (idx l i).bind fun x =>
   (nU x.X).bind fun y1 =>
   (nU x.Y).bind fun y2 =>
   some (.next ((gD (gD n y1) y2),(bu .i64 i 1)))
  else
   some (.out n))
def gP (l:List Point):Option (Int) :=
 (jI l).bind fun y =>
 (bif (fO y) then
  some 0
 else
  (bm (ik l) bI (0,0)).bind fun n =>
  some n)
def gZ (t:Tree) (in_:List Int) (stt:Int×Int):Option (Lp (Int×Int) (Int)):=match stt with
 | (k,i) =>
  (bif (ltB i (bf in_)) then
   (idx t.Nodes k).bind fun x =>
   (idx in_ i).bind fun x1 =>
   (idx x.Next x1).bind fun x2 =>
   some (.next (x2,(bu .i64 i 1)))
  else
   some (.out k))
def lh (t:Tree) (in_:List Int):Option (Int) :=
 (bm (gZ t in_) bI ((bK .i64 (bf t.Nodes) 1),0)).bind fun k =>
 some k
def eX (t:Tree) (cells:List Int) (w r_ x y:Int) (stt:Int×(List Int)):Option (Lp (Int×(List Int)) ((List Int))):=match stt with
 | (k,in_) =>
  (bif (ltB k (bf t.Hood)) then
   (idx t.Hood k).bind fun x1 =>
   (idx cells (bu .i64 (bu .i64 (bu .i64 (bU .i64 (bu .i64 (bu .i64 y r_) x1.Y) w) x) r_) x1.X)).bind fun x2 =>
   (gf 8 in_ [x2]).bind fun _l =>
   some (.next ((bu .i64 k 1),(in_++[x2])))
  else
   some (.out in_))
def lg (t:Tree) (cells:List Int) (w r_ x y:Int):Option (Int) :=
 (bm (eX t cells w r_ x y) bI (0,[])).bind fun in_ =>
 (lh t in_).bind fun y1 =>
 some y1
def fV (t:Tree) (gv:Grid) (y1:Int) (stt:Int×(List Int)):Option (Lp (Int×(List Int)) ((List Int))):=match stt with
 | (i,l) =>
  (bif (ltB i (bU .i64 (bK .i64 gv.W (bU .i64 2 y1)) (bK .i64 gv.H (bU .i64 2 y1)))) then
   (irem i (bK .i64 gv.W (bU .i64 2 y1))).bind fun n =>
   (iquo .i64 i (bK .i64 gv.W (bU .i64 2 y1))).bind fun n1 =>
   (lg t gv.Cells gv.W y1 n n1).bind fun y2 =>
   (gf 8 l [y2]).bind fun _l1 =>
   some (.next ((bu .i64 i 1),(l++[y2])))
  else
   some (.out l))
def l8 (t:Tree) (gv:Grid):Option (Grid×Int) :=
 (l9 t gv).bind fun y =>
 (bif (neB y 0) then
  some ((⟨0,0,0,[]⟩:Grid),y)
 else
  (gP t.Hood).bind fun y1 =>
  ((bif (leB gv.W (bU .i64 2 y1)) then
   some true
  else
   some (leB gv.H (bU .i64 2 y1)))).bind fun a =>
  (bif a then
   some ((⟨0,0,0,[]⟩:Grid),6)
  else
   (bm (fV t gv y1) bI (0,[])).bind fun l =>
   some ((⟨(bK .i64 gv.W (bU .i64 2 y1)),(bK .i64 gv.H (bU .i64 2 y1)),0,l⟩:Grid),0)))
def fM (t:Tree) (gv:Grid):Option (Bool) :=
 ((kV t (⟨0,0,0,0,0,[]⟩:Bh)).bind fun y =>
 (bif (fO y) then
  some true
 else
  some (gtB (bf gv.Cells) 600))).bind fun a =>
 (bif a then
  (lq).bind fun y =>
  some y
 else
  (f0 t gv).bind fun y =>
  (l8 t gv).bind fun y1 =>
  ((jB y.1 y1.1).bind fun y2 =>
  (bif y2 then
   (bif (eqB y.2 y1.2) then
    (lq).bind fun y3 =>
    some y3
   else
    some false)
  else
   some false)).bind fun a1 =>
  some a1)
abbrev vI (n:Int):V:=.u (.one (.d (.int .i64 n)))
abbrev dI (n:Int):C:=.d (.int .i64 n)
abbrev vX (k:Nat):V:=.u (.one (.box k 0))
abbrev vO (k:Nat):V:=.u (.one (.own k))
abbrev dL (l:List Int):C:=.d (.sl 1 (List.map (rI .i64) l))
abbrev vT (b:Bool):V:=.u (.one (.d (.bool b)))
abbrev dR0 (l:List Grid):C:=.d (.sl 4 (List.map Grid.row l))
abbrev dR1 (l:List Node):C:=.d (.sl 2 (List.map Node.row l))
abbrev dR2 (l:List Point):C:=.d (.sl 2 (List.map Point.row l))
abbrev dR4 (l:List Bj):C:=.d (.sl 2 (List.map Bj.row l))
end Go.Proofs.YtbgliammfkgfoaaGreatDoor
