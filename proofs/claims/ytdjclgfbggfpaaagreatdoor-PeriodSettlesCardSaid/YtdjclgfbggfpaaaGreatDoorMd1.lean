/-
  The functions, as functions of lists and numbers (made by cc.py).
-/
import Derived.Test.YtdjclgfbggfpaaaGreatDoorCf
import Derived.Test.YtdjclgfbggfpaaaGreatDoorMxL1
namespace Go.Proofs.YtdjclgfbggfpaaaGreatDoor
open Go.AM Go.Proofs
def ii : Option (Tree × Int) := some (gt, 0)
def cQ (x : Int) : Option (Bool) :=
 some (neB x x)
def bK (x : Int) (y : Int) : Option (Int) :=
 (cQ x).bind fun y1 =>
 (cQ y).bind fun y2 =>
 (bif y1 then
  (bif y2 then
   some 0
  else
   some (-1))
 else
  (bif y2 then
   some 1
  else
   (bif (ltB x y) then
    some (-1)
   else
    (bif (gtB x y) then
     some 1
    else
     some 0))))
def d8 (vals : List Int) (stt : Int) : Option (Lp (Int) (Int ⊕ Unit)) := match stt with
 | a =>
  (bif (ltB a (ak vals)) then
   (idx vals a).bind fun x =>
   (bif (neB x 0) then
    some (.out (.inl x))
   else
    some (.next (aQ .i64 a 1)))
  else
   some (.out (.inr ())))
def eA (vals : List Int) : Option (Int) :=
 (ar (d8 vals) aG 0).bind fun o => match o with
  | .inl r =>
   some r
  | .inr _u =>
   some 0
def bR (a : Point) (b : Point) : Option (Int) :=
 (bK a.Y b.Y).bind fun y =>
 (bK a.X b.X).bind fun y1 =>
 (eA [y, y1]).bind fun y2 =>
 some y2
def dZ (l : List Point) (stt : Int) : Option (Lp (Int) (Bool ⊕ Unit)) := match stt with
 | a1 =>
  (bif (ltB a1 (ak l)) then
   (idx l a1).bind fun x =>
   ((bif (ltB x.X (-2)) then
    some true
   else
    (bif (gtB x.X 2) then
     some true
    else
     (bif (ltB x.Y (-2)) then
      some true
     else
      (bif (gtB x.Y 2) then
       some true
      else
       (bif (gtB a1 0) then
        (idx l (aM .i64 a1 1)).bind fun x1 =>
        (bR x1 x).bind fun y =>
        some (geB y 0)
       else
        some false)))))).bind fun a2 =>
   (bif a2 then
    some (.out (.inl false))
   else
    some (.next (aQ .i64 a1 1)))
  else
   some (.out (.inr ())))
def eq (l : List Point) : Option (Bool) :=
 ((bif (ltB (ak l) 1) then
  some true
 else
  some (gtB (ak l) 25))).bind fun a =>
 (bif a then
  some false
 else
  (ar (dZ l) aG 0).bind fun o => match o with
   | .inl r =>
    some r
   | .inr _u =>
    some true)
def di (t : Tree) (a1 : Int) (x : Node) (stt : Int) : Option (Lp (Int) (Bool ⊕ Unit)) := match stt with
 | a3 =>
  (bif (ltB a3 (ak x.Next)) then
   (idx x.Next a3).bind fun x1 =>
   ((bif (ltB x1 0) then
    some true
   else
    (bif (eqB x.Level 1) then
     (bif (geB x1 t.States) then
      some true
     else
      (bif (gtB x.Level 1) then
       (bif (geB x1 a1) then
        some true
       else
        (idx t.Nodes x1).bind fun x2 =>
        some (neB x2.Level (aM .i64 x.Level 1)))
      else
       some false))
    else
     (bif (gtB x.Level 1) then
      (bif (geB x1 a1) then
       some true
      else
       (idx t.Nodes x1).bind fun x2 =>
       some (neB x2.Level (aM .i64 x.Level 1)))
     else
      some false)))).bind fun a4 =>
   (bif a4 then
    some (.out (.inl false))
   else
    some (.next (aQ .i64 a3 1)))
  else
   some (.out (.inr ())))
def d7 (t : Tree) (stt : Int) : Option (Lp (Int) (Bool ⊕ Unit)) := match stt with
 | a1 =>
  (bif (ltB a1 (ak t.Nodes)) then
   (idx t.Nodes a1).bind fun x =>
   ((bif (ltB x.Level 1) then
    some true
   else
    (bif (gtB x.Level (ak t.Hood)) then
     some true
    else
     some (neB (ak x.Next) t.States)))).bind fun a2 =>
   (bif a2 then
    some (.out (.inl false))
   else
    (ar (di t a1 x) aG 0).bind fun o => match o with
     | .inl r =>
      some (.out (.inl r))
     | .inr _u =>
      some (.next (aQ .i64 a1 1)))
  else
   some (.out (.inr ())))
def eo (t : Tree) : Option (Bool) :=
 ((bif (ltB t.States 2) then
  some true
 else
  (bif (gtB t.States 8) then
   some true
  else
   (eq t.Hood).bind fun y =>
   (bif (aR y) then
    some true
   else
    (bif (ltB (ak t.Nodes) 1) then
     some true
    else
     (bif (gtB (ak t.Nodes) 4096) then
      some true
     else
      (idx t.Nodes (aM .i64 (ak t.Nodes) 1)).bind fun x =>
      some (neB x.Level (ak t.Hood)))))))).bind fun a =>
 (bif a then
  some false
 else
  (ar (d7 t) aG 0).bind fun o => match o with
   | .inl r =>
    some r
   | .inr _u =>
    some true)
def db (t : Tree) (in_ : List Int) (stt : Int × Int) : Option (Lp (Int × Int) (Int)) := match stt with
 | (k, a) =>
  (bif (ltB a (ak in_)) then
   (idx in_ a).bind fun x =>
   (idx t.Nodes k).bind fun x1 =>
   (idx x1.Next x).bind fun x2 =>
   some (.next (x2, (aQ .i64 a 1)))
  else
   some (.out k))
def eG (t : Tree) (in_ : List Int) : Option (Int) :=
 (ar (db t in_) aG ((aM .i64 (ak t.Nodes) 1), 0)).bind fun k =>
 some k
def eC (t : Tree) : Option (Bool) :=
 ((eo t).bind fun y =>
 (bif y then
  (mkL 8 (ak t.Hood) (ak t.Hood) 0).bind fun _l =>
  (eG t (List.replicate (ak t.Hood).toNat 0)).bind fun y1 =>
  some (eqB y1 0)
 else
  some false)).bind fun a =>
 some a
def b7 (c : Cell) : Option (Point) :=
 some (⟨c.X, c.Y⟩ : Point)
def bJ (p : Point) : Option (Bool) :=
 ((bif (leB (fY p.X p.Y) 1048576) then
  some (geB (imin p.X p.Y) (-1048576))
 else
  some false)).bind fun a =>
 some a
def bQ (a : Cell) (b : Cell) : Option (Int) :=
 (b7 a).bind fun y =>
 (b7 b).bind fun y1 =>
 (bR y y1).bind fun y2 =>
 some y2
def cV (p : List Cell) (stt : Int) : Option (Lp (Int) (Bool ⊕ Unit)) := match stt with
 | a =>
  (bif (ltB a (ak p)) then
   (idx p a).bind fun x =>
   ((b7 x).bind fun y =>
   (bJ y).bind fun y1 =>
   (bif (aR y1) then
    some true
   else
    (bif (ltB x.S 1) then
     some true
    else
     (bif (geB x.S 8) then
      some true
     else
      (bif (gtB a 0) then
       (idx p (aM .i64 a 1)).bind fun x1 =>
       (bQ x1 x).bind fun y2 =>
       some (geB y2 0)
      else
       some false))))).bind fun a1 =>
   (bif a1 then
    some (.out (.inl false))
   else
    some (.next (aQ .i64 a 1)))
  else
   some (.out (.inr ())))
def ct (p : List Cell) : Option (Bool) :=
 (bif (gtB (ak p) 5000) then
  some false
 else
  (ar (cV p) aG 0).bind fun o => match o with
   | .inl r =>
    some r
   | .inr _u =>
    some true)
def cR (p : List Cell) (stt : Int × Int) : Option (Lp (Int × Int) (Int)) := match stt with
 | (n, a) =>
  (bif (ltB a (ak p)) then
   (idx p a).bind fun x =>
   some (.next ((fY n x.S), (aQ .i64 a 1)))
  else
   some (.out n))
def dN (p : List Cell) : Option (Int) :=
 (ar (cR p) aG (0, 0)).bind fun n =>
 some n
def cK (t : Tree) (p : List Cell) : Option (Int) :=
 (eC t).bind fun y =>
 (bif (aR y) then
  some 11
 else
  (ct p).bind fun y1 =>
  (bif (aR y1) then
   some 2
  else
   (dN p).bind fun y2 =>
   (bif (geB y2 t.States) then
    some 10
   else
    some 0)))
def dK (p : List Cell) (stt : Int × (List (Point × Int))) : Option (Lp (Int × (List (Point × Int))) ((List (Point × Int)))) := match stt with
 | (a, m) =>
  (bif (ltB a (ak p)) then
   (idx p a).bind fun x =>
   (kckL [x.X, x.Y]).bind fun _u =>
   some (.next ((aQ .i64 a 1), (i7 m (⟨x.X, x.Y⟩ : Point) x.S)))
  else
   some (.out m))
def fS (p : List Cell) : Option (List (Point × Int)) :=
 (ar (dK p) aG (0, [])).bind fun m =>
 some m
def bm (m : List (Point × Int)) (t : Tree) (p : Point) (stt : Int × Int) : Option (Lp (Int × Int) (Int)) := match stt with
 | (k, a) =>
  (bif (ltB a (ak t.Hood)) then
   (idx t.Hood a).bind fun x =>
   (idx t.Nodes k).bind fun x1 =>
   (kckL [(aQ .i64 p.X x.X), (aQ .i64 p.Y x.Y)]).bind fun _u =>
   (idx x1.Next (ff m (⟨(aQ .i64 p.X x.X), (aQ .i64 p.Y x.Y)⟩ : Point) 0)).bind fun x2 =>
   some (.next (x2, (aQ .i64 a 1)))
  else
   some (.out k))
def bT (m : List (Point × Int)) (t : Tree) (p : Point) : Option (Int) :=
 (ar (bm m t p) aG ((aM .i64 (ak t.Nodes) 1), 0)).bind fun k =>
 some k
def ec (p : Point) : Option (Bool) :=
 ((bif (leB (fY p.X p.Y) 1048576) then
  some (geB (imin p.X p.Y) (-1048576))
 else
  some false)).bind fun a =>
 some a
def aL (l : List Cell) : Option (List Cell) := sortM aC l
def bW (l : List Cell) (stt : Int × (List Cell)) : Option (Lp (Int × (List Cell)) (((List Cell) × Int) ⊕ (List Cell))) := match stt with
 | (a, out) =>
  (bif (ltB a (ak l)) then
   (idx l a).bind fun x =>
   (b7 x).bind fun y =>
   (bJ y).bind fun y1 =>
   (bif (aR y1) then
    some (.out (.inl ([], 5)))
   else
    ((bif (ltB x.S 0) then
     some true
    else
     some (geB x.S 8))).bind fun a1 =>
    (bif a1 then
     some (.out (.inl ([], 10)))
    else
     (bif (gtB x.S 0) then
      (ga 24 out [x]).bind fun _l1 =>
      some (.next ((aQ .i64 a 1), (out ++ [x])))
     else
      some (.next ((aQ .i64 a 1), out)))))
  else
   some (.out (.inr out)))
def bX (_out : List Cell) (y : List Cell) (stt : Int) : Option (Lp (Int) (((List Cell) × Int) ⊕ Unit)) := match stt with
 | i =>
  (bif (ltB i (ak y)) then
   (idx y (aM .i64 i 1)).bind fun x =>
   (b7 x).bind fun y1 =>
   (idx y i).bind fun x1 =>
   (b7 x1).bind fun y2 =>
   (bif (bu (eqB y1.X y2.X) (bu (eqB y1.Y y2.Y) true)) then
    some (.out (.inl ([], 8)))
   else
    some (.next (aQ .i64 i 1)))
  else
   some (.out (.inr ())))
def dh (l : List Cell) : Option ((List Cell) × Int) :=
 (ar (bW l) aG (0, [])).bind fun o => match o with
  | .inl r =>
   some r
  | .inr out =>
   (aL out).bind fun y =>
   (ar (bX out y) aG 1).bind fun o => match o with
    | .inl r =>
     some r
    | .inr _u =>
     (bif (gtB (ak y) 5000) then
      some ([], 6)
     else
      some (y, 0))
def be (t : Tree) (_p : List Cell) (y : List (Point × Int)) (_a : Int) (x : Cell) (stt : Int × (List (Point × Bool)) × (List Cell)) : Option (Lp (Int × (List (Point × Bool)) × (List Cell)) (((List Cell) × Int) ⊕ ((List (Point × Bool)) × (List Cell)))) := match stt with
 | (a1, done1, l1) =>
  (bif (ltB a1 (ak t.Hood)) then
   (idx t.Hood a1).bind fun x1 =>
   (kckL [(aM .i64 x.X x1.X), (aM .i64 x.Y x1.Y)]).bind fun _u =>
   (bif (ff done1 (⟨(aM .i64 x.X x1.X), (aM .i64 x.Y x1.Y)⟩ : Point) false) then
    some (.next ((aQ .i64 a1 1), done1, l1))
   else
    (bT y t (⟨(aM .i64 x.X x1.X), (aM .i64 x.Y x1.Y)⟩ : Point)).bind fun y1 =>
    (bif (gtB y1 0) then
     (ec (⟨(aM .i64 x.X x1.X), (aM .i64 x.Y x1.Y)⟩ : Point)).bind fun y2 =>
     (bif (aR y2) then
      some (.out (.inl ([], 5)))
     else
      (ga 24 l1 [(⟨(aM .i64 x.X x1.X), (aM .i64 x.Y x1.Y), y1⟩ : Cell)]).bind fun _l2 =>
      some (.next ((aQ .i64 a1 1), (i7 done1 (⟨(aM .i64 x.X x1.X), (aM .i64 x.Y x1.Y)⟩ : Point) true), (l1 ++ [(⟨(aM .i64 x.X x1.X), (aM .i64 x.Y x1.Y), y1⟩ : Cell)]))))
    else
     some (.next ((aQ .i64 a1 1), (i7 done1 (⟨(aM .i64 x.X x1.X), (aM .i64 x.Y x1.Y)⟩ : Point) true), l1))))
  else
   some (.out (.inr (done1, l1))))
def bA (t : Tree) (p : List Cell) (y : List (Point × Int)) (stt : Int × (List (Point × Bool)) × (List Cell)) : Option (Lp (Int × (List (Point × Bool)) × (List Cell)) (((List Cell) × Int) ⊕ (List Cell))) := match stt with
 | (a, done, l) =>
  (bif (ltB a (ak p)) then
   (idx p a).bind fun x =>
   (ar (be t p y a x) aG (0, done, l)).bind fun o => match o with
    | .inl r =>
     some (.out (.inl r))
    | .inr (done1, l1) =>
     some (.next ((aQ .i64 a 1), done1, l1))
  else
   some (.out (.inr l)))
def cb (t : Tree) (p : List Cell) : Option ((List Cell) × Int) :=
 (fS p).bind fun y =>
 (ar (bA t p y) aG (0, [], [])).bind fun o => match o with
  | .inl r =>
   some r
  | .inr l =>
   (dh l).bind fun y1 =>
   some (y1.1, y1.2)
def ch (t : Tree) (n : Int) (stt : (List Cell) × Int) : Option (Lp ((List Cell) × Int) (((List Cell) × Int) ⊕ (List Cell))) := match stt with
 | (p1, a1) =>
  (bif (ltB a1 n) then
   (cb t p1).bind fun y1 =>
   (bif (neB y1.2 0) then
    some (.out (.inl ([], y1.2)))
   else
    some (.next (y1.1, (aQ .i64 a1 1))))
  else
   some (.out (.inr p1)))
def br (t : Tree) (p : List Cell) (n : Int) : Option ((List Cell) × Int) :=
 (cK t p).bind fun y =>
 (bif (neB y 0) then
  some ([], y)
 else
  ((bif (ltB n 0) then
   some true
  else
   some (gtB n 10000))).bind fun a =>
  (bif a then
   some ([], 2)
  else
   (ar (ch t n) aG (p, 0)).bind fun o => match o with
    | .inl r =>
     some r
    | .inr p1 =>
     some (p1, 0)))
def bC (n : Int) : Option (Bool) :=
 ((bif (geB n 1) then
  some (leB n 64)
 else
  some false)).bind fun a =>
 some a
def bf (t : Tree) (p : List Cell) : Option ((List Cell) × Int) :=
 (cK t p).bind fun y =>
 (bif (neB y 0) then
  some ([], y)
 else
  (cb t p).bind fun y1 =>
  some (y1.1, y1.2))
def bY (a : List Cell) (b : List Cell) (x : Cell) (x1 : Cell) (stt : Int) : Option (Lp (Int) ((Int × Int × Bool) ⊕ Unit)) := match stt with
 | a2 =>
  (bif (ltB a2 (ak a)) then
   (idx b a2).bind fun x2 =>
   (idx a a2).bind fun x3 =>
   (bif (aR (bu (eqB x2.X (aQ .i64 x3.X (aM .i64 x.X x1.X))) (bu (eqB x2.Y (aQ .i64 x3.Y (aM .i64 x.Y x1.Y))) (bu (eqB x2.S x3.S) true)))) then
    some (.out (.inl (0, 0, false)))
   else
    some (.next (aQ .i64 a2 1)))
  else
   some (.out (.inr ())))
def df (a : List Cell) (b : List Cell) : Option (Int × Int × Bool) :=
 ((bif (neB (ak a) (ak b)) then
  some true
 else
  some (eqB (ak a) 0))).bind fun a1 =>
 (bif a1 then
  some (0, 0, false)
 else
  (idx b 0).bind fun x =>
  (idx a 0).bind fun x1 =>
  (ar (bY a b x x1) aG 0).bind fun o => match o with
   | .inl r =>
    some r
   | .inr _u =>
    some ((aM .i64 x.X x1.X), (aM .i64 x.Y x1.Y), true))
def cy (t : Tree) (p : List Cell) (most : Int) (stt : (List Cell) × Int) : Option (Lp ((List Cell) × Int) ((Motion × Bool × Int) ⊕ Unit)) := match stt with
 | (q, g) =>
  ((bif (leB g most) then
   some (gtB (ak q) 0)
  else
   some false)).bind fun a =>
  (bif a then
   (bf t q).bind fun y2 =>
   (bif (neB y2.2 0) then
    some (.out (.inl ((⟨0, 0, 0⟩ : Motion), false, y2.2)))
   else
    (df p y2.1).bind fun y3 =>
    (bif y3.2.2 then
     some (.out (.inl ((⟨g, y3.1, y3.2.1⟩ : Motion), true, 0)))
    else
     some (.next (y2.1, (aQ .i64 g 1)))))
  else
   some (.out (.inr ())))
def b9 (t : Tree) (p : List Cell) (most : Int) : Option (Motion × Bool × Int) :=
 (br t p 0).bind fun y =>
 (bif (neB y.2 0) then
  some ((⟨0, 0, 0⟩ : Motion), false, y.2)
 else
  (bC most).bind fun y1 =>
  (bif (aR y1) then
   some ((⟨0, 0, 0⟩ : Motion), false, 2)
  else
   (ar (cy t p most) aG (p, 1)).bind fun o => match o with
    | .inl r =>
     some r
    | .inr _u =>
     some ((⟨0, 0, 0⟩ : Motion), false, 0)))
def bc (t : Tree) (p : List Cell) (m : Motion) : Option (Bool × Int) :=
 (b9 t p m.Period).bind fun y =>
 ((bif y.2.1 then
  some (bu (eqB y.1.Period m.Period) (bu (eqB y.1.DX m.DX) (bu (eqB y.1.DY m.DY) true)))
 else
  some false)).bind fun a =>
 some (a, y.2.2)
def bF (t : Tree) (gens : Int) (most : Int) (stt : (List Cell) × Int) : Option (Lp ((List Cell) × Int) ((Int × Motion × Int) ⊕ Unit)) := match stt with
 | (p1, g) =>
  (bif (leB g gens) then
   (bif (eqB (ak p1) 0) then
    some (.out (.inl (g, (⟨0, 0, 0⟩ : Motion), 0)))
   else
    (b9 t p1 most).bind fun y1 =>
    (bif (neB y1.2.2 0) then
     some (.out (.inl (0, (⟨0, 0, 0⟩ : Motion), y1.2.2)))
    else
     (bif y1.2.1 then
      some (.out (.inl (g, y1.1, 0)))
     else
      (bif (ltB g gens) then
       (bf t p1).bind fun y2 =>
       (bif (neB y2.2 0) then
        some (.out (.inl (0, (⟨0, 0, 0⟩ : Motion), y2.2)))
       else
        some (.next (y2.1, (aQ .i64 g 1))))
      else
       some (.next (p1, (aQ .i64 g 1)))))))
  else
   some (.out (.inr ())))
def bq (t : Tree) (p : List Cell) (gens : Int) (most : Int) : Option (Int × Motion × Int) :=
 (br t p 0).bind fun y =>
 (bif (neB y.2 0) then
  some (0, (⟨0, 0, 0⟩ : Motion), y.2)
 else
  ((bif (ltB gens 0) then
   some true
  else
   (bif (gtB gens 10000) then
    some true
   else
    (bC most).bind fun y1 =>
    some (aR y1)))).bind fun a =>
  (bif a then
   some (0, (⟨0, 0, 0⟩ : Motion), 2)
  else
   (ar (bF t gens most) aG (p, 0)).bind fun o => match o with
    | .inl r =>
     some r
    | .inr _u =>
     some (0, (⟨0, 0, 0⟩ : Motion), 14)))
def cF (m : Motion) (n : Int) : Option (Motion × Int) :=
 ((bC m.Period).bind fun y =>
 (bif (aR y) then
  some true
 else
  (bif (gtB (fY m.DX m.DY) 1048576) then
   some true
  else
   (bif (ltB (imin m.DX m.DY) (-1048576)) then
    some true
   else
    (bif (ltB n 1) then
     some true
    else
     some (gtB n 10000)))))).bind fun a =>
 (bif a then
  some ((⟨0, 0, 0⟩ : Motion), 2)
 else
  ((bif (gtB (eY .i64 m.Period n) 10000) then
   some true
  else
   (bif (gtB (fY (eY .i64 m.DX n) (eY .i64 m.DY n)) 1048576) then
    some true
   else
    some (ltB (imin (eY .i64 m.DX n) (eY .i64 m.DY n)) (-1048576))))).bind fun a1 =>
  (bif a1 then
   some ((⟨0, 0, 0⟩ : Motion), 5)
  else
   some ((⟨(eY .i64 m.Period n), (eY .i64 m.DX n), (eY .i64 m.DY n)⟩ : Motion), 0)))
def eJ (m : Motion) : Option (Int) :=
 (bC m.Period).bind fun y =>
 (bif (aR y) then
  some 0
 else
  ((bif (neB m.DX 0) then
   some true
  else
   some (neB m.DY 0))).bind fun a =>
  (bif a then
   some 3
  else
   (bif (gtB m.Period 1) then
    some 2
   else
    some 1)))
def aI : Option (Bool) :=
 (ii).bind fun y =>
 (b9 y.1 [(⟨1, 0, 1⟩ : Cell), (⟨2, 1, 1⟩ : Cell), (⟨0, 2, 1⟩ : Cell), (⟨1, 2, 1⟩ : Cell), (⟨2, 2, 1⟩ : Cell)] 8).bind fun y1 =>
 (b9 y.1 [(⟨1, 0, 1⟩ : Cell), (⟨2, 1, 1⟩ : Cell), (⟨0, 2, 1⟩ : Cell), (⟨1, 2, 1⟩ : Cell), (⟨2, 2, 1⟩ : Cell)] 3).bind fun y2 =>
 (slc3 [(⟨1, 0, 1⟩ : Cell), (⟨2, 1, 1⟩ : Cell), (⟨0, 2, 1⟩ : Cell), (⟨1, 2, 1⟩ : Cell), (⟨2, 2, 1⟩ : Cell)] 0 0).bind fun l =>
 (bc y.1 l y1.1).bind fun y3 =>
 (bq y.1 [(⟨0, 0, 1⟩ : Cell), (⟨1, 0, 1⟩ : Cell), (⟨0, 1, 1⟩ : Cell)] 5 2).bind fun y4 =>
 (bq y.1 [(⟨0, 0, 1⟩ : Cell)] 5 2).bind fun y5 =>
 (cF y1.1 3).bind fun y6 =>
 ((bif (neB y.2 0) then
  some true
 else
  (bif (neB y1.2.2 0) then
   some true
  else
   (bif (neB y2.2.2 0) then
    some true
   else
    (bif (neB y3.2 0) then
     some true
    else
     (bif (neB y4.2.2 0) then
      some true
     else
      (bif (neB y5.2.2 0) then
       some true
      else
       (bif (neB y6.2 0) then
        some true
       else
        (bif (aR y1.2.1) then
         some true
        else
         (bif y2.2.1 then
          some true
         else
          some y3.1)))))))))).bind fun a =>
 (bif a then
  some false
 else
  ((bif (bu (eqB y1.1.Period 4) (bu (eqB y1.1.DX 1) (bu (eqB y1.1.DY 1) true))) then
   (bif (eqB y4.1 1) then
    (bif (bu (eqB y4.2.1.Period 1) (bu (eqB y4.2.1.DX 0) (bu (eqB y4.2.1.DY 0) true))) then
     (bif (eqB y5.1 1) then
      (bif (bu (eqB y5.2.1.Period 0) (bu (eqB y5.2.1.DX 0) (bu (eqB y5.2.1.DY 0) true))) then
       (bif (bu (eqB y6.1.Period 12) (bu (eqB y6.1.DX 3) (bu (eqB y6.1.DY 3) true))) then
        (eJ y1.1).bind fun y7 =>
        (bif (eqB y7 3) then
         (eJ y4.2.1).bind fun y8 =>
         some (eqB y8 1)
        else
         some false)
       else
        some false)
      else
       some false)
     else
      some false)
    else
     some false)
   else
    some false)
  else
   some false)).bind fun a1 =>
  some a1)
def fU (t : Tree) (stt : Int) : Option (Lp (Int) (Bool ⊕ Unit)) := match stt with
 | a1 =>
  (bif (ltB a1 (ak t.Nodes)) then
   (idx t.Nodes a1).bind fun x =>
   (bif (gtB (ak x.Next) 20) then
    some (.out (.inl false))
   else
    some (.next (aQ .i64 a1 1)))
  else
   some (.out (.inr ())))
def ic (t : Tree) : Option (Bool) :=
 ((bif (gtB (ak t.Hood) 40) then
  some true
 else
  some (gtB (ak t.Nodes) 400))).bind fun a =>
 (bif a then
  some false
 else
  (ar (fU t) aG 0).bind fun o => match o with
   | .inl r =>
    some r
   | .inr _u =>
    some true)
def cg (t : Tree) (p : List Cell) : Option (Bool) :=
 ((ic t).bind fun y =>
 (bif y then
  (bif (leB (ak t.Nodes) 100) then
   some (leB (ak p) 60)
  else
   some false)
 else
  some false)).bind fun a =>
 some a
def bO (a : Int) (b : Int) : Option (Int) :=
 (bif (ltB a b) then
  some (-1)
 else
  (bif (gtB a b) then
   some 1
  else
   some 0))
def cv (a : List Cell) (b : List Cell) (stt : Int) : Option (Lp (Int) (Int ⊕ Unit)) := match stt with
 | i =>
  ((bif (ltB i (ak a)) then
   some (ltB i (ak b))
  else
   some false)).bind fun a1 =>
  (bif a1 then
   (idx a i).bind fun x =>
   (idx b i).bind fun x1 =>
   (bif (neB x.Y x1.Y) then
    (bO x.Y x1.Y).bind fun y =>
    some (.out (.inl y))
   else
    (bif (neB x.X x1.X) then
     (bO x.X x1.X).bind fun y =>
     some (.out (.inl y))
    else
     (bif (neB x.S x1.S) then
      (bO x.S x1.S).bind fun y =>
      some (.out (.inl y))
     else
      some (.next (aQ .i64 i 1)))))
  else
   some (.out (.inr ())))
def dR (a : List Cell) (b : List Cell) : Option (Int) :=
 (ar (cv a b) aG 0).bind fun o => match o with
  | .inl r =>
   some r
  | .inr _u =>
   (bO (ak a) (ak b)).bind fun y =>
   some y
def eb (a : List Cell) (b : List Cell) : Option (Bool) :=
 (dR a b).bind fun y =>
 some (eqB y 0)
def er (a : Point) (b : Point) : Option (Bool) :=
 ((bif (ltB a.Y b.Y) then
  some true
 else
  (bif (eqB a.Y b.Y) then
   some (ltB a.X b.X)
  else
   some false))).bind fun a1 =>
 some a1
def eO (l : List Point) (stt : Int) : Option (Lp (Int) (Bool ⊕ Unit)) := match stt with
 | i =>
  (bif (ltB i (ak l)) then
   (idx l i).bind fun x =>
   ((bif (ltB x.X (-2)) then
    some true
   else
    (bif (gtB x.X 2) then
     some true
    else
     (bif (ltB x.Y (-2)) then
      some true
     else
      (bif (gtB x.Y 2) then
       some true
      else
       (bif (gtB i 0) then
        (idx l (aM .i64 i 1)).bind fun x1 =>
        (er x1 x).bind fun y =>
        some (aR y)
       else
        some false)))))).bind fun a1 =>
   (bif a1 then
    some (.out (.inl false))
   else
    some (.next (aQ .i64 i 1)))
  else
   some (.out (.inr ())))
def fq (l : List Point) : Option (Bool) :=
 ((bif (ltB (ak l) 1) then
  some true
 else
  some (gtB (ak l) 25))).bind fun a =>
 (bif a then
  some false
 else
  (ar (eO l) aG 0).bind fun o => match o with
   | .inl r =>
    some r
   | .inr _u =>
    some true)
def dL (t : Tree) (i : Int) (x : Node) (stt : Int) : Option (Lp (Int) (Bool ⊕ Unit)) := match stt with
 | s =>
  (bif (ltB s t.States) then
   (idx x.Next s).bind fun x1 =>
   (bif (ltB x1 0) then
    some (.out (.inl false))
   else
    ((bif (eqB x.Level 1) then
     some (geB x1 t.States)
    else
     some false)).bind fun a2 =>
    (bif a2 then
     some (.out (.inl false))
    else
     ((bif (gtB x.Level 1) then
      (bif (geB x1 i) then
       some true
      else
       (idx t.Nodes x1).bind fun x2 =>
       some (neB x2.Level (aM .i64 x.Level 1)))
     else
      some false)).bind fun a3 =>
     (bif a3 then
      some (.out (.inl false))
     else
      some (.next (aQ .i64 s 1)))))
  else
   some (.out (.inr ())))
def dS (t : Tree) (stt : Int) : Option (Lp (Int) (Bool ⊕ Unit)) := match stt with
 | i =>
  (bif (ltB i (ak t.Nodes)) then
   (idx t.Nodes i).bind fun x =>
   ((bif (ltB x.Level 1) then
    some true
   else
    (bif (gtB x.Level (ak t.Hood)) then
     some true
    else
     some (neB (ak x.Next) t.States)))).bind fun a1 =>
   (bif a1 then
    some (.out (.inl false))
   else
    (ar (dL t i x) aG 0).bind fun o => match o with
     | .inl r =>
      some (.out (.inl r))
     | .inr _u =>
      some (.next (aQ .i64 i 1)))
  else
   some (.out (.inr ())))
def dY (t : Tree) : Option (Bool) :=
 ((bif (ltB t.States 2) then
  some true
 else
  (bif (gtB t.States 8) then
   some true
  else
   (fq t.Hood).bind fun y =>
   (bif (aR y) then
    some true
   else
    (bif (ltB (ak t.Nodes) 1) then
     some true
    else
     some (gtB (ak t.Nodes) 4096)))))).bind fun a =>
 (bif a then
  some false
 else
  (ar (dS t) aG 0).bind fun o => match o with
   | .inl r =>
    some r
   | .inr _u =>
    (idx t.Nodes (aM .i64 (ak t.Nodes) 1)).bind fun x =>
    some (eqB x.Level (ak t.Hood)))
def dQ (t : Tree) (in_ : List Int) (stt : Int × Int) : Option (Lp (Int × Int) (Int)) := match stt with
 | (k, i) =>
  (bif (ltB i (ak in_)) then
   (idx t.Nodes k).bind fun x =>
   (idx in_ i).bind fun x1 =>
   (idx x.Next x1).bind fun x2 =>
   some (.next (x2, (aQ .i64 i 1)))
  else
   some (.out k))
def ef (t : Tree) (in_ : List Int) : Option (Int) :=
 (ar (dQ t in_) aG ((aM .i64 (ak t.Nodes) 1), 0)).bind fun k =>
 some k
def fy (t : Tree) (in_ : List Int) (stt : Int) : Option (Lp (Int) ((Int × Int) ⊕ Unit)) := match stt with
 | i =>
  (bif (ltB i (ak in_)) then
   ((idx in_ i).bind fun x =>
   (bif (ltB x 0) then
    some true
   else
    some (geB x t.States))).bind fun a =>
   (bif a then
    some (.out (.inl (0, 10)))
   else
    some (.next (aQ .i64 i 1)))
  else
   some (.out (.inr ())))
def gA (t : Tree) (in_ : List Int) : Option (Int × Int) :=
 (dY t).bind fun y =>
 (bif (aR y) then
  some (0, 11)
 else
  (bif (neB (ak in_) (ak t.Hood)) then
   some (0, 2)
  else
   (ar (fy t in_) aG 0).bind fun o => match o with
    | .inl r =>
     some r
    | .inr _u =>
     (ef t in_).bind fun y1 =>
     some (y1, 0)))
def fh (t : Tree) : Option (Bool) :=
 (dY t).bind fun y =>
 (bif (aR y) then
  some false
 else
  (mkL 8 (ak t.Hood) (ak t.Hood) 0).bind fun _l =>
  (gA t (List.replicate (ak t.Hood).toNat 0)).bind fun y1 =>
  some (eqB y1.1 0))
def ed (x : Int) (y : Int) : Option (Bool) :=
 ((bif (geB x (-1048576)) then
  (bif (leB x 1048576) then
   (bif (geB y (-1048576)) then
    some (leB y 1048576)
   else
    some false)
  else
   some false)
 else
  some false)).bind fun a =>
 some a
def cX (a : Cell) (b : Cell) : Option (Bool) :=
 ((bif (ltB a.Y b.Y) then
  some true
 else
  (bif (eqB a.Y b.Y) then
   some (ltB a.X b.X)
  else
   some false))).bind fun a1 =>
 some a1
def eL (p : List Cell) (stt : Int) : Option (Lp (Int) (Bool ⊕ Unit)) := match stt with
 | i =>
  (bif (ltB i (ak p)) then
   ((idx p i).bind fun x =>
   (ed x.X x.Y).bind fun y =>
   (bif (aR y) then
    some true
   else
    (bif (ltB x.S 1) then
     some true
    else
     (bif (geB x.S 8) then
      some true
     else
      (bif (gtB i 0) then
       (idx p (aM .i64 i 1)).bind fun x1 =>
       (cX x1 x).bind fun y1 =>
       some (aR y1)
      else
       some false))))).bind fun a =>
   (bif a then
    some (.out (.inl false))
   else
    some (.next (aQ .i64 i 1)))
  else
   some (.out (.inr ())))
def dV (p : List Cell) : Option (Bool) :=
 (ar (eL p) aG 0).bind fun o => match o with
  | .inl r =>
   some r
  | .inr _u =>
   some (leB (ak p) 5000)
def fx (t : Tree) (p : List Cell) (stt : Int) : Option (Lp (Int) (Int ⊕ Unit)) := match stt with
 | i =>
  (bif (ltB i (ak p)) then
   (idx p i).bind fun x =>
   (bif (geB x.S t.States) then
    some (.out (.inl 10))
   else
    some (.next (aQ .i64 i 1)))
  else
   some (.out (.inr ())))
def eV (t : Tree) (p : List Cell) : Option (Int) :=
 (fh t).bind fun y =>
 (bif (aR y) then
  some 11
 else
  (dV p).bind fun y1 =>
  (bif (aR y1) then
   some 2
  else
   (ar (fx t p) aG 0).bind fun o => match o with
    | .inl r =>
     some r
    | .inr _u =>
     some 0))
def dX (p : List Cell) (stt : Int × Int × Int × Int × Int) : Option (Lp (Int × Int × Int × Int × Int) ((Int × Int × Int × Int))) := match stt with
 | (x1, y, right, bottom, i) =>
  (bif (ltB i (ak p)) then
   (idx p i).bind fun x2 =>
   some (.next ((imin x1 x2.X), (imin y x2.Y), (fY right x2.X), (fY bottom x2.Y), (aQ .i64 i 1)))
  else
   some (.out (x1, y, right, bottom)))
def gn (p : List Cell) : Option (Box × Bool) :=
 ((bif (eqB (ak p) 0) then
  some true
 else
  (dV p).bind fun y =>
  some (aR y))).bind fun a =>
 (bif a then
  some ((⟨0, 0, 0, 0⟩ : Box), false)
 else
  (idx p 0).bind fun x =>
  (ar (dX p) aG (x.X, x.Y, x.X, x.Y, 0)).bind fun (x1, y, right, bottom) =>
  some ((⟨x1, y, (aQ .i64 (aM .i64 right x1) 1), (aQ .i64 (aM .i64 bottom y) 1)⟩ : Box), true))
def cL (p : List Cell) (y : Box × Bool) (stt : Int × (List Int)) : Option (Lp (Int × (List Int)) ((List Int))) := match stt with
 | (i, l1) =>
  (bif (ltB i (ak p)) then
   (idx p i).bind fun x =>
   (idx l1 (aM .i64 (aQ .i64 (eY .i64 (aM .i64 x.Y y.1.Y) y.1.W) x.X) y.1.X)).bind fun _x1 =>
   some (.next ((aQ .i64 i 1), (l1.set (aM .i64 (aQ .i64 (eY .i64 (aM .i64 x.Y y.1.Y) y.1.W) x.X) y.1.X).toNat x.S)))
  else
   some (.out l1))
def eB (p : List Cell) : Option (cellularref20_field) :=
 (gn p).bind fun y =>
 (bif (aR (leB (eY .i64 y.1.W y.1.H) 40000)) then
  some (⟨(leB (eY .i64 y.1.W y.1.H) 40000), ⟨y.1.X, y.1.Y, y.1.W, y.1.H⟩, [], p⟩ : cellularref20_field)
 else
  (mkL 8 (eY .i64 y.1.W y.1.H) (eY .i64 y.1.W y.1.H) 0).bind fun _l =>
  (ar (cL p y) aG (0, (List.replicate (eY .i64 y.1.W y.1.H).toNat 0))).bind fun l1 =>
  some (⟨(leB (eY .i64 y.1.W y.1.H) 40000), ⟨y.1.X, y.1.Y, y.1.W, y.1.H⟩, l1, p⟩ : cellularref20_field))
def bi (f : cellularref20_field) (n : Int) (q : Point) (stt : Int) : Option (Lp (Int) (Bool ⊕ Unit)) := match stt with
 | i =>
  (bif (ltB i n) then
   (idx f.list i).bind fun x =>
   ((bif (leB (fY (aM .i64 q.X x.X) (ineg .i64 (aM .i64 q.X x.X))) 2) then
    some (leB (fY (aM .i64 q.Y x.Y) (ineg .i64 (aM .i64 q.Y x.Y))) 2)
   else
    some false)).bind fun a =>
   (bif a then
    some (.out (.inl true))
   else
    some (.next (aQ .i64 i 1)))
  else
   some (.out (.inr ())))
def bM (f : cellularref20_field) (n : Int) (q : Point) : Option (Bool) :=
 (ar (bi f n q) aG 0).bind fun o => match o with
  | .inl r =>
   some r
  | .inr _u =>
   some false
def bD (f : cellularref20_field) (y : Int) (_out : List Point) (stt : Int × (List Point)) : Option (Lp (Int × (List Point)) ((List Point))) := match stt with
 | (x, out1) =>
  (bif (ltB x (aQ .i64 (aQ .i64 f.box.X f.box.W) 2)) then
   (ga 16 out1 [(⟨x, y⟩ : Point)]).bind fun _l =>
   some (.next ((aQ .i64 x 1), (out1 ++ [(⟨x, y⟩ : Point)])))
  else
   some (.out out1))
def bE (f : cellularref20_field) (stt : Int × (List Point)) : Option (Lp (Int × (List Point)) ((List Point))) := match stt with
 | (y, out) =>
  (bif (ltB y (aQ .i64 (aQ .i64 f.box.Y f.box.H) 2)) then
   (ar (bD f y out) aG ((aM .i64 f.box.X 2), out)).bind fun out1 =>
   some (.next ((aQ .i64 y 1), out1))
  else
   some (.out out))
def bp (f : cellularref20_field) (i : Int) (_out : List Point) (y : Int) (stt : Int × (List Point)) : Option (Lp (Int × (List Point)) ((List Point))) := match stt with
 | (x, out2) =>
  (bif (leB x 2) then
   ((idx f.list i).bind fun x1 =>
   (bM f i (⟨(aQ .i64 x1.X x), (aQ .i64 x1.Y y)⟩ : Point)).bind fun y1 =>
   (bif (aR y1) then
    (ga 16 out2 [(⟨(aQ .i64 x1.X x), (aQ .i64 x1.Y y)⟩ : Point)]).bind fun _l =>
    some (out2 ++ [(⟨(aQ .i64 x1.X x), (aQ .i64 x1.Y y)⟩ : Point)])
   else
    some out2)).bind fun out3 =>
   some (.next ((aQ .i64 x 1), out3))
  else
   some (.out out2))
def bV (f : cellularref20_field) (i : Int) (out : List Point) (stt : Int × (List Point)) : Option (Lp (Int × (List Point)) ((List Point))) := match stt with
 | (y, out1) =>
  (bif (leB y 2) then
   (ar (bp f i out y) aG ((-2), out1)).bind fun out2 =>
   some (.next ((aQ .i64 y 1), out2))
  else
   some (.out out1))
def bI (f : cellularref20_field) (stt : Int × (List Point)) : Option (Lp (Int × (List Point)) ((List Point))) := match stt with
 | (i, out) =>
  (bif (ltB i (ak f.list)) then
   (ar (bV f i out) aG ((-2), out)).bind fun out1 =>
   some (.next ((aQ .i64 i 1), out1))
  else
   some (.out out))
def cC (f : cellularref20_field) : Option (List Point) :=
 (bif f.flat then
  (ar (bE f) aG ((aM .i64 f.box.Y 2), [])).bind fun out =>
  some out
 else
  (ar (bI f) aG (0, [])).bind fun out =>
  some out)
def ei (p : List Cell) (x : Int) (y : Int) (stt : Int) : Option (Lp (Int) (Int ⊕ Unit)) := match stt with
 | i =>
  (bif (ltB i (ak p)) then
   ((idx p i).bind fun x1 =>
   (bif (eqB x1.X x) then
    some (eqB x1.Y y)
   else
    some false)).bind fun a =>
   (bif a then
    (idx p i).bind fun x1 =>
    some (.out (.inl x1.S))
   else
    some (.next (aQ .i64 i 1)))
  else
   some (.out (.inr ())))
def gq (p : List Cell) (x : Int) (y : Int) : Option (Int) :=
 (ar (ei p x y) aG 0).bind fun o => match o with
  | .inl r =>
   some r
  | .inr _u =>
   some 0
def cG (f : cellularref20_field) (x : Int) (y : Int) : Option (Int) :=
 (bif (aR f.flat) then
  (gq f.list x y).bind fun y1 =>
  some y1
 else
  ((bif (ltB x f.box.X) then
   some true
  else
   (bif (geB x (aQ .i64 f.box.X f.box.W)) then
    some true
   else
    (bif (ltB y f.box.Y) then
     some true
    else
     some (geB y (aQ .i64 f.box.Y f.box.H)))))).bind fun a =>
  (bif a then
   some 0
  else
   (idx f.cells (aM .i64 (aQ .i64 (eY .i64 (aM .i64 y f.box.Y) f.box.W) x) f.box.X)).bind fun x1 =>
   some x1))
def eF (t : Tree) (f : cellularref20_field) (x : Int) (y : Int) (stt : Int × (List Int)) : Option (Lp (Int × (List Int)) ((List Int))) := match stt with
 | (i, in_) =>
  (bif (ltB i (ak t.Hood)) then
   (idx t.Hood i).bind fun x1 =>
   (cG f (aQ .i64 x x1.X) (aQ .i64 y x1.Y)).bind fun y1 =>
   (ga 8 in_ [y1]).bind fun _l =>
   some (.next ((aQ .i64 i 1), (in_ ++ [y1])))
  else
   some (.out in_))
def fG (t : Tree) (f : cellularref20_field) (x : Int) (y : Int) : Option (Int) :=
 (ar (eF t f x y) aG (0, [])).bind fun in_ =>
 (ef t in_).bind fun y1 =>
 some y1
def fl (x : Int) (y : Int) : Option (Bool) :=
 ((bif (geB x (-1048576)) then
  (bif (leB x 1048576) then
   (bif (geB y (-1048576)) then
    some (leB y 1048576)
   else
    some false)
  else
   some false)
 else
  some false)).bind fun a =>
 some a
def cI (p : List Cell) (c : Cell) (stt : Bool × Int × (List Cell)) : Option (Lp (Bool × Int × (List Cell)) ((Bool × (List Cell)))) := match stt with
 | (done, i, out) =>
  (bif (ltB i (ak p)) then
   (((bif (aR done) then
    (idx p i).bind fun x =>
    (cX c x).bind fun y =>
    some y
   else
    some false)).bind fun a =>
   (bif a then
    (ga 24 out [c]).bind fun _l =>
    some (true, (out ++ [c]))
   else
    some (done, out))).bind fun (done1, out1) =>
   (idx p i).bind fun x =>
   (ga 24 out1 [x]).bind fun _l =>
   some (.next (done1, (aQ .i64 i 1), (out1 ++ [x])))
  else
   some (.out (done, out)))
def et (p : List Cell) (c : Cell) : Option (List Cell) :=
 (ar (cI p c) aG (false, 0, [])).bind fun (done, out) =>
 ((bif (aR done) then
  (ga 24 out [c]).bind fun _l =>
  some (out ++ [c])
 else
  some out)).bind fun out1 =>
 some out1
def dB (l : List Cell) (stt : Int) : Option (Lp (Int) (((List Cell) × Int) ⊕ Unit)) := match stt with
 | i =>
  (bif (ltB i (ak l)) then
   (idx l i).bind fun x =>
   (ed x.X x.Y).bind fun y =>
   (bif (aR y) then
    some (.out (.inl ([], 5)))
   else
    ((bif (ltB x.S 0) then
     some true
    else
     some (geB x.S 8))).bind fun a =>
    (bif a then
     some (.out (.inl ([], 10)))
    else
     some (.next (aQ .i64 i 1))))
  else
   some (.out (.inr ())))
def dE (l : List Cell) (stt : (List Cell) × Int) : Option (Lp ((List Cell) × Int) ((List Cell))) := match stt with
 | (p, i) =>
  (bif (ltB i (ak l)) then
   ((idx l i).bind fun x =>
   (bif (neB x.S 0) then
    (et p x).bind fun y =>
    some y
   else
    some p)).bind fun p1 =>
   some (.next (p1, (aQ .i64 i 1)))
  else
   some (.out p))
def dv (p : List Cell) (stt : Int) : Option (Lp (Int) (((List Cell) × Int) ⊕ Unit)) := match stt with
 | i =>
  (bif (ltB i (ak p)) then
   (idx p (aM .i64 i 1)).bind fun x =>
   (idx p i).bind fun x1 =>
   (cX x x1).bind fun y =>
   (bif (aR y) then
    some (.out (.inl ([], 8)))
   else
    some (.next (aQ .i64 i 1)))
  else
   some (.out (.inr ())))
def fJ (l : List Cell) : Option ((List Cell) × Int) :=
 (ar (dB l) aG 0).bind fun o => match o with
  | .inl r =>
   some r
  | .inr _u =>
   (ar (dE l) aG ([], 0)).bind fun p =>
   (ar (dv p) aG 1).bind fun o => match o with
    | .inl r =>
     some r
    | .inr _u =>
     (bif (gtB (ak p) 5000) then
      some ([], 6)
     else
      some (p, 0))
def cU (t : Tree) (y1 : cellularref20_field) (y2 : List Point) (stt : Bool × Int × (List Cell)) : Option (Lp (Bool × Int × (List Cell)) ((Bool × (List Cell)))) := match stt with
 | (out, i, l) =>
  (bif (ltB i (ak y2)) then
   ((idx y2 i).bind fun x =>
   (fG t y1 x.X x.Y).bind fun y3 =>
   (bif (neB y3 0) then
    (ga 24 l [(⟨x.X, x.Y, y3⟩ : Cell)]).bind fun _l1 =>
    (bif out then
     some (true, (l ++ [(⟨x.X, x.Y, y3⟩ : Cell)]))
    else
     (fl x.X x.Y).bind fun y4 =>
     some ((aR y4), (l ++ [(⟨x.X, x.Y, y3⟩ : Cell)])))
   else
    some (out, l))).bind fun (out1, l1) =>
   some (.next (out1, (aQ .i64 i 1), l1))
  else
   some (.out (out, l)))
def cN (t : Tree) (p : List Cell) : Option ((List Cell) × Int) :=
 (eV t p).bind fun y =>
 (bif (neB y 0) then
  some ([], y)
 else
  (eB p).bind fun y1 =>
  (cC y1).bind fun y2 =>
  (ar (cU t y1 y2) aG (false, 0, [])).bind fun (out, l) =>
  (bif out then
   some ([], 5)
  else
   (bif (gtB (ak l) 5000) then
    some ([], 6)
   else
    (fJ l).bind fun y3 =>
    some (y3.1, y3.2))))
def eS (t : Tree) (p : List Cell) (n : Int) (stt : Unit) : Option (Lp (Unit) (((List (List Cell)) × Int) ⊕ Unit)) := match stt with
 | _u =>
  (bif (ltB 0 n) then
   (idx [p] 0).bind fun x =>
   (cN t x).bind fun y1 =>
   (bif (neB y1.2 0) then
    some (.out (.inl ([], y1.2)))
   else
    none)
  else
   some (.out (.inr ())))
def eQ (t : Tree) (p : List Cell) (n : Int) : Option ((List (List Cell)) × Int) :=
 (eV t p).bind fun y =>
 (bif (neB y 0) then
  some ([], y)
 else
  ((bif (ltB n 0) then
   some true
  else
   some (gtB n 10000))).bind fun a =>
  (bif a then
   some ([], 2)
  else
   (ar (eS t p n) aG ()).bind fun o => match o with
    | .inl r =>
     some r
    | .inr _u =>
     some ([p], 0)))
def f5 (t : Tree) (p : List Cell) (n : Int) : Option ((List Cell) × Int) :=
 (eQ t p n).bind fun y =>
 (bif (neB y.2 0) then
  some ([], y.2)
 else
  (idx y.1 n).bind fun x =>
  some (x, 0))
def eH (p : List Cell) (stt : Int × (List Cell)) : Option (Lp (Int × (List Cell)) ((List Cell))) := match stt with
 | (i, out) =>
  (bif (ltB i (ak p)) then
   (idx p i).bind fun x =>
   (idx p 0).bind fun x1 =>
   (ga 24 out [(⟨(aM .i64 x.X x1.X), (aM .i64 x.Y x1.Y), x.S⟩ : Cell)]).bind fun _l =>
   some (.next ((aQ .i64 i 1), (out ++ [(⟨(aM .i64 x.X x1.X), (aM .i64 x.Y x1.Y), x.S⟩ : Cell)])))
  else
   some (.out out))
def dW (p : List Cell) : Option (List Cell) :=
 (ar (eH p) aG (0, [])).bind fun out =>
 some out
def dr (t : Tree) (p : List Cell) (most : Int) (stt : (List Cell) × Int) : Option (Lp ((List Cell) × Int) ((Motion × Bool × Int) ⊕ Unit)) := match stt with
 | (q, n) =>
  (bif (leB n most) then
   (cN t q).bind fun y1 =>
   (bif (neB y1.2 0) then
    some (.out (.inl ((⟨0, 0, 0⟩ : Motion), false, y1.2)))
   else
    ((bif (gtB (ak y1.1) 0) then
     (dW y1.1).bind fun y2 =>
     (dW p).bind fun y3 =>
     (eb y2 y3).bind fun y4 =>
     some y4
    else
     some false)).bind fun a1 =>
    (bif a1 then
     (idx y1.1 0).bind fun x =>
     (idx p 0).bind fun x1 =>
     some (.out (.inl ((⟨n, (aM .i64 x.X x1.X), (aM .i64 x.Y x1.Y)⟩ : Motion), true, 0)))
    else
     some (.next (y1.1, (aQ .i64 n 1)))))
  else
   some (.out (.inr ())))
def ej (t : Tree) (p : List Cell) (most : Int) : Option (Motion × Bool × Int) :=
 (f5 t p 0).bind fun y =>
 (bif (neB y.2 0) then
  some ((⟨0, 0, 0⟩ : Motion), false, y.2)
 else
  ((bif (ltB most 1) then
   some true
  else
   some (gtB most 64))).bind fun a =>
  (bif a then
   some ((⟨0, 0, 0⟩ : Motion), false, 2)
  else
   (bif (eqB (ak p) 0) then
    some ((⟨0, 0, 0⟩ : Motion), false, 0)
   else
    (ar (dr t p most) aG (p, 1)).bind fun o => match o with
     | .inl r =>
      some r
     | .inr _u =>
      some ((⟨0, 0, 0⟩ : Motion), false, 0))))
def cu (t : Tree) (gens : Int) (most : Int) (stt : (List Cell) × Int) : Option (Lp ((List Cell) × Int) ((Int × Motion × Int) ⊕ Unit)) := match stt with
 | (p1, g) =>
  (bif (leB g gens) then
   (ej t p1 most).bind fun y1 =>
   (bif (neB y1.2.2 0) then
    some (.out (.inl (0, (⟨0, 0, 0⟩ : Motion), y1.2.2)))
   else
    ((bif y1.2.1 then
     some true
    else
     some (eqB (ak p1) 0))).bind fun a1 =>
    (bif a1 then
     some (.out (.inl (g, y1.1, 0)))
    else
     (bif (ltB g gens) then
      (cN t p1).bind fun y2 =>
      (bif (neB y2.2 0) then
       some (.out (.inl (0, (⟨0, 0, 0⟩ : Motion), y2.2)))
      else
       some (.next (y2.1, (aQ .i64 g 1))))
     else
      some (.next (p1, (aQ .i64 g 1))))))
  else
   some (.out (.inr ())))
def dM (t : Tree) (p : List Cell) (gens : Int) (most : Int) : Option (Int × Motion × Int) :=
 (f5 t p 0).bind fun y =>
 (bif (neB y.2 0) then
  some (0, (⟨0, 0, 0⟩ : Motion), y.2)
 else
  ((bif (ltB gens 0) then
   some true
  else
   (bif (gtB gens 10000) then
    some true
   else
    (bif (ltB most 1) then
     some true
    else
     some (gtB most 64))))).bind fun a =>
  (bif a then
   some (0, (⟨0, 0, 0⟩ : Motion), 2)
  else
   (ar (cu t gens most) aG (p, 0)).bind fun o => match o with
    | .inl r =>
     some r
    | .inr _u =>
     some (0, (⟨0, 0, 0⟩ : Motion), 14)))
def cz (t : Tree) (p : List Cell) (x : Int × Int) : Option (Bool) :=
 ((cg t p).bind fun y =>
 (bif (aR y) then
  some true
 else
  (bif (gtB x.1 12) then
   (bif (leB x.1 10000) then
    some true
   else
    (bif (gtB x.2 4) then
     some (leB x.2 64)
    else
     some false))
  else
   (bif (gtB x.2 4) then
    some (leB x.2 64)
   else
    some false)))).bind fun a =>
 (bif a then
  (aI).bind fun y =>
  some y
 else
  (bq t p x.1 x.2).bind fun y =>
  (dM t p x.1 x.2).bind fun y1 =>
  ((bif (eqB y.1 y1.1) then
   (bif (bu (eqB y.2.1.Period y1.2.1.Period) (bu (eqB y.2.1.DX y1.2.1.DX) (bu (eqB y.2.1.DY y1.2.1.DY) true))) then
    (bif (eqB y.2.2 y1.2.2) then
     (aI).bind fun y2 =>
     some y2
    else
     some false)
   else
    some false)
  else
   some false)).bind fun a1 =>
  some a1)
end Go.Proofs.YtdjclgfbggfpaaaGreatDoor
