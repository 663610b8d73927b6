/-
  The functions, as functions of lists and numbers (made by cc.py).
-/
import Derived.Test.YtdjclgfbggfpaaaGreatDoorCf
import Derived.Test.YtdjclgfbggfpaaaGreatDoorMxL1
namespace Go.Proofs.YtdjclgfbggfpaaaGreatDoor
open Go.AM Go.Proofs
def fY : Option (Tree × Int) := some (fy, 0)
def cw (x : Int) : Option (Bool) :=
 some (neB x x)
def bz (x : Int) (y : Int) : Option (Int) :=
 (cw x).bind fun y1 =>
 (cw y).bind fun y2 =>
 (bif y1 then
  (bif y2 then
   some 0
  else
   some (-1))
 else
  (bif y2 then
   some 1
  else
   (bif (ltB x y) then
    some (-1)
   else
    (bif (gtB x y) then
     some 1
    else
     some 0))))
def cW (vals : List Int) (stt : Int) : Option (Lp (Int) (Int ⊕ Unit)) := match stt with
 | a =>
  (bif (ltB a (aj vals)) then
   (idx vals a).bind fun x =>
   (bif (neB x 0) then
    some (.out (.inl x))
   else
    some (.next (aM .i64 a 1)))
  else
   some (.out (.inr ())))
def dS (vals : List Int) : Option (Int) :=
 (ap (cW vals) aF 0).bind fun o => match o with
  | .inl r =>
   some r
  | .inr _u =>
   some 0
def bD (a : Point) (b : Point) : Option (Int) :=
 (bz a.Y b.Y).bind fun y =>
 (bz a.X b.X).bind fun y1 =>
 (dS [y, y1]).bind fun y2 =>
 some y2
def dv (l : List Point) (stt : Int) : Option (Lp (Int) (Bool ⊕ Unit)) := match stt with
 | a1 =>
  (bif (ltB a1 (aj l)) then
   (idx l a1).bind fun x =>
   ((bif (ltB x.X (-2)) then
    some true
   else
    (bif (gtB x.X 2) then
     some true
    else
     (bif (ltB x.Y (-2)) then
      some true
     else
      (bif (gtB x.Y 2) then
       some true
      else
       (bif (gtB a1 0) then
        (idx l (aK .i64 a1 1)).bind fun x1 =>
        (bD x1 x).bind fun y =>
        some (geB y 0)
       else
        some false)))))).bind fun a2 =>
   (bif a2 then
    some (.out (.inl false))
   else
    some (.next (aM .i64 a1 1)))
  else
   some (.out (.inr ())))
def dL (l : List Point) : Option (Bool) :=
 ((bif (ltB (aj l) 1) then
  some true
 else
  some (gtB (aj l) 25))).bind fun a =>
 (bif a then
  some false
 else
  (ap (dv l) aF 0).bind fun o => match o with
   | .inl r =>
    some r
   | .inr _u =>
    some true)
def cV (t : Tree) (a1 : Int) (x : Node) (stt : Int) : Option (Lp (Int) (Bool ⊕ Unit)) := match stt with
 | a3 =>
  (bif (ltB a3 (aj x.Next)) then
   (idx x.Next a3).bind fun x1 =>
   ((bif (ltB x1 0) then
    some true
   else
    (bif (eqB x.Level 1) then
     (bif (geB x1 t.States) then
      some true
     else
      (bif (gtB x.Level 1) then
       (bif (geB x1 a1) then
        some true
       else
        (idx t.Nodes x1).bind fun x2 =>
        some (neB x2.Level (aK .i64 x.Level 1)))
      else
       some false))
    else
     (bif (gtB x.Level 1) then
      (bif (geB x1 a1) then
       some true
      else
       (idx t.Nodes x1).bind fun x2 =>
       some (neB x2.Level (aK .i64 x.Level 1)))
     else
      some false)))).bind fun a4 =>
   (bif a4 then
    some (.out (.inl false))
   else
    some (.next (aM .i64 a3 1)))
  else
   some (.out (.inr ())))
def cX (t : Tree) (stt : Int) : Option (Lp (Int) (Bool ⊕ Unit)) := match stt with
 | a1 =>
  (bif (ltB a1 (aj t.Nodes)) then
   (idx t.Nodes a1).bind fun x =>
   ((bif (ltB x.Level 1) then
    some true
   else
    (bif (gtB x.Level (aj t.Hood)) then
     some true
    else
     some (neB (aj x.Next) t.States)))).bind fun a2 =>
   (bif a2 then
    some (.out (.inl false))
   else
    (ap (cV t a1 x) aF 0).bind fun o => match o with
     | .inl r =>
      some (.out (.inl r))
     | .inr _u =>
      some (.next (aM .i64 a1 1)))
  else
   some (.out (.inr ())))
def dK (t : Tree) : Option (Bool) :=
 ((bif (ltB t.States 2) then
  some true
 else
  (bif (gtB t.States 8) then
   some true
  else
   (dL t.Hood).bind fun y =>
   (bif (aN y) then
    some true
   else
    (bif (ltB (aj t.Nodes) 1) then
     some true
    else
     (bif (gtB (aj t.Nodes) 4096) then
      some true
     else
      (idx t.Nodes (aK .i64 (aj t.Nodes) 1)).bind fun x =>
      some (neB x.Level (aj t.Hood)))))))).bind fun a =>
 (bif a then
  some false
 else
  (ap (cX t) aF 0).bind fun o => match o with
   | .inl r =>
    some r
   | .inr _u =>
    some true)
def cQ (t : Tree) (in_ : List Int) (stt : Int × Int) : Option (Lp (Int × Int) (Int)) := match stt with
 | (k, a) =>
  (bif (ltB a (aj in_)) then
   (idx in_ a).bind fun x =>
   (idx t.Nodes k).bind fun x1 =>
   (idx x1.Next x).bind fun x2 =>
   some (.next (x2, (aM .i64 a 1)))
  else
   some (.out k))
def dJ (t : Tree) (in_ : List Int) : Option (Int) :=
 (ap (cQ t in_) aF ((aK .i64 (aj t.Nodes) 1), 0)).bind fun k =>
 some k
def dT (t : Tree) : Option (Bool) :=
 ((dK t).bind fun y =>
 (bif y then
  (mkL 8 (aj t.Hood) (aj t.Hood) 0).bind fun _l =>
  (dJ t (List.replicate (aj t.Hood).toNat 0)).bind fun y1 =>
  some (eqB y1 0)
 else
  some false)).bind fun a =>
 some a
def aY (c : Cell) : Option (Point) :=
 some (⟨c.X, c.Y⟩ : Point)
def bw (p : Point) : Option (Bool) :=
 ((bif (leB (f5 p.X p.Y) 1048576) then
  some (geB (imin p.X p.Y) (-1048576))
 else
  some false)).bind fun a =>
 some a
def bC (a : Cell) (b : Cell) : Option (Int) :=
 (aY a).bind fun y =>
 (aY b).bind fun y1 =>
 (bD y y1).bind fun y2 =>
 some y2
def cE (p : List Cell) (stt : Int) : Option (Lp (Int) (Bool ⊕ Unit)) := match stt with
 | a =>
  (bif (ltB a (aj p)) then
   (idx p a).bind fun x =>
   ((aY x).bind fun y =>
   (bw y).bind fun y1 =>
   (bif (aN y1) then
    some true
   else
    (bif (ltB x.S 1) then
     some true
    else
     (bif (geB x.S 8) then
      some true
     else
      (bif (gtB a 0) then
       (idx p (aK .i64 a 1)).bind fun x1 =>
       (bC x1 x).bind fun y2 =>
       some (geB y2 0)
      else
       some false))))).bind fun a1 =>
   (bif a1 then
    some (.out (.inl false))
   else
    some (.next (aM .i64 a 1)))
  else
   some (.out (.inr ())))
def bZ (p : List Cell) : Option (Bool) :=
 (bif (gtB (aj p) 5000) then
  some false
 else
  (ap (cE p) aF 0).bind fun o => match o with
   | .inl r =>
    some r
   | .inr _u =>
    some true)
def cy (p : List Cell) (stt : Int × Int) : Option (Lp (Int × Int) (Int)) := match stt with
 | (n, a) =>
  (bif (ltB a (aj p)) then
   (idx p a).bind fun x =>
   some (.next ((f5 n x.S), (aM .i64 a 1)))
  else
   some (.out n))
def di (p : List Cell) : Option (Int) :=
 (ap (cy p) aF (0, 0)).bind fun n =>
 some n
def cr (t : Tree) (p : List Cell) : Option (Int) :=
 (dT t).bind fun y =>
 (bif (aN y) then
  some 11
 else
  (bZ p).bind fun y1 =>
  (bif (aN y1) then
   some 2
  else
   (di p).bind fun y2 =>
   (bif (geB y2 t.States) then
    some 10
   else
    some 0)))
def dh (p : List Cell) (stt : Int × (List (Point × Int))) : Option (Lp (Int × (List (Point × Int))) ((List (Point × Int)))) := match stt with
 | (a, m) =>
  (bif (ltB a (aj p)) then
   (idx p a).bind fun x =>
   (kckL [x.X, x.Y]).bind fun _u =>
   some (.next ((aM .i64 a 1), (fS m (⟨x.X, x.Y⟩ : Point) x.S)))
  else
   some (.out m))
def fb (p : List Cell) : Option (List (Point × Int)) :=
 (ap (dh p) aF (0, [])).bind fun m =>
 some m
def bf (m : List (Point × Int)) (t : Tree) (p : Point) (stt : Int × Int) : Option (Lp (Int × Int) (Int)) := match stt with
 | (k, a) =>
  (bif (ltB a (aj t.Hood)) then
   (idx t.Hood a).bind fun x =>
   (idx t.Nodes k).bind fun x1 =>
   (kckL [(aM .i64 p.X x.X), (aM .i64 p.Y x.Y)]).bind fun _u =>
   (idx x1.Next (eA m (⟨(aM .i64 p.X x.X), (aM .i64 p.Y x.Y)⟩ : Point) 0)).bind fun x2 =>
   some (.next (x2, (aM .i64 a 1)))
  else
   some (.out k))
def bE (m : List (Point × Int)) (t : Tree) (p : Point) : Option (Int) :=
 (ap (bf m t p) aF ((aK .i64 (aj t.Nodes) 1), 0)).bind fun k =>
 some k
def dF (p : Point) : Option (Bool) :=
 ((bif (leB (f5 p.X p.Y) 1048576) then
  some (geB (imin p.X p.Y) (-1048576))
 else
  some false)).bind fun a =>
 some a
def aJ (l : List Cell) : Option (List Cell) := sortM aB l
def bI (l : List Cell) (stt : Int × (List Cell)) : Option (Lp (Int × (List Cell)) (((List Cell) × Int) ⊕ (List Cell))) := match stt with
 | (a, out) =>
  (bif (ltB a (aj l)) then
   (idx l a).bind fun x =>
   (aY x).bind fun y =>
   (bw y).bind fun y1 =>
   (bif (aN y1) then
    some (.out (.inl ([], 5)))
   else
    ((bif (ltB x.S 0) then
     some true
    else
     some (geB x.S 8))).bind fun a1 =>
    (bif a1 then
     some (.out (.inl ([], 10)))
    else
     (bif (gtB x.S 0) then
      (fh 24 out [x]).bind fun _l1 =>
      some (.next ((aM .i64 a 1), (out ++ [x])))
     else
      some (.next ((aM .i64 a 1), out)))))
  else
   some (.out (.inr out)))
def bH (_out : List Cell) (y : List Cell) (stt : Int) : Option (Lp (Int) (((List Cell) × Int) ⊕ Unit)) := match stt with
 | i =>
  (bif (ltB i (aj y)) then
   (idx y (aK .i64 i 1)).bind fun x =>
   (aY x).bind fun y1 =>
   (idx y i).bind fun x1 =>
   (aY x1).bind fun y2 =>
   (bif (bk (eqB y1.X y2.X) (bk (eqB y1.Y y2.Y) true)) then
    some (.out (.inl ([], 8)))
   else
    some (.next (aM .i64 i 1)))
  else
   some (.out (.inr ())))
def cT (l : List Cell) : Option ((List Cell) × Int) :=
 (ap (bI l) aF (0, [])).bind fun o => match o with
  | .inl r =>
   some r
  | .inr out =>
   (aJ out).bind fun y =>
   (ap (bH out y) aF 1).bind fun o => match o with
    | .inl r =>
     some r
    | .inr _u =>
     (bif (gtB (aj y) 5000) then
      some ([], 6)
     else
      some (y, 0))
def b7 (t : Tree) (_p : List Cell) (y : List (Point × Int)) (_a : Int) (x : Cell) (stt : Int × (List (Point × Bool)) × (List Cell)) : Option (Lp (Int × (List (Point × Bool)) × (List Cell)) (((List Cell) × Int) ⊕ ((List (Point × Bool)) × (List Cell)))) := match stt with
 | (a1, done1, l1) =>
  (bif (ltB a1 (aj t.Hood)) then
   (idx t.Hood a1).bind fun x1 =>
   (kckL [(aK .i64 x.X x1.X), (aK .i64 x.Y x1.Y)]).bind fun _u =>
   (bif (eA done1 (⟨(aK .i64 x.X x1.X), (aK .i64 x.Y x1.Y)⟩ : Point) false) then
    some (.next ((aM .i64 a1 1), done1, l1))
   else
    (bE y t (⟨(aK .i64 x.X x1.X), (aK .i64 x.Y x1.Y)⟩ : Point)).bind fun y1 =>
    (bif (gtB y1 0) then
     (dF (⟨(aK .i64 x.X x1.X), (aK .i64 x.Y x1.Y)⟩ : Point)).bind fun y2 =>
     (bif (aN y2) then
      some (.out (.inl ([], 5)))
     else
      (fh 24 l1 [(⟨(aK .i64 x.X x1.X), (aK .i64 x.Y x1.Y), y1⟩ : Cell)]).bind fun _l2 =>
      some (.next ((aM .i64 a1 1), (fS done1 (⟨(aK .i64 x.X x1.X), (aK .i64 x.Y x1.Y)⟩ : Point) true), (l1 ++ [(⟨(aK .i64 x.X x1.X), (aK .i64 x.Y x1.Y), y1⟩ : Cell)]))))
    else
     some (.next ((aM .i64 a1 1), (fS done1 (⟨(aK .i64 x.X x1.X), (aK .i64 x.Y x1.Y)⟩ : Point) true), l1))))
  else
   some (.out (.inr (done1, l1))))
def bn (t : Tree) (p : List Cell) (y : List (Point × Int)) (stt : Int × (List (Point × Bool)) × (List Cell)) : Option (Lp (Int × (List (Point × Bool)) × (List Cell)) (((List Cell) × Int) ⊕ (List Cell))) := match stt with
 | (a, done, l) =>
  (bif (ltB a (aj p)) then
   (idx p a).bind fun x =>
   (ap (b7 t p y a x) aF (0, done, l)).bind fun o => match o with
    | .inl r =>
     some (.out (.inl r))
    | .inr (done1, l1) =>
     some (.next ((aM .i64 a 1), done1, l1))
  else
   some (.out (.inr l)))
def bN (t : Tree) (p : List Cell) : Option ((List Cell) × Int) :=
 (fb p).bind fun y =>
 (ap (bn t p y) aF (0, [], [])).bind fun o => match o with
  | .inl r =>
   some r
  | .inr l =>
   (cT l).bind fun y1 =>
   some (y1.1, y1.2)
def bR (t : Tree) (n : Int) (stt : (List Cell) × Int) : Option (Lp ((List Cell) × Int) (((List Cell) × Int) ⊕ (List Cell))) := match stt with
 | (p1, a1) =>
  (bif (ltB a1 n) then
   (bN t p1).bind fun y1 =>
   (bif (neB y1.2 0) then
    some (.out (.inl ([], y1.2)))
   else
    some (.next (y1.1, (aM .i64 a1 1))))
  else
   some (.out (.inr p1)))
def bi (t : Tree) (p : List Cell) (n : Int) : Option ((List Cell) × Int) :=
 (cr t p).bind fun y =>
 (bif (neB y 0) then
  some ([], y)
 else
  ((bif (ltB n 0) then
   some true
  else
   some (gtB n 10000))).bind fun a =>
  (bif a then
   some ([], 2)
  else
   (ap (bR t n) aF (p, 0)).bind fun o => match o with
    | .inl r =>
     some r
    | .inr p1 =>
     some (p1, 0)))
def bm (n : Int) : Option (Bool) :=
 ((bif (geB n 1) then
  some (leB n 64)
 else
  some false)).bind fun a =>
 some a
def b8 (t : Tree) (p : List Cell) : Option ((List Cell) × Int) :=
 (cr t p).bind fun y =>
 (bif (neB y 0) then
  some ([], y)
 else
  (bN t p).bind fun y1 =>
  some (y1.1, y1.2))
def bG (a : List Cell) (b : List Cell) (x : Cell) (x1 : Cell) (stt : Int) : Option (Lp (Int) ((Int × Int × Bool) ⊕ Unit)) := match stt with
 | a2 =>
  (bif (ltB a2 (aj a)) then
   (idx b a2).bind fun x2 =>
   (idx a a2).bind fun x3 =>
   (bif (aN (bk (eqB x2.X (aM .i64 x3.X (aK .i64 x.X x1.X))) (bk (eqB x2.Y (aM .i64 x3.Y (aK .i64 x.Y x1.Y))) (bk (eqB x2.S x3.S) true)))) then
    some (.out (.inl (0, 0, false)))
   else
    some (.next (aM .i64 a2 1)))
  else
   some (.out (.inr ())))
def cS (a : List Cell) (b : List Cell) : Option (Int × Int × Bool) :=
 ((bif (neB (aj a) (aj b)) then
  some true
 else
  some (eqB (aj a) 0))).bind fun a1 =>
 (bif a1 then
  some (0, 0, false)
 else
  (idx b 0).bind fun x =>
  (idx a 0).bind fun x1 =>
  (ap (bG a b x x1) aF 0).bind fun o => match o with
   | .inl r =>
    some r
   | .inr _u =>
    some ((aK .i64 x.X x1.X), (aK .i64 x.Y x1.Y), true))
def ca (t : Tree) (p : List Cell) (most : Int) (stt : (List Cell) × Int) : Option (Lp ((List Cell) × Int) ((Motion × Bool × Int) ⊕ Unit)) := match stt with
 | (q, g) =>
  ((bif (leB g most) then
   some (gtB (aj q) 0)
  else
   some false)).bind fun a =>
  (bif a then
   (b8 t q).bind fun y2 =>
   (bif (neB y2.2 0) then
    some (.out (.inl ((⟨0, 0, 0⟩ : Motion), false, y2.2)))
   else
    (cS p y2.1).bind fun y3 =>
    (bif y3.2.2 then
     some (.out (.inl ((⟨g, y3.1, y3.2.1⟩ : Motion), true, 0)))
    else
     some (.next (y2.1, (aM .i64 g 1)))))
  else
   some (.out (.inr ())))
def b0 (t : Tree) (p : List Cell) (most : Int) : Option (Motion × Bool × Int) :=
 (bi t p 0).bind fun y =>
 (bif (neB y.2 0) then
  some ((⟨0, 0, 0⟩ : Motion), false, y.2)
 else
  (bm most).bind fun y1 =>
  (bif (aN y1) then
   some ((⟨0, 0, 0⟩ : Motion), false, 2)
  else
   (ap (ca t p most) aF (p, 1)).bind fun o => match o with
    | .inl r =>
     some r
    | .inr _u =>
     some ((⟨0, 0, 0⟩ : Motion), false, 0)))
def b5 (t : Tree) (p : List Cell) (m : Motion) : Option (Bool × Int) :=
 (b0 t p m.Period).bind fun y =>
 ((bif y.2.1 then
  some (bk (eqB y.1.Period m.Period) (bk (eqB y.1.DX m.DX) (bk (eqB y.1.DY m.DY) true)))
 else
  some false)).bind fun a =>
 some (a, y.2.2)
def bq (t : Tree) (gens : Int) (most : Int) (stt : (List Cell) × Int) : Option (Lp ((List Cell) × Int) ((Int × Motion × Int) ⊕ Unit)) := match stt with
 | (p1, g) =>
  (bif (leB g gens) then
   (bif (eqB (aj p1) 0) then
    some (.out (.inl (g, (⟨0, 0, 0⟩ : Motion), 0)))
   else
    (b0 t p1 most).bind fun y1 =>
    (bif (neB y1.2.2 0) then
     some (.out (.inl (0, (⟨0, 0, 0⟩ : Motion), y1.2.2)))
    else
     (bif y1.2.1 then
      some (.out (.inl (g, y1.1, 0)))
     else
      (bif (ltB g gens) then
       (b8 t p1).bind fun y2 =>
       (bif (neB y2.2 0) then
        some (.out (.inl (0, (⟨0, 0, 0⟩ : Motion), y2.2)))
       else
        some (.next (y2.1, (aM .i64 g 1))))
      else
       some (.next (p1, (aM .i64 g 1)))))))
  else
   some (.out (.inr ())))
def bj (t : Tree) (p : List Cell) (gens : Int) (most : Int) : Option (Int × Motion × Int) :=
 (bi t p 0).bind fun y =>
 (bif (neB y.2 0) then
  some (0, (⟨0, 0, 0⟩ : Motion), y.2)
 else
  ((bif (ltB gens 0) then
   some true
  else
   (bif (gtB gens 10000) then
    some true
   else
    (bm most).bind fun y1 =>
    some (aN y1)))).bind fun a =>
  (bif a then
   some (0, (⟨0, 0, 0⟩ : Motion), 2)
  else
   (ap (bq t gens most) aF (p, 0)).bind fun o => match o with
    | .inl r =>
     some r
    | .inr _u =>
     some (0, (⟨0, 0, 0⟩ : Motion), 14)))
def cn (m : Motion) (n : Int) : Option (Motion × Int) :=
 ((bm m.Period).bind fun y =>
 (bif (aN y) then
  some true
 else
  (bif (gtB (f5 m.DX m.DY) 1048576) then
   some true
  else
   (bif (ltB (imin m.DX m.DY) (-1048576)) then
    some true
   else
    (bif (ltB n 1) then
     some true
    else
     some (gtB n 10000)))))).bind fun a =>
 (bif a then
  some ((⟨0, 0, 0⟩ : Motion), 2)
 else
  ((bif (gtB (ej .i64 m.Period n) 10000) then
   some true
  else
   (bif (gtB (f5 (ej .i64 m.DX n) (ej .i64 m.DY n)) 1048576) then
    some true
   else
    some (ltB (imin (ej .i64 m.DX n) (ej .i64 m.DY n)) (-1048576))))).bind fun a1 =>
  (bif a1 then
   some ((⟨0, 0, 0⟩ : Motion), 5)
  else
   some ((⟨(ej .i64 m.Period n), (ej .i64 m.DX n), (ej .i64 m.DY n)⟩ : Motion), 0)))
def dY (m : Motion) : Option (Int) :=
 (bm m.Period).bind fun y =>
 (bif (aN y) then
  some 0
 else
  ((bif (neB m.DX 0) then
   some true
  else
   some (neB m.DY 0))).bind fun a =>
  (bif a then
   some 3
  else
   (bif (gtB m.Period 1) then
    some 2
   else
    some 1)))
def aG : Option (Bool) :=
 (fY).bind fun y =>
 (b0 y.1 [(⟨1, 0, 1⟩ : Cell), (⟨2, 1, 1⟩ : Cell), (⟨0, 2, 1⟩ : Cell), (⟨1, 2, 1⟩ : Cell), (⟨2, 2, 1⟩ : Cell)] 8).bind fun y1 =>
 (b0 y.1 [(⟨1, 0, 1⟩ : Cell), (⟨2, 1, 1⟩ : Cell), (⟨0, 2, 1⟩ : Cell), (⟨1, 2, 1⟩ : Cell), (⟨2, 2, 1⟩ : Cell)] 3).bind fun y2 =>
 (slc3 [(⟨1, 0, 1⟩ : Cell), (⟨2, 1, 1⟩ : Cell), (⟨0, 2, 1⟩ : Cell), (⟨1, 2, 1⟩ : Cell), (⟨2, 2, 1⟩ : Cell)] 0 0).bind fun l =>
 (b5 y.1 l y1.1).bind fun y3 =>
 (bj y.1 [(⟨0, 0, 1⟩ : Cell), (⟨1, 0, 1⟩ : Cell), (⟨0, 1, 1⟩ : Cell)] 5 2).bind fun y4 =>
 (bj y.1 [(⟨0, 0, 1⟩ : Cell)] 5 2).bind fun y5 =>
 (cn y1.1 3).bind fun y6 =>
 ((bif (neB y.2 0) then
  some true
 else
  (bif (neB y1.2.2 0) then
   some true
  else
   (bif (neB y2.2.2 0) then
    some true
   else
    (bif (neB y3.2 0) then
     some true
    else
     (bif (neB y4.2.2 0) then
      some true
     else
      (bif (neB y5.2.2 0) then
       some true
      else
       (bif (neB y6.2 0) then
        some true
       else
        (bif (aN y1.2.1) then
         some true
        else
         (bif y2.2.1 then
          some true
         else
          some y3.1)))))))))).bind fun a =>
 (bif a then
  some false
 else
  ((bif (bk (eqB y1.1.Period 4) (bk (eqB y1.1.DX 1) (bk (eqB y1.1.DY 1) true))) then
   (bif (eqB y4.1 1) then
    (bif (bk (eqB y4.2.1.Period 1) (bk (eqB y4.2.1.DX 0) (bk (eqB y4.2.1.DY 0) true))) then
     (bif (eqB y5.1 1) then
      (bif (bk (eqB y5.2.1.Period 0) (bk (eqB y5.2.1.DX 0) (bk (eqB y5.2.1.DY 0) true))) then
       (bif (bk (eqB y6.1.Period 12) (bk (eqB y6.1.DX 3) (bk (eqB y6.1.DY 3) true))) then
        (dY y1.1).bind fun y7 =>
        (bif (eqB y7 3) then
         (dY y4.2.1).bind fun y8 =>
         some (eqB y8 1)
        else
         some false)
       else
        some false)
      else
       some false)
     else
      some false)
    else
     some false)
   else
    some false)
  else
   some false)).bind fun a1 =>
  some a1)
def fc (t : Tree) (stt : Int) : Option (Lp (Int) (Bool ⊕ Unit)) := match stt with
 | a1 =>
  (bif (ltB a1 (aj t.Nodes)) then
   (idx t.Nodes a1).bind fun x =>
   (bif (gtB (aj x.Next) 20) then
    some (.out (.inl false))
   else
    some (.next (aM .i64 a1 1)))
  else
   some (.out (.inr ())))
def ga (t : Tree) : Option (Bool) :=
 ((bif (gtB (aj t.Hood) 40) then
  some true
 else
  some (gtB (aj t.Nodes) 400))).bind fun a =>
 (bif a then
  some false
 else
  (ap (fc t) aF 0).bind fun o => match o with
   | .inl r =>
    some r
   | .inr _u =>
    some true)
def bP (t : Tree) (p : List Cell) : Option (Bool) :=
 ((ga t).bind fun y =>
 (bif y then
  (bif (leB (aj t.Nodes) 100) then
   some (leB (aj p) 60)
  else
   some false)
 else
  some false)).bind fun a =>
 some a
def aZ (l : List Cell) : Option (List Cell) := fh 24 [] l
def ba (dx : Int) (dy : Int) (y1 : List Cell) (stt : Int × (List Cell)) : Option (Lp (Int × (List Cell)) (((List Cell) × Int) ⊕ (List Cell))) := match stt with
 | (a1, out) =>
  (bif (ltB a1 (aj y1)) then
   (idx out a1).bind fun x =>
   (idx (out.set a1.toNat (⟨(aM .i64 x.X dx), x.Y, x.S⟩ : Cell)) a1).bind fun x1 =>
   (idx ((out.set a1.toNat (⟨(aM .i64 x.X dx), x.Y, x.S⟩ : Cell)).set a1.toNat (⟨x1.X, (aM .i64 x1.Y dy), x1.S⟩ : Cell)) a1).bind fun x2 =>
   (aY x2).bind fun y2 =>
   (bw y2).bind fun y3 =>
   (bif (aN y3) then
    some (.out (.inl ([], 5)))
   else
    some (.next ((aM .i64 a1 1), ((out.set a1.toNat (⟨(aM .i64 x.X dx), x.Y, x.S⟩ : Cell)).set a1.toNat (⟨x1.X, (aM .i64 x1.Y dy), x1.S⟩ : Cell)))))
  else
   some (.out (.inr out)))
def bl (p : List Cell) (dx : Int) (dy : Int) : Option ((List Cell) × Int) :=
 (bZ p).bind fun y =>
 (bif (aN y) then
  some ([], 2)
 else
  ((bif (gtB (f5 dx dy) 2097152) then
   some true
  else
   some (ltB (imin dx dy) (-2097152)))).bind fun a =>
  (bif a then
   some ([], 5)
  else
   (aZ p).bind fun y1 =>
   (ap (ba dx dy y1) aF (0, y1)).bind fun o => match o with
    | .inl r =>
     some r
    | .inr out =>
     some (out, 0)))
def bB (a : Int) (b : Int) : Option (Int) :=
 (bif (ltB a b) then
  some (-1)
 else
  (bif (gtB a b) then
   some 1
  else
   some 0))
def bX (a : List Cell) (b : List Cell) (stt : Int) : Option (Lp (Int) (Int ⊕ Unit)) := match stt with
 | i =>
  ((bif (ltB i (aj a)) then
   some (ltB i (aj b))
  else
   some false)).bind fun a1 =>
  (bif a1 then
   (idx a i).bind fun x =>
   (idx b i).bind fun x1 =>
   (bif (neB x.Y x1.Y) then
    (bB x.Y x1.Y).bind fun y =>
    some (.out (.inl y))
   else
    (bif (neB x.X x1.X) then
     (bB x.X x1.X).bind fun y =>
     some (.out (.inl y))
    else
     (bif (neB x.S x1.S) then
      (bB x.S x1.S).bind fun y =>
      some (.out (.inl y))
     else
      some (.next (aM .i64 i 1)))))
  else
   some (.out (.inr ())))
def dp (a : List Cell) (b : List Cell) : Option (Int) :=
 (ap (bX a b) aF 0).bind fun o => match o with
  | .inl r =>
   some r
  | .inr _u =>
   (bB (aj a) (aj b)).bind fun y =>
   some y
def dC (a : List Cell) (b : List Cell) : Option (Bool) :=
 (dp a b).bind fun y =>
 some (eqB y 0)
def bp (t : Tree) (p : List Cell) (_n : Int) (y1 : Motion × Bool × Int) (stt : Int) : Option (Lp (Int) (Bool ⊕ Unit)) := match stt with
 | g =>
  (bif (ltB g y1.1.Period) then
   (bi t p g).bind fun y2 =>
   (bif (neB y2.2 0) then
    some (.out (.inl false))
   else
    ((bif (gtB (aj y2.1) 0) then
     some (gtB (aj p) 0)
    else
     some false)).bind fun a1 =>
    (bif a1 then
     (idx y2.1 0).bind fun x =>
     (idx p 0).bind fun x1 =>
     (bl p (aK .i64 x.X x1.X) (aK .i64 x.Y x1.Y)).bind fun y3 =>
     ((bif (eqB y3.2 0) then
      (dC y3.1 y2.1).bind fun y4 =>
      some y4
     else
      some false)).bind fun a2 =>
     (bif a2 then
      some (.out (.inl false))
     else
      some (.next (aM .i64 g 1)))
    else
     some (.next (aM .i64 g 1))))
  else
   some (.out (.inr ())))
def cU (t : Tree) (p : List Cell) (n : Int) : Option (Bool) :=
 (bP t p).bind fun y =>
 (bif (aN y) then
  (aG).bind fun y1 =>
  some y1
 else
  (b0 t p 6).bind fun y1 =>
  ((bif (neB y1.2.2 0) then
   some true
  else
   some (aN y1.2.1))).bind fun a =>
  (bif a then
   ((bif (bk (eqB y1.1.Period 0) (bk (eqB y1.1.DX 0) (bk (eqB y1.1.DY 0) true))) then
    (aG).bind fun y2 =>
    some y2
   else
    some false)).bind fun a1 =>
   some a1
  else
   (ap (bp t p n y1) aF 1).bind fun o => match o with
    | .inl r =>
     some r
    | .inr _u =>
     (irem n 3).bind fun n1 =>
     (cn y1.1 (aM .i64 1 (fC .i64 n1))).bind fun y2 =>
     (bif (neB y2.2 0) then
      some false
     else
      (bi t p y2.1.Period).bind fun y3 =>
      (bl p y2.1.DX y2.1.DY).bind fun y4 =>
      ((bif (neB y3.2 0) then
       some true
      else
       some (neB y4.2 0))).bind fun a1 =>
      (bif a1 then
       ((bif (eqB y3.2 5) then
        (aG).bind fun y5 =>
        some y5
       else
        (bif (eqB y4.2 5) then
         (aG).bind fun y5 =>
         some y5
        else
         some false))).bind fun a2 =>
       some a2
      else
       ((bif (gtB (aj p) 0) then
        (dC y3.1 y4.1).bind fun y5 =>
        (bif y5 then
         (aG).bind fun y6 =>
         some y6
        else
         some false)
       else
        some false)).bind fun a2 =>
       some a2))))
def dO (a : Point) (b : Point) : Option (Bool) :=
 ((bif (ltB a.Y b.Y) then
  some true
 else
  (bif (eqB a.Y b.Y) then
   some (ltB a.X b.X)
  else
   some false))).bind fun a1 =>
 some a1
def dW (l : List Point) (stt : Int) : Option (Lp (Int) (Bool ⊕ Unit)) := match stt with
 | i =>
  (bif (ltB i (aj l)) then
   (idx l i).bind fun x =>
   ((bif (ltB x.X (-2)) then
    some true
   else
    (bif (gtB x.X 2) then
     some true
    else
     (bif (ltB x.Y (-2)) then
      some true
     else
      (bif (gtB x.Y 2) then
       some true
      else
       (bif (gtB i 0) then
        (idx l (aK .i64 i 1)).bind fun x1 =>
        (dO x1 x).bind fun y =>
        some (aN y)
       else
        some false)))))).bind fun a1 =>
   (bif a1 then
    some (.out (.inl false))
   else
    some (.next (aM .i64 i 1)))
  else
   some (.out (.inr ())))
def eC (l : List Point) : Option (Bool) :=
 ((bif (ltB (aj l) 1) then
  some true
 else
  some (gtB (aj l) 25))).bind fun a =>
 (bif a then
  some false
 else
  (ap (dW l) aF 0).bind fun o => match o with
   | .inl r =>
    some r
   | .inr _u =>
    some true)
def dl (t : Tree) (i : Int) (x : Node) (stt : Int) : Option (Lp (Int) (Bool ⊕ Unit)) := match stt with
 | s =>
  (bif (ltB s t.States) then
   (idx x.Next s).bind fun x1 =>
   (bif (ltB x1 0) then
    some (.out (.inl false))
   else
    ((bif (eqB x.Level 1) then
     some (geB x1 t.States)
    else
     some false)).bind fun a2 =>
    (bif a2 then
     some (.out (.inl false))
    else
     ((bif (gtB x.Level 1) then
      (bif (geB x1 i) then
       some true
      else
       (idx t.Nodes x1).bind fun x2 =>
       some (neB x2.Level (aK .i64 x.Level 1)))
     else
      some false)).bind fun a3 =>
     (bif a3 then
      some (.out (.inl false))
     else
      some (.next (aM .i64 s 1)))))
  else
   some (.out (.inr ())))
def dj (t : Tree) (stt : Int) : Option (Lp (Int) (Bool ⊕ Unit)) := match stt with
 | i =>
  (bif (ltB i (aj t.Nodes)) then
   (idx t.Nodes i).bind fun x =>
   ((bif (ltB x.Level 1) then
    some true
   else
    (bif (gtB x.Level (aj t.Hood)) then
     some true
    else
     some (neB (aj x.Next) t.States)))).bind fun a1 =>
   (bif a1 then
    some (.out (.inl false))
   else
    (ap (dl t i x) aF 0).bind fun o => match o with
     | .inl r =>
      some (.out (.inl r))
     | .inr _u =>
      some (.next (aM .i64 i 1)))
  else
   some (.out (.inr ())))
def dw (t : Tree) : Option (Bool) :=
 ((bif (ltB t.States 2) then
  some true
 else
  (bif (gtB t.States 8) then
   some true
  else
   (eC t.Hood).bind fun y =>
   (bif (aN y) then
    some true
   else
    (bif (ltB (aj t.Nodes) 1) then
     some true
    else
     some (gtB (aj t.Nodes) 4096)))))).bind fun a =>
 (bif a then
  some false
 else
  (ap (dj t) aF 0).bind fun o => match o with
   | .inl r =>
    some r
   | .inr _u =>
    (idx t.Nodes (aK .i64 (aj t.Nodes) 1)).bind fun x =>
    some (eqB x.Level (aj t.Hood)))
def df (t : Tree) (in_ : List Int) (stt : Int × Int) : Option (Lp (Int × Int) (Int)) := match stt with
 | (k, i) =>
  (bif (ltB i (aj in_)) then
   (idx t.Nodes k).bind fun x =>
   (idx in_ i).bind fun x1 =>
   (idx x.Next x1).bind fun x2 =>
   some (.next (x2, (aM .i64 i 1)))
  else
   some (.out k))
def dG (t : Tree) (in_ : List Int) : Option (Int) :=
 (ap (df t in_) aF ((aK .i64 (aj t.Nodes) 1), 0)).bind fun k =>
 some k
def eH (t : Tree) (in_ : List Int) (stt : Int) : Option (Lp (Int) ((Int × Int) ⊕ Unit)) := match stt with
 | i =>
  (bif (ltB i (aj in_)) then
   ((idx in_ i).bind fun x =>
   (bif (ltB x 0) then
    some true
   else
    some (geB x t.States))).bind fun a =>
   (bif a then
    some (.out (.inl (0, 10)))
   else
    some (.next (aM .i64 i 1)))
  else
   some (.out (.inr ())))
def fF (t : Tree) (in_ : List Int) : Option (Int × Int) :=
 (dw t).bind fun y =>
 (bif (aN y) then
  some (0, 11)
 else
  (bif (neB (aj in_) (aj t.Hood)) then
   some (0, 2)
  else
   (ap (eH t in_) aF 0).bind fun o => match o with
    | .inl r =>
     some r
    | .inr _u =>
     (dG t in_).bind fun y1 =>
     some (y1, 0)))
def eu (t : Tree) : Option (Bool) :=
 (dw t).bind fun y =>
 (bif (aN y) then
  some false
 else
  (mkL 8 (aj t.Hood) (aj t.Hood) 0).bind fun _l =>
  (fF t (List.replicate (aj t.Hood).toNat 0)).bind fun y1 =>
  some (eqB y1.1 0))
def dD (x : Int) (y : Int) : Option (Bool) :=
 ((bif (geB x (-1048576)) then
  (bif (leB x 1048576) then
   (bif (geB y (-1048576)) then
    some (leB y 1048576)
   else
    some false)
  else
   some false)
 else
  some false)).bind fun a =>
 some a
def cD (a : Cell) (b : Cell) : Option (Bool) :=
 ((bif (ltB a.Y b.Y) then
  some true
 else
  (bif (eqB a.Y b.Y) then
   some (ltB a.X b.X)
  else
   some false))).bind fun a1 =>
 some a1
def eb (p : List Cell) (stt : Int) : Option (Lp (Int) (Bool ⊕ Unit)) := match stt with
 | i =>
  (bif (ltB i (aj p)) then
   ((idx p i).bind fun x =>
   (dD x.X x.Y).bind fun y =>
   (bif (aN y) then
    some true
   else
    (bif (ltB x.S 1) then
     some true
    else
     (bif (geB x.S 8) then
      some true
     else
      (bif (gtB i 0) then
       (idx p (aK .i64 i 1)).bind fun x1 =>
       (cD x1 x).bind fun y1 =>
       some (aN y1)
      else
       some false))))).bind fun a =>
   (bif a then
    some (.out (.inl false))
   else
    some (.next (aM .i64 i 1)))
  else
   some (.out (.inr ())))
def dz (p : List Cell) : Option (Bool) :=
 (ap (eb p) aF 0).bind fun o => match o with
  | .inl r =>
   some r
  | .inr _u =>
   some (leB (aj p) 5000)
def eG (t : Tree) (p : List Cell) (stt : Int) : Option (Lp (Int) (Int ⊕ Unit)) := match stt with
 | i =>
  (bif (ltB i (aj p)) then
   (idx p i).bind fun x =>
   (bif (geB x.S t.States) then
    some (.out (.inl 10))
   else
    some (.next (aM .i64 i 1)))
  else
   some (.out (.inr ())))
def ei (t : Tree) (p : List Cell) : Option (Int) :=
 (eu t).bind fun y =>
 (bif (aN y) then
  some 11
 else
  (dz p).bind fun y1 =>
  (bif (aN y1) then
   some 2
  else
   (ap (eG t p) aF 0).bind fun o => match o with
    | .inl r =>
     some r
    | .inr _u =>
     some 0))
def dA (p : List Cell) (stt : Int × Int × Int × Int × Int) : Option (Lp (Int × Int × Int × Int × Int) ((Int × Int × Int × Int))) := match stt with
 | (x1, y, right, bottom, i) =>
  (bif (ltB i (aj p)) then
   (idx p i).bind fun x2 =>
   some (.next ((imin x1 x2.X), (imin y x2.Y), (f5 right x2.X), (f5 bottom x2.Y), (aM .i64 i 1)))
  else
   some (.out (x1, y, right, bottom)))
def fl (p : List Cell) : Option (Box × Bool) :=
 ((bif (eqB (aj p) 0) then
  some true
 else
  (dz p).bind fun y =>
  some (aN y))).bind fun a =>
 (bif a then
  some ((⟨0, 0, 0, 0⟩ : Box), false)
 else
  (idx p 0).bind fun x =>
  (ap (dA p) aF (x.X, x.Y, x.X, x.Y, 0)).bind fun (x1, y, right, bottom) =>
  some ((⟨x1, y, (aM .i64 (aK .i64 right x1) 1), (aM .i64 (aK .i64 bottom y) 1)⟩ : Box), true))
def cv (p : List Cell) (y : Box × Bool) (stt : Int × (List Int)) : Option (Lp (Int × (List Int)) ((List Int))) := match stt with
 | (i, l1) =>
  (bif (ltB i (aj p)) then
   (idx p i).bind fun x =>
   (idx l1 (aK .i64 (aM .i64 (ej .i64 (aK .i64 x.Y y.1.Y) y.1.W) x.X) y.1.X)).bind fun _x1 =>
   some (.next ((aM .i64 i 1), (l1.set (aK .i64 (aM .i64 (ej .i64 (aK .i64 x.Y y.1.Y) y.1.W) x.X) y.1.X).toNat x.S)))
  else
   some (.out l1))
def dH (p : List Cell) : Option (cellularref20_field) :=
 (fl p).bind fun y =>
 (bif (aN (leB (ej .i64 y.1.W y.1.H) 40000)) then
  some (⟨(leB (ej .i64 y.1.W y.1.H) 40000), ⟨y.1.X, y.1.Y, y.1.W, y.1.H⟩, [], p⟩ : cellularref20_field)
 else
  (mkL 8 (ej .i64 y.1.W y.1.H) (ej .i64 y.1.W y.1.H) 0).bind fun _l =>
  (ap (cv p y) aF (0, (List.replicate (ej .i64 y.1.W y.1.H).toNat 0))).bind fun l1 =>
  some (⟨(leB (ej .i64 y.1.W y.1.H) 40000), ⟨y.1.X, y.1.Y, y.1.W, y.1.H⟩, l1, p⟩ : cellularref20_field))
def b9 (f : cellularref20_field) (n : Int) (q : Point) (stt : Int) : Option (Lp (Int) (Bool ⊕ Unit)) := match stt with
 | i =>
  (bif (ltB i n) then
   (idx f.list i).bind fun x =>
   ((bif (leB (f5 (aK .i64 q.X x.X) (ineg .i64 (aK .i64 q.X x.X))) 2) then
    some (leB (f5 (aK .i64 q.Y x.Y) (ineg .i64 (aK .i64 q.Y x.Y))) 2)
   else
    some false)).bind fun a =>
   (bif a then
    some (.out (.inl true))
   else
    some (.next (aM .i64 i 1)))
  else
   some (.out (.inr ())))
def bA (f : cellularref20_field) (n : Int) (q : Point) : Option (Bool) :=
 (ap (b9 f n q) aF 0).bind fun o => match o with
  | .inl r =>
   some r
  | .inr _u =>
   some false
def bu (f : cellularref20_field) (y : Int) (_out : List Point) (stt : Int × (List Point)) : Option (Lp (Int × (List Point)) ((List Point))) := match stt with
 | (x, out1) =>
  (bif (ltB x (aM .i64 (aM .i64 f.box.X f.box.W) 2)) then
   (fh 16 out1 [(⟨x, y⟩ : Point)]).bind fun _l =>
   some (.next ((aM .i64 x 1), (out1 ++ [(⟨x, y⟩ : Point)])))
  else
   some (.out out1))
def br (f : cellularref20_field) (stt : Int × (List Point)) : Option (Lp (Int × (List Point)) ((List Point))) := match stt with
 | (y, out) =>
  (bif (ltB y (aM .i64 (aM .i64 f.box.Y f.box.H) 2)) then
   (ap (bu f y out) aF ((aK .i64 f.box.X 2), out)).bind fun out1 =>
   some (.next ((aM .i64 y 1), out1))
  else
   some (.out out))
def bh (f : cellularref20_field) (i : Int) (_out : List Point) (y : Int) (stt : Int × (List Point)) : Option (Lp (Int × (List Point)) ((List Point))) := match stt with
 | (x, out2) =>
  (bif (leB x 2) then
   ((idx f.list i).bind fun x1 =>
   (bA f i (⟨(aM .i64 x1.X x), (aM .i64 x1.Y y)⟩ : Point)).bind fun y1 =>
   (bif (aN y1) then
    (fh 16 out2 [(⟨(aM .i64 x1.X x), (aM .i64 x1.Y y)⟩ : Point)]).bind fun _l =>
    some (out2 ++ [(⟨(aM .i64 x1.X x), (aM .i64 x1.Y y)⟩ : Point)])
   else
    some out2)).bind fun out3 =>
   some (.next ((aM .i64 x 1), out3))
  else
   some (.out out2))
def bJ (f : cellularref20_field) (i : Int) (out : List Point) (stt : Int × (List Point)) : Option (Lp (Int × (List Point)) ((List Point))) := match stt with
 | (y, out1) =>
  (bif (leB y 2) then
   (ap (bh f i out y) aF ((-2), out1)).bind fun out2 =>
   some (.next ((aM .i64 y 1), out2))
  else
   some (.out out1))
def bv (f : cellularref20_field) (stt : Int × (List Point)) : Option (Lp (Int × (List Point)) ((List Point))) := match stt with
 | (i, out) =>
  (bif (ltB i (aj f.list)) then
   (ap (bJ f i out) aF ((-2), out)).bind fun out1 =>
   some (.next ((aM .i64 i 1), out1))
  else
   some (.out out))
def cj (f : cellularref20_field) : Option (List Point) :=
 (bif f.flat then
  (ap (br f) aF ((aK .i64 f.box.Y 2), [])).bind fun out =>
  some out
 else
  (ap (bv f) aF (0, [])).bind fun out =>
  some out)
def dB (p : List Cell) (x : Int) (y : Int) (stt : Int) : Option (Lp (Int) (Int ⊕ Unit)) := match stt with
 | i =>
  (bif (ltB i (aj p)) then
   ((idx p i).bind fun x1 =>
   (bif (eqB x1.X x) then
    some (eqB x1.Y y)
   else
    some false)).bind fun a =>
   (bif a then
    (idx p i).bind fun x1 =>
    some (.out (.inl x1.S))
   else
    some (.next (aM .i64 i 1)))
  else
   some (.out (.inr ())))
def fm (p : List Cell) (x : Int) (y : Int) : Option (Int) :=
 (ap (dB p x y) aF 0).bind fun o => match o with
  | .inl r =>
   some r
  | .inr _u =>
   some 0
def cm (f : cellularref20_field) (x : Int) (y : Int) : Option (Int) :=
 (bif (aN f.flat) then
  (fm f.list x y).bind fun y1 =>
  some y1
 else
  ((bif (ltB x f.box.X) then
   some true
  else
   (bif (geB x (aM .i64 f.box.X f.box.W)) then
    some true
   else
    (bif (ltB y f.box.Y) then
     some true
    else
     some (geB y (aM .i64 f.box.Y f.box.H)))))).bind fun a =>
  (bif a then
   some 0
  else
   (idx f.cells (aK .i64 (aM .i64 (ej .i64 (aK .i64 y f.box.Y) f.box.W) x) f.box.X)).bind fun x1 =>
   some x1))
def dM (t : Tree) (f : cellularref20_field) (x : Int) (y : Int) (stt : Int × (List Int)) : Option (Lp (Int × (List Int)) ((List Int))) := match stt with
 | (i, in_) =>
  (bif (ltB i (aj t.Hood)) then
   (idx t.Hood i).bind fun x1 =>
   (cm f (aM .i64 x x1.X) (aM .i64 y x1.Y)).bind fun y1 =>
   (fh 8 in_ [y1]).bind fun _l =>
   some (.next ((aM .i64 i 1), (in_ ++ [y1])))
  else
   some (.out in_))
def eU (t : Tree) (f : cellularref20_field) (x : Int) (y : Int) : Option (Int) :=
 (ap (dM t f x y) aF (0, [])).bind fun in_ =>
 (dG t in_).bind fun y1 =>
 some y1
def ep (x : Int) (y : Int) : Option (Bool) :=
 ((bif (geB x (-1048576)) then
  (bif (leB x 1048576) then
   (bif (geB y (-1048576)) then
    some (leB y 1048576)
   else
    some false)
  else
   some false)
 else
  some false)).bind fun a =>
 some a
def cp (p : List Cell) (c : Cell) (stt : Bool × Int × (List Cell)) : Option (Lp (Bool × Int × (List Cell)) ((Bool × (List Cell)))) := match stt with
 | (done, i, out) =>
  (bif (ltB i (aj p)) then
   (((bif (aN done) then
    (idx p i).bind fun x =>
    (cD c x).bind fun y =>
    some y
   else
    some false)).bind fun a =>
   (bif a then
    (fh 24 out [c]).bind fun _l =>
    some (true, (out ++ [c]))
   else
    some (done, out))).bind fun (done1, out1) =>
   (idx p i).bind fun x =>
   (fh 24 out1 [x]).bind fun _l =>
   some (.next (done1, (aM .i64 i 1), (out1 ++ [x])))
  else
   some (.out (done, out)))
def dI (p : List Cell) (c : Cell) : Option (List Cell) :=
 (ap (cp p c) aF (false, 0, [])).bind fun (done, out) =>
 ((bif (aN done) then
  (fh 24 out [c]).bind fun _l =>
  some (out ++ [c])
 else
  some out)).bind fun out1 =>
 some out1
def d8 (l : List Cell) (stt : Int) : Option (Lp (Int) (((List Cell) × Int) ⊕ Unit)) := match stt with
 | i =>
  (bif (ltB i (aj l)) then
   (idx l i).bind fun x =>
   (dD x.X x.Y).bind fun y =>
   (bif (aN y) then
    some (.out (.inl ([], 5)))
   else
    ((bif (ltB x.S 0) then
     some true
    else
     some (geB x.S 8))).bind fun a =>
    (bif a then
     some (.out (.inl ([], 10)))
    else
     some (.next (aM .i64 i 1))))
  else
   some (.out (.inr ())))
def d6 (l : List Cell) (stt : (List Cell) × Int) : Option (Lp ((List Cell) × Int) ((List Cell))) := match stt with
 | (p, i) =>
  (bif (ltB i (aj l)) then
   ((idx l i).bind fun x =>
   (bif (neB x.S 0) then
    (dI p x).bind fun y =>
    some y
   else
    some p)).bind fun p1 =>
   some (.next (p1, (aM .i64 i 1)))
  else
   some (.out p))
def cZ (p : List Cell) (stt : Int) : Option (Lp (Int) (((List Cell) × Int) ⊕ Unit)) := match stt with
 | i =>
  (bif (ltB i (aj p)) then
   (idx p (aK .i64 i 1)).bind fun x =>
   (idx p i).bind fun x1 =>
   (cD x x1).bind fun y =>
   (bif (aN y) then
    some (.out (.inl ([], 8)))
   else
    some (.next (aM .i64 i 1)))
  else
   some (.out (.inr ())))
def eS (l : List Cell) : Option ((List Cell) × Int) :=
 (ap (d8 l) aF 0).bind fun o => match o with
  | .inl r =>
   some r
  | .inr _u =>
   (ap (d6 l) aF ([], 0)).bind fun p =>
   (ap (cZ p) aF 1).bind fun o => match o with
    | .inl r =>
     some r
    | .inr _u =>
     (bif (gtB (aj p) 5000) then
      some ([], 6)
     else
      some (p, 0))
def cF (t : Tree) (y1 : cellularref20_field) (y2 : List Point) (stt : Bool × Int × (List Cell)) : Option (Lp (Bool × Int × (List Cell)) ((Bool × (List Cell)))) := match stt with
 | (out, i, l) =>
  (bif (ltB i (aj y2)) then
   ((idx y2 i).bind fun x =>
   (eU t y1 x.X x.Y).bind fun y3 =>
   (bif (neB y3 0) then
    (fh 24 l [(⟨x.X, x.Y, y3⟩ : Cell)]).bind fun _l1 =>
    (bif out then
     some (true, (l ++ [(⟨x.X, x.Y, y3⟩ : Cell)]))
    else
     (ep x.X x.Y).bind fun y4 =>
     some ((aN y4), (l ++ [(⟨x.X, x.Y, y3⟩ : Cell)])))
   else
    some (out, l))).bind fun (out1, l1) =>
   some (.next (out1, (aM .i64 i 1), l1))
  else
   some (.out (out, l)))
def ct (t : Tree) (p : List Cell) : Option ((List Cell) × Int) :=
 (ei t p).bind fun y =>
 (bif (neB y 0) then
  some ([], y)
 else
  (dH p).bind fun y1 =>
  (cj y1).bind fun y2 =>
  (ap (cF t y1 y2) aF (false, 0, [])).bind fun (out, l) =>
  (bif out then
   some ([], 5)
  else
   (bif (gtB (aj l) 5000) then
    some ([], 6)
   else
    (eS l).bind fun y3 =>
    some (y3.1, y3.2))))
end Go.Proofs.YtdjclgfbggfpaaaGreatDoor
