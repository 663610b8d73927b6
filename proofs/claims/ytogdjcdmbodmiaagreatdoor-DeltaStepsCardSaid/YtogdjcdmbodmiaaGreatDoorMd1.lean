/- The functions, as functions of lists and numbers (made by cc.py). -/
import Derived.Test.YtogdjcdmbodmiaaGreatDoorCf
import Derived.Test.YtogdjcdmbodmiaaGreatDoorAmRg
namespace Go.Proofs.YtogdjcdmbodmiaaGreatDoor
open Go.AM Go.Proofs
def aM (a b : Change) : Int := cmpYX a.Y a.X b.Y b.X
def fromOk (l : List Cell) : Bool := decide (l.length < 1099511627776) && l.all fun c => decide (-1048576 ≤ c.X) && (decide (c.X ≤ 1048576) && (decide (-1048576 ≤ c.Y) && (decide (c.Y ≤ 1048576) && (decide (1 ≤ c.S) && decide (c.S < 8)))))
def aU (s : List UInt8) (prefix_ : List UInt8) : Option (Bool) :=
 ((bif (geB (fE s) (fE prefix_)) then
  (slcS s 0 (fE prefix_)).bind fun s1 =>
  some (eqS s1 prefix_)
 else
  some false)).bind fun a =>
 some a
def bh (s : List UInt8) (prefix_ : List UInt8) : Option ((List UInt8) × Bool) :=
 (aU s prefix_).bind fun y =>
 (bif (br y) then
  some (s, false)
 else
  (slcS s (fE prefix_) (fE s)).bind fun s1 =>
  some (s1, true))
def aY (s : List UInt8) (prefix_ : List UInt8) : Option ((List UInt8) × Bool) :=
 (bh s prefix_).bind fun y =>
 some (y.1, y.2)
def gR (s sep : List UInt8) : Option ((List UInt8) × (List UInt8) × Bool) := cutS s sep
def fb (_x : Int) (_y : Int) : Option (Bool) :=
 some true
def cy (r_ : Int) (y : Int) (stt : Int × (List Point)) : Option (Lp (Int × (List Point)) ((List Point))) := match stt with
 | (x, l1) =>
  (bif (leB x r_) then
   ((fb x y).bind fun y1 =>
   (bif y1 then
    (eF 16 l1 [(⟨x, y⟩ : Point)]).bind fun _l2 =>
    some (l1 ++ [(⟨x, y⟩ : Point)])
   else
    some l1)).bind fun l2 =>
   some (.next ((bd .i64 x 1), l2))
  else
   some (.out l1))
def cz (r_ : Int) (stt : Int × (List Point)) : Option (Lp (Int × (List Point)) ((List Point))) := match stt with
 | (y, l) =>
  (bif (leB y r_) then
   (am (cy r_ y) b3 ((ineg .i64 r_), l)).bind fun l1 =>
   some (.next ((bd .i64 y 1), l1))
  else
   some (.out l))
def bR (r_ : Int) : Option (List Point) :=
 (am (cz r_) b3 ((ineg .i64 r_), [])).bind fun l =>
 some l
def eA (r_ : Int) : Option (List Point) :=
 ((bif (ltB r_ 0) then
  some true
 else
  some (gtB r_ 2))).bind fun a =>
 (bif a then
  some []
 else
  (bR r_).bind fun y =>
  some y)
def bj (s : List UInt8) (suffix : List UInt8) : Option (Bool) :=
 ((bif (geB (fE s) (fE suffix)) then
  (slcS s (aO .i64 (fE s) (fE suffix)) (fE s)).bind fun s1 =>
  some (eqS s1 suffix)
 else
  some false)).bind fun a =>
 some a
def bk (s : List UInt8) (suffix : List UInt8) : Option ((List UInt8) × Bool) :=
 (bj s suffix).bind fun y =>
 (bif (br y) then
  some (s, false)
 else
  (slcS s 0 (aO .i64 (fE s) (fE suffix))).bind fun s1 =>
  some (s1, true))
def bG (s : List UInt8) (suffix : List UInt8) : Option ((List UInt8) × Bool) :=
 (bk s suffix).bind fun y =>
 some (y.1, y.2)
def el (l : List Int) (n : Int) (stt : Int × Int) : Option (Lp (Int × Int) (Bool ⊕ Unit)) := match stt with
 | (last, a) =>
  (bif (ltB a (ak l)) then
   (idx l a).bind fun x =>
   ((bif (leB x last) then
    some true
   else
    some (gtB x n))).bind fun a1 =>
   (bif a1 then
    some (.out (.inl false))
   else
    some (.next (x, (bd .i64 a 1))))
  else
   some (.out (.inr ())))
def cj (l : List Int) (n : Int) : Option (Bool) :=
 (am (el l n) b3 ((-1), 0)).bind fun o => match o with
  | .inl r =>
   some r
  | .inr _u =>
   some true
def eG (l : List Int) (stt : Int × (List Int)) : Option (Lp (Int × (List Int)) (((List Int) × Bool) ⊕ (List Int))) := match stt with
 | (a, out) =>
  (bif (ltB a (ak l)) then
   (idx l a).bind fun x =>
   ((bif (ltB x 48) then
    some true
   else
    some (gtB x 57))).bind fun a1 =>
   (bif a1 then
    some (.out (.inl ([], false)))
   else
    (eF 8 out [(d5 .i64 (aO .u8 x 48))]).bind fun _l1 =>
    some (.next ((bd .i64 a 1), (out ++ [(d5 .i64 (aO .u8 x 48))]))))
  else
   some (.out (.inr out)))
def db (s : List UInt8) : Option ((List Int) × Bool) :=
 (toBk s).bind fun l =>
 (am (eG l) b3 (0, [])).bind fun o => match o with
  | .inl r =>
   some r
  | .inr out =>
   (cj out 9).bind fun y =>
   some (out, y)
def bF (sv1 : List Point) (sv2 : List Point) (stt : Int) : Option (Lp (Int) (Bool ⊕ Unit)) := match stt with
 | a =>
  (bif (ltB a (ak sv1)) then
   (idx sv1 a).bind fun x =>
   (idx sv2 a).bind fun x1 =>
   (bif (br (gY (eqB x.X x1.X) (gY (eqB x.Y x1.Y) true))) then
    some (.out (.inl false))
   else
    some (.next (bd .i64 a 1)))
  else
   some (.out (.inr ())))
def b6 (sv1 : List Point) (sv2 : List Point) : Option (Bool) :=
 (bif (neB (ak sv1) (ak sv2)) then
  some false
 else
  (am (bF sv1 sv2) b3 0).bind fun o => match o with
   | .inl r =>
    some r
   | .inr _u =>
    some true)
def gK (a : List Point) (b : List Point) : Option (Bool) :=
 (b6 a b).bind fun y =>
 some y
def e8 (l : List Point) : Option ((List UInt8) × Bool) :=
 (eA 1).bind fun y =>
 (gK l y).bind fun y1 =>
 (bif y1 then
  some (([] : List UInt8), true)
 else
  none)
def cn (t : Totals) : Option (Bool) :=
 (e8 t.Hood).bind fun y =>
 ((bif y.2 then
  (bif (geB t.States 2) then
   (bif (leB t.States 8) then
    (cj t.Birth (aO .i64 (ak t.Hood) 1)).bind fun y1 =>
    (bif y1 then
     (cj t.Survive (aO .i64 (ak t.Hood) 1)).bind fun y2 =>
     some y2
    else
     some false)
   else
    some false)
  else
   some false)
 else
  some false)).bind fun a =>
 some a
def dD (s : List UInt8) : Option (Totals × Int) :=
 (aY s ([66] : List UInt8)).bind fun y =>
 (gR y.1 ([47, 83] : List UInt8)).bind fun y1 =>
 ((bif (br y.2) then
  some true
 else
  some (br y1.2.2))).bind fun a =>
 (bif a then
  some ((⟨[], 0, [], []⟩ : Totals), 15)
 else
  (eA 1).bind fun y2 =>
  (bG y1.2.1 ([86] : List UInt8)).bind fun y3 =>
  (bif y3.2 then
   none
  else
   (bG y1.2.1 ([72] : List UInt8)).bind fun y4 =>
   (bif y4.2 then
    none
   else
    (db y1.1).bind fun y5 =>
    (db y1.2.1).bind fun y6 =>
    ((bif (br y5.2) then
     some true
    else
     some (br y6.2))).bind fun a1 =>
    (bif a1 then
     some ((⟨[], 0, [], []⟩ : Totals), 15)
    else
     (cn (⟨y2, 2, y5.1, y6.1⟩ : Totals)).bind fun y7 =>
     (bif (br y7) then
      some ((⟨[], 0, [], []⟩ : Totals), 5)
     else
      some ((⟨y2, 2, y5.1, y6.1⟩ : Totals), 0))))))
def fX (s sep : List UInt8) : Option (List (List UInt8)) := splitS s sep
def dG (l : List Int) (stt : Int × (List Int)) : Option (Lp (Int × (List Int)) (((List Int) × Bool) ⊕ (List Int))) := match stt with
 | (a, out) =>
  (bif (ltB a (ak l)) then
   (idx l a).bind fun x =>
   ((bif (ltB (aO .i64 (d5 .i64 x) 48) 0) then
    some true
   else
    (bif (gtB (aO .i64 (d5 .i64 x) 48) 9) then
     some true
    else
     (bif (gtB (ak out) 0) then
      (idx out (aO .i64 (ak out) 1)).bind fun x1 =>
      some (leB (aO .i64 (d5 .i64 x) 48) x1)
     else
      some false)))).bind fun a1 =>
   (bif a1 then
    some (.out (.inl ([], false)))
   else
    (eF 8 out [(aO .i64 (d5 .i64 x) 48)]).bind fun _l1 =>
    some (.next ((bd .i64 a 1), (out ++ [(aO .i64 (d5 .i64 x) 48)]))))
  else
   some (.out (.inr out)))
def bm (s : List UInt8) : Option ((List Int) × Bool) :=
 (toBk s).bind fun l =>
 (am (dG l) b3 (0, [])).bind fun o => match o with
  | .inl r =>
   some r
  | .inr out =>
   some (out, true)
def dH (_s : List UInt8) (l : List Int) (stt : Int) : Option (Lp (Int) (Bool ⊕ Unit)) := match stt with
 | a =>
  (bif (ltB a (ak l)) then
   (idx l a).bind fun x =>
   ((bif (ltB x 48) then
    some true
   else
    some (gtB x 57))).bind fun a1 =>
   (bif a1 then
    some (.out (.inl false))
   else
    some (.next (bd .i64 a 1)))
  else
   some (.out (.inr ())))
def cu (s : List UInt8) : Option (Bool) :=
 (toBk s).bind fun l =>
 (am (dH s l) b3 0).bind fun o => match o with
  | .inl r =>
   some r
  | .inr _u =>
   ((bif (geB (fE s) 1) then
    (bif (leB (fE s) 3) then
     (idxS s 0).bind fun b =>
     some (neB b 48)
    else
     some false)
   else
    some false)).bind fun a =>
   some a
def fi (s : List UInt8) : Option (Int) := atoiM s
def cF (s : List UInt8) : Option (Totals × Int) :=
 (eA 1).bind fun y =>
 (bG s ([86] : List UInt8)).bind fun y1 =>
 (bif y1.2 then
  none
 else
  (bG s ([72] : List UInt8)).bind fun y2 =>
  (bif y2.2 then
   none
  else
   (fX s ([47] : List UInt8)).bind fun y3 =>
   (bif (neB (ak y3) 3) then
    some ((⟨[], 0, [], []⟩ : Totals), 15)
   else
    (idx y3 1).bind fun x =>
    (idx y3 0).bind fun x1 =>
    (idx y3 2).bind fun x2 =>
    (aY s ([66] : List UInt8)).bind fun y4 =>
    (bif y4.2 then
     (fX y4.1 ([47] : List UInt8)).bind fun y5 =>
     (idx y5 1).bind fun x3 =>
     (aY x3 ([83] : List UInt8)).bind fun y6 =>
     (idx y5 2).bind fun x4 =>
     (aY x4 ([67] : List UInt8)).bind fun y7 =>
     ((bif (br y6.2) then
      some true
     else
      some (br y7.2))).bind fun a =>
     (bif a then
      some ((⟨[], 0, [], []⟩ : Totals), 15)
     else
      (idx y5 0).bind fun x5 =>
      (bm x5).bind fun y8 =>
      (bm y6.1).bind fun y9 =>
      ((bif (br y8.2) then
       some true
      else
       (bif (br y9.2) then
        some true
       else
        (cu y7.1).bind fun y10 =>
        some (br y10)))).bind fun a1 =>
      (bif a1 then
       some ((⟨[], 0, [], []⟩ : Totals), 15)
      else
       (fi y7.1).bind fun y10 =>
       ((bif (ltB y10 3) then
        some true
       else
        (bif (gtB y10 8) then
         some true
        else
         (cn (⟨y, y10, y8.1, y9.1⟩ : Totals)).bind fun y11 =>
         some (br y11)))).bind fun a2 =>
       (bif a2 then
        some ((⟨[], 0, [], []⟩ : Totals), 5)
       else
        some ((⟨y, y10, y8.1, y9.1⟩ : Totals), 0))))
    else
     (bm x).bind fun y5 =>
     (bm x1).bind fun y6 =>
     ((bif (br y5.2) then
      some true
     else
      (bif (br y6.2) then
       some true
      else
       (cu x2).bind fun y7 =>
       some (br y7)))).bind fun a =>
     (bif a then
      some ((⟨[], 0, [], []⟩ : Totals), 15)
     else
      (fi x2).bind fun y7 =>
      ((bif (ltB y7 3) then
       some true
      else
       (bif (gtB y7 8) then
        some true
       else
        (cn (⟨y, y7, y5.1, y6.1⟩ : Totals)).bind fun y8 =>
        some (br y8)))).bind fun a1 =>
      (bif a1 then
       some ((⟨[], 0, [], []⟩ : Totals), 5)
      else
       some ((⟨y, y7, y5.1, y6.1⟩ : Totals), 0)))))))
def gy (s cs : List UInt8) : Option (List UInt8) := trimM s cs
def cT (s : List UInt8) : Option (Int × Bool × Bool) :=
 ((bif (eqS s ([] : List UInt8)) then
  some true
 else
  (bif (gtB (fE s) 1) then
   (idxS s 0).bind fun b =>
   (bif (eqB b 48) then
    some true
   else
    (gy s ([48, 49, 50, 51, 52, 53, 54, 55, 56, 57] : List UInt8)).bind fun y =>
    some (br (eqS y ([] : List UInt8))))
  else
   (gy s ([48, 49, 50, 51, 52, 53, 54, 55, 56, 57] : List UInt8)).bind fun y =>
   some (br (eqS y ([] : List UInt8)))))).bind fun a =>
 (bif a then
  some (0, false, false)
 else
  (fi s).bind fun y =>
  some (y, true, true))
def fv (states : Int) : Option (Int) :=
 some (aO .i64 (imul .i64 3 states) 2)
def eX (states : Int) (y : Int) (stt : Int × Int × (List Int)) : Option (Lp (Int × Int × (List Int)) ((Int × (List Int)))) := match stt with
 | (n1, a1, l) =>
  (bif (ltB a1 y) then
   (irem n1 states).bind fun n2 =>
   (eF 8 l [n2]).bind fun _l1 =>
   (iquo .i64 n1 states).bind fun n3 =>
   some (.next (n3, (bd .i64 a1 1), (l ++ [n2])))
  else
   some (.out (n1, l)))
def ey (states : Int) (n : Int) : Option ((List Int) × Int) :=
 ((bif (ltB states 2) then
  some true
 else
  some (gtB states 8))).bind fun a =>
 (bif a then
  some ([], 2)
 else
  (bif (ltB n 0) then
   some ([], 5)
  else
   (fv states).bind fun y =>
   (am (eX states y) b3 (n, 0, [])).bind fun (n1, l) =>
   (bif (gtB n1 0) then
    some ([], 5)
   else
    some (l, 0))))
def dS (s : List UInt8) : Option (Int × Int × Bool × Int) :=
 (aY s ([87] : List UInt8)).bind fun y =>
 (bif y.2 then
  (cT y.1).bind fun y1 =>
  (bif (br y1.2.1) then
   some (0, 0, false, 15)
  else
   ((bif (br y1.2.2) then
    some true
   else
    some (gtB y1.1 255))).bind fun a =>
   (bif a then
    some (0, 0, false, 5)
   else
    some (2, y1.1, false, 0)))
 else
  (aY s ([84] : List UInt8)).bind fun y1 =>
  (gR y1.1 ([47] : List UInt8)).bind fun y2 =>
  (cT y2.1).bind fun y3 =>
  (cT y2.2.1).bind fun y4 =>
  ((bif (br y1.2) then
   some true
  else
   (bif (br y2.2.2) then
    some true
   else
    (bif (br y3.2.1) then
     some true
    else
     some (br y4.2.1))))).bind fun a =>
  (bif a then
   some (0, 0, false, 15)
  else
   ((bif (br y3.2.2) then
    some true
   else
    some (br y4.2.2))).bind fun a1 =>
   (bif a1 then
    some (0, 0, false, 5)
   else
    (ey y4.1 y3.1).bind fun y5 =>
    (bif (neB y5.2 0) then
     some (0, 0, false, 5)
    else
     some (y4.1, y3.1, true, 0)))))
def cE (s : List UInt8) (prefix_ : List UInt8) : Option (Bool) :=
 (aU s prefix_).bind fun y =>
 some y
def eQ (s : List UInt8) : Option (Int) :=
 (dD s).bind fun y =>
 (bif (neB y.2 15) then
  some 1
 else
  (cF s).bind fun y1 =>
  (bif (neB y1.2 15) then
   some 2
  else
   (dS s).bind fun y2 =>
   (bif (neB y2.2.2.2 15) then
    (cE s ([87] : List UInt8)).bind fun y3 =>
    (bif y3 then
     some 3
    else
     (cE s ([84] : List UInt8)).bind fun y4 =>
     (bif y4 then
      some 4
     else
      none))
   else
    none)))
def d6 (x : Int) : Option (Bool) :=
 some (neB x x)
def bU (x : Int) (y : Int) : Option (Int) :=
 (d6 x).bind fun y1 =>
 (d6 y).bind fun y2 =>
 (bif y1 then
  (bif y2 then
   some 0
  else
   some (-1))
 else
  (bif y2 then
   some 1
  else
   (bif (ltB x y) then
    some (-1)
   else
    (bif (gtB x y) then
     some 1
    else
     some 0))))
def dA (vals : List Int) (stt : Int) : Option (Lp (Int) (Int ⊕ Unit)) := match stt with
 | a =>
  (bif (ltB a (ak vals)) then
   (idx vals a).bind fun x =>
   (bif (neB x 0) then
    some (.out (.inl x))
   else
    some (.next (bd .i64 a 1)))
  else
   some (.out (.inr ())))
def eq (vals : List Int) : Option (Int) :=
 (am (dA vals) b3 0).bind fun o => match o with
  | .inl r =>
   some r
  | .inr _u =>
   some 0
def bq (a : Point) (b : Point) : Option (Int) :=
 (bU a.Y b.Y).bind fun y =>
 (bU a.X b.X).bind fun y1 =>
 (eq [y, y1]).bind fun y2 =>
 some y2
def ec (l : List Point) (stt : Int) : Option (Lp (Int) (Bool ⊕ Unit)) := match stt with
 | a1 =>
  (bif (ltB a1 (ak l)) then
   (idx l a1).bind fun x =>
   ((bif (ltB x.X (-2)) then
    some true
   else
    (bif (gtB x.X 2) then
     some true
    else
     (bif (ltB x.Y (-2)) then
      some true
     else
      (bif (gtB x.Y 2) then
       some true
      else
       (bif (gtB a1 0) then
        (idx l (aO .i64 a1 1)).bind fun x1 =>
        (bq x1 x).bind fun y =>
        some (geB y 0)
       else
        some false)))))).bind fun a2 =>
   (bif a2 then
    some (.out (.inl false))
   else
    some (.next (bd .i64 a1 1)))
  else
   some (.out (.inr ())))
def dK (l : List Point) : Option (Bool) :=
 ((bif (ltB (ak l) 1) then
  some true
 else
  some (gtB (ak l) 25))).bind fun a =>
 (bif a then
  some false
 else
  (am (ec l) b3 0).bind fun o => match o with
   | .inl r =>
    some r
   | .inr _u =>
    some true)
def bE (s : List Point) (v : Point) (stt : Int) : Option (Lp (Int) (Int ⊕ Unit)) := match stt with
 | a =>
  (bif (ltB a (ak s)) then
   (idx s a).bind fun x =>
   (bif (gY (eqB v.X x.X) (gY (eqB v.Y x.Y) true)) then
    some (.out (.inl a))
   else
    some (.next (bd .i64 a 1)))
  else
   some (.out (.inr ())))
def b7 (s : List Point) (v : Point) : Option (Int) :=
 (am (bE s v) b3 0).bind fun o => match o with
  | .inl r =>
   some r
  | .inr _u =>
   some (-1)
def fO (l : List Point) : Option (Int) :=
 (dK l).bind fun y =>
 (bif (br y) then
  some (-1)
 else
  (b7 l (⟨0, 0⟩ : Point)).bind fun y1 =>
  some y1)
def bO (l : List Point) : Option (List Point) := eF 16 [] l
def dn (s : List Int) (v : Int) (stt : Int) : Option (Lp (Int) (Int ⊕ Unit)) := match stt with
 | a =>
  (bif (ltB a (ak s)) then
   (idx s a).bind fun x =>
   (bif (eqB v x) then
    some (.out (.inl a))
   else
    some (.next (bd .i64 a 1)))
  else
   some (.out (.inr ())))
def cL (s : List Int) (v : Int) : Option (Int) :=
 (am (dn s v) b3 0).bind fun o => match o with
  | .inl r =>
   some r
  | .inr _u =>
   some (-1)
def bC (s : List Int) (v : Int) : Option (Bool) :=
 (cL s v).bind fun y =>
 some (geB y 0)
def df (s : totaltree_sum) (a : Totals) : Option (Int) :=
 (bif (eqB s.centre 0) then
  ((bC a.Birth s.ones).bind fun y =>
  (bif y then
   some 1
  else
   some s.centre)).bind fun next =>
  some next
 else
  ((bif (eqB s.centre 1) then
   (bC a.Survive s.ones).bind fun y =>
   some y
  else
   some false)).bind fun a1 =>
  (bif a1 then
   some 1
  else
   (irem (bd .i64 s.centre 1) a.States).bind fun n =>
   some n))
def dL (s : totaltree_sum) (at_ : Int) (state : Int) (a : Int) : Option (Int × Int) :=
 ((bif (eqB at_ a) then
  some (s.ones, state)
 else
  (bif (eqB state 1) then
   some ((bd .i64 s.ones 1), s.centre)
  else
   some (s.ones, s.centre)))).bind fun (sones, scentre) =>
 some (sones, scentre)
def ct (i : Int) : Option (List UInt8) :=
 (bif (ltB i 10) then
  (slcS ([48, 49, 50, 51, 52, 53, 54, 55, 56, 57, 97, 98, 99, 100, 101, 102, 103, 104, 105, 106, 107, 108, 109, 110, 111, 112, 113, 114, 115, 116, 117, 118, 119, 120, 121, 122] : List UInt8) i (bd .i64 i 1)).bind fun s =>
  some s
 else
  (slcS ([48, 48, 48, 49, 48, 50, 48, 51, 48, 52, 48, 53, 48, 54, 48, 55, 48, 56, 48, 57, 49, 48, 49, 49, 49, 50, 49, 51, 49, 52, 49, 53, 49, 54, 49, 55, 49, 56, 49, 57, 50, 48, 50, 49, 50, 50, 50, 51, 50, 52, 50, 53, 50, 54, 50, 55, 50, 56, 50, 57, 51, 48, 51, 49, 51, 50, 51, 51, 51, 52, 51, 53, 51, 54, 51, 55, 51, 56, 51, 57, 52, 48, 52, 49, 52, 50, 52, 51, 52, 52, 52, 53, 52, 54, 52, 55, 52, 56, 52, 57, 53, 48, 53, 49, 53, 50, 53, 51, 53, 52, 53, 53, 53, 54, 53, 55, 53, 56, 53, 57, 54, 48, 54, 49, 54, 50, 54, 51, 54, 52, 54, 53, 54, 54, 54, 55, 54, 56, 54, 57, 55, 48, 55, 49, 55, 50, 55, 51, 55, 52, 55, 53, 55, 54, 55, 55, 55, 56, 55, 57, 56, 48, 56, 49, 56, 50, 56, 51, 56, 52, 56, 53, 56, 54, 56, 55, 56, 56, 56, 57, 57, 48, 57, 49, 57, 50, 57, 51, 57, 52, 57, 53, 57, 54, 57, 55, 57, 56, 57, 57] : List UInt8) (imul .i64 i 2) (bd .i64 (imul .i64 i 2) 2)).bind fun s =>
  some s)
def cb (dst : List Int) (i : Int) (base : Int) : Option (List Int) :=
 (bif (eqB base 10) then
  (bif (ltB i 100) then
   (ct (d5 .i64 i)).bind fun y =>
   (eF 1 dst (toB y)).bind fun _l =>
   some (dst ++ (toB y))
  else
   none)
 else
  none)
def cm (dst : List Int) (i : Int) (base : Int) : Option (List Int) :=
 ((bif (ltB i 0) then
  (eF 1 dst [45]).bind fun _l =>
  some ((ineg .u64 (d5 .u64 i)), (dst ++ [45]))
 else
  some ((d5 .u64 i), dst))).bind fun (u, dst1) =>
 (cb dst1 u base).bind fun y =>
 some y
def ci (dst : List Int) (i : Int) (base : Int) : Option (List Int) :=
 (cm dst i base).bind fun y =>
 some y
def aP (rcv : (totaltree_place → (List Point) → (List Point) → Int → (List Int) → (List Int) → (List (totaltree_place × Int)) → Int → Int → (List (List UInt8 × Int)) → Int → (List Point) → (List Node) → Option (Int × (List (totaltree_place × Int)) × (List (List UInt8 × Int)) × (List Node)))) (p : totaltree_place) (a : List Point) (cHood : List Point) (cStates : Int) (cBirth : List Int) (cSurvive : List Int) (a2 : Int) (cv : Int) (cStates1 : Int) (cHood1 : List Point) (_u : Unit) (stt : Int × (List Node) × (List Int) × (List Int) × (List (totaltree_place × Int)) × (List (List UInt8 × Int))) : Option (Lp (Int × (List Node) × (List Int) × (List Int) × (List (totaltree_place × Int)) × (List (List UInt8 × Int))) (((List Node) × (List Int) × (List Int) × (List (totaltree_place × Int)) × (List (List UInt8 × Int))))) := match stt with
 | (a3, l, keyv, l1, mp, mp1) =>
  (bif (ltB a3 a2) then
   (dL p.s p.at_ a3 cv).bind fun y =>
   (rcv (⟨(bd .i64 p.at_ 1), ⟨y.1, y.2⟩⟩ : totaltree_place) a cHood cStates cBirth cSurvive mp a2 cv mp1 cStates1 cHood1 l).bind fun y1 =>
   (eF 8 l1 [y1.1]).bind fun _l2 =>
   (eF 1 keyv [32]).bind fun _l3 =>
   (ci (keyv ++ [32]) y1.1 10).bind fun y2 =>
   some (.next ((bd .i64 a3 1), y1.2.2.2, y2, (l1 ++ [y1.1]), y1.2.1, y1.2.2.1))
  else
   some (.out (l, keyv, l1, mp, mp1)))
def aS (rcv : (totaltree_place → (List Point) → (List Point) → Int → (List Int) → (List Int) → (List (totaltree_place × Int)) → Int → Int → (List (List UInt8 × Int)) → Int → (List Point) → (List Node) → Option (Int × (List (totaltree_place × Int)) × (List (List UInt8 × Int)) × (List Node)))) (p : totaltree_place) (a : List Point) (cHood : List Point) (cStates : Int) (cBirth : List Int) (cSurvive : List Int) (a1 : List (totaltree_place × Int)) (a2 : Int) (cv : Int) (cv1 : List (List UInt8 × Int)) (cStates1 : Int) (cHood1 : List Point) (cNodes : List Node) : Option (Int × (List (totaltree_place × Int)) × (List (List UInt8 × Int)) × (List Node)) :=
 (bif (eqB p.at_ (ak a)) then
  (df p.s (⟨cHood, cStates, cBirth, cSurvive⟩ : Totals)).bind fun y =>
  some (y, a1, cv1, cNodes)
 else
  (kckL [p.at_, p.s.ones, p.s.centre]).bind fun u =>
  (bif (cO a1 p) then
   some ((aL a1 p 0), a1, cv1, cNodes)
  else
   (am (aP rcv p a cHood cStates cBirth cSurvive a2 cv cStates1 cHood1 u) b3 (0, cNodes, [(d5 .u8 (aO .i64 (ak a) p.at_))], [], a1, cv1)).bind fun (l, keyv, l1, mp, mp1) =>
   (kckS (ofBytes keyv)).bind fun _u1 =>
   ((bif (br (cO mp1 (ofBytes keyv))) then
    (eF 32 l [(⟨(aO .i64 (ak a) p.at_), l1⟩ : Node)]).bind fun _l2 =>
    some ((ak l), (bD mp1 (ofBytes keyv) (ak l)), (l ++ [(⟨(aO .i64 (ak a) p.at_), l1⟩ : Node)]))
   else
    some ((aL mp1 (ofBytes keyv) 0), mp1, l))).bind fun (idv, mp2, l2) =>
   some (idv, (bD mp p idv), mp2, l2)))
def bw (p : totaltree_place) (a : List Point) (cHood : List Point) (cStates : Int) (cBirth : List Int) (cSurvive : List Int) (a1 : List (totaltree_place × Int)) (a2 : Int) (cv : Int) (cv1 : List (List UInt8 × Int)) (cStates1 : Int) (cHood1 : List Point) (cNodes : List Node) : Option (Int × (List (totaltree_place × Int)) × (List (List UInt8 × Int)) × (List Node)) := recN aS (fun _ _ _ _ _ _ _ _ _ _ _ _ _ => none) recF p a cHood cStates cBirth cSurvive a1 a2 cv cv1 cStates1 cHood1 cNodes
def av (states : Int) (l : List Point) (start : totaltree_sum) (cv : Int) (cHood : List Point) (cStates : Int) (cBirth : List Int) (cSurvive : List Int) : Option (List Node) :=
 (bw (⟨0, ⟨start.ones, start.centre⟩⟩ : totaltree_place) l cHood cStates cBirth cSurvive [] states cv [] states l []).bind fun y =>
 some y.2.2.2
def cX (x : Totals) : Option (Tree × Int) :=
 (cn x).bind fun y =>
 (bif (br y) then
  some ((⟨0, [], []⟩ : Tree), 2)
 else
  (fO x.Hood).bind fun y1 =>
  (bO x.Hood).bind fun y2 =>
  (av x.States y2 (⟨0, 0⟩ : totaltree_sum) y1 x.Hood x.States x.Birth x.Survive).bind fun y3 =>
  some ((⟨x.States, y2, y3⟩ : Tree), 0))
def dO (n : Int) (stt : Int × (List Int)) : Option (Lp (Int × (List Int)) ((List Int))) := match stt with
 | (a1, l) =>
  (bif (ltB a1 8) then
   (ishr .i64 n a1).bind fun n1 =>
   (aidx 8 l a1).bind fun _x =>
   some (.next ((bd .i64 a1 1), (l.set a1.toNat (iand .i64 n1 1))))
  else
   some (.out l))
def da (n : Int) : Option ((Int × Int × Int × Int × Int × Int × Int × Int) × Int) :=
 ((bif (ltB n 0) then
  some true
 else
  some (gtB n 255))).bind fun a =>
 (bif a then
  (arr8 [0, 0, 0, 0, 0, 0, 0, 0]).bind fun arr =>
  some (arr, 5)
 else
  (am (dO n) b3 (0, [0, 0, 0, 0, 0, 0, 0, 0])).bind fun l =>
  (arr8 l).bind fun arr =>
  some (arr, 0))
def eR : Option (List Point) :=
 some [(⟨(-1), 0⟩ : Point), (⟨0, 0⟩ : Point), (⟨1, 0⟩ : Point)]
def cW (i : Int) (av1 : Int) (av21 : Int) (av221 : Int) (av2221 : Int) (av22221 : Int) (av222221 : Int) (av2222221 : Int) (av2222222 : Int) : Option (Int) :=
 (aidx 8 [av1, av21, av221, av2221, av22221, av222221, av2222221, av2222222] i).bind fun x =>
 some x
def bL (i : Int) (_at_ : Int) (state : Int) : Option (Int) :=
 some (bd .i64 (imul .i64 2 i) state)
def cM (i : Int) (a : List Int) : Option (Int) :=
 (aidx 8 a i).bind fun x =>
 some x
def b5 (rcv : (totaltree_place190 → (List Point) → (List Int) → (List (totaltree_place190 × Int)) → Int → (List (List UInt8 × Int)) → Int → (List Point) → (List Node) → Option (Int × (List (totaltree_place190 × Int)) × (List (List UInt8 × Int)) × (List Node)))) (p : totaltree_place190) (a : List Point) (arr : List Int) (a2 : Int) (cStates : Int) (cHood : List Point) (_u : Unit) (stt : Int × (List Node) × (List Int) × (List Int) × (List (totaltree_place190 × Int)) × (List (List UInt8 × Int))) : Option (Lp (Int × (List Node) × (List Int) × (List Int) × (List (totaltree_place190 × Int)) × (List (List UInt8 × Int))) (((List Node) × (List Int) × (List Int) × (List (totaltree_place190 × Int)) × (List (List UInt8 × Int))))) := match stt with
 | (a3, l, keyv, l1, mp, mp1) =>
  (bif (ltB a3 a2) then
   (bL p.s p.at_ a3).bind fun y =>
   (rcv (⟨(bd .i64 p.at_ 1), y⟩ : totaltree_place190) a arr mp a2 mp1 cStates cHood l).bind fun y1 =>
   (eF 8 l1 [y1.1]).bind fun _l2 =>
   (eF 1 keyv [32]).bind fun _l3 =>
   (ci (keyv ++ [32]) y1.1 10).bind fun y2 =>
   some (.next ((bd .i64 a3 1), y1.2.2.2, y2, (l1 ++ [y1.1]), y1.2.1, y1.2.2.1))
  else
   some (.out (l, keyv, l1, mp, mp1)))
def bb (rcv : (totaltree_place190 → (List Point) → (List Int) → (List (totaltree_place190 × Int)) → Int → (List (List UInt8 × Int)) → Int → (List Point) → (List Node) → Option (Int × (List (totaltree_place190 × Int)) × (List (List UInt8 × Int)) × (List Node)))) (p : totaltree_place190) (a : List Point) (arr : List Int) (a1 : List (totaltree_place190 × Int)) (a2 : Int) (cv : List (List UInt8 × Int)) (cStates : Int) (cHood : List Point) (cNodes : List Node) : Option (Int × (List (totaltree_place190 × Int)) × (List (List UInt8 × Int)) × (List Node)) :=
 (bif (eqB p.at_ (ak a)) then
  (cM p.s arr).bind fun y =>
  some (y, a1, cv, cNodes)
 else
  (kckL [p.at_, p.s]).bind fun u =>
  (bif (cO a1 p) then
   some ((aL a1 p 0), a1, cv, cNodes)
  else
   (am (b5 rcv p a arr a2 cStates cHood u) b3 (0, cNodes, [(d5 .u8 (aO .i64 (ak a) p.at_))], [], a1, cv)).bind fun (l, keyv, l1, mp, mp1) =>
   (kckS (ofBytes keyv)).bind fun _u1 =>
   ((bif (br (cO mp1 (ofBytes keyv))) then
    (eF 32 l [(⟨(aO .i64 (ak a) p.at_), l1⟩ : Node)]).bind fun _l2 =>
    some ((ak l), (bD mp1 (ofBytes keyv) (ak l)), (l ++ [(⟨(aO .i64 (ak a) p.at_), l1⟩ : Node)]))
   else
    some ((aL mp1 (ofBytes keyv) 0), mp1, l))).bind fun (idv, mp2, l2) =>
   some (idv, (bD mp p idv), mp2, l2)))
def ch (p : totaltree_place190) (a : List Point) (arr : List Int) (a1 : List (totaltree_place190 × Int)) (a2 : Int) (cv : List (List UInt8 × Int)) (cStates : Int) (cHood : List Point) (cNodes : List Node) : Option (Int × (List (totaltree_place190 × Int)) × (List (List UInt8 × Int)) × (List Node)) := recN bb (fun _ _ _ _ _ _ _ _ _ => none) recF p a arr a1 a2 cv cStates cHood cNodes
def b8 (p : totaltree_place190) (a : List Point) (cv1 : Int) (cv21 : Int) (cv221 : Int) (cv2221 : Int) (cv22221 : Int) (cv222221 : Int) (cv2222221 : Int) (cv2222222 : Int) (a2 : Int) (cStates : Int) (cHood : List Point) (_u : Unit) (stt : Int × (List Node) × (List Int) × (List Int) × (List (totaltree_place190 × Int)) × (List (List UInt8 × Int))) : Option (Lp (Int × (List Node) × (List Int) × (List Int) × (List (totaltree_place190 × Int)) × (List (List UInt8 × Int))) (((List Node) × (List Int) × (List Int) × (List (totaltree_place190 × Int)) × (List (List UInt8 × Int))))) := match stt with
 | (a3, l, keyv, l1, mp, mp1) =>
  (bif (ltB a3 a2) then
   (bL p.s p.at_ a3).bind fun y =>
   (ch (⟨(bd .i64 p.at_ 1), y⟩ : totaltree_place190) a [cv1, cv21, cv221, cv2221, cv22221, cv222221, cv2222221, cv2222222] mp a2 mp1 cStates cHood l).bind fun y1 =>
   (eF 8 l1 [y1.1]).bind fun _l2 =>
   (eF 1 keyv [32]).bind fun _l3 =>
   (ci (keyv ++ [32]) y1.1 10).bind fun y2 =>
   some (.next ((bd .i64 a3 1), y1.2.2.2, y2, (l1 ++ [y1.1]), y1.2.1, y1.2.2.1))
  else
   some (.out (l, keyv, l1, mp, mp1)))
def bg (_rcv : (totaltree_place190 → (List Point) → Int → Int → Int → Int → Int → Int → Int → Int → (List (totaltree_place190 × Int)) → Int → (List (List UInt8 × Int)) → Int → (List Point) → (List Node) → Option (Int × (List (totaltree_place190 × Int)) × (List (List UInt8 × Int)) × (List Node)))) (p : totaltree_place190) (a : List Point) (cv1 : Int) (cv21 : Int) (cv221 : Int) (cv2221 : Int) (cv22221 : Int) (cv222221 : Int) (cv2222221 : Int) (cv2222222 : Int) (a1 : List (totaltree_place190 × Int)) (a2 : Int) (cv : List (List UInt8 × Int)) (cStates : Int) (cHood : List Point) (cNodes : List Node) : Option (Int × (List (totaltree_place190 × Int)) × (List (List UInt8 × Int)) × (List Node)) :=
 (bif (eqB p.at_ (ak a)) then
  (cW p.s cv1 cv21 cv221 cv2221 cv22221 cv222221 cv2222221 cv2222222).bind fun y =>
  some (y, a1, cv, cNodes)
 else
  (kckL [p.at_, p.s]).bind fun u =>
  (bif (cO a1 p) then
   some ((aL a1 p 0), a1, cv, cNodes)
  else
   (am (b8 p a cv1 cv21 cv221 cv2221 cv22221 cv222221 cv2222221 cv2222222 a2 cStates cHood u) b3 (0, cNodes, [(d5 .u8 (aO .i64 (ak a) p.at_))], [], a1, cv)).bind fun (l, keyv, l1, mp, mp1) =>
   (kckS (ofBytes keyv)).bind fun _u1 =>
   ((bif (br (cO mp1 (ofBytes keyv))) then
    (eF 32 l [(⟨(aO .i64 (ak a) p.at_), l1⟩ : Node)]).bind fun _l2 =>
    some ((ak l), (bD mp1 (ofBytes keyv) (ak l)), (l ++ [(⟨(aO .i64 (ak a) p.at_), l1⟩ : Node)]))
   else
    some ((aL mp1 (ofBytes keyv) 0), mp1, l))).bind fun (idv, mp2, l2) =>
   some (idv, (bD mp p idv), mp2, l2)))
def cq (p : totaltree_place190) (a : List Point) (cv1 : Int) (cv21 : Int) (cv221 : Int) (cv2221 : Int) (cv22221 : Int) (cv222221 : Int) (cv2222221 : Int) (cv2222222 : Int) (a1 : List (totaltree_place190 × Int)) (a2 : Int) (cv : List (List UInt8 × Int)) (cStates : Int) (cHood : List Point) (cNodes : List Node) : Option (Int × (List (totaltree_place190 × Int)) × (List (List UInt8 × Int)) × (List Node)) := recN bg (fun _ _ _ _ _ _ _ _ _ _ _ _ _ _ _ _ => none) recF p a cv1 cv21 cv221 cv2221 cv22221 cv222221 cv2222221 cv2222222 a1 a2 cv cStates cHood cNodes
def az (states : Int) (l : List Point) (start : Int) (cv1 : Int) (cv21 : Int) (cv221 : Int) (cv2221 : Int) (cv22221 : Int) (cv222221 : Int) (cv2222221 : Int) (cv2222222 : Int) : Option (List Node) :=
 (cq (⟨0, start⟩ : totaltree_place190) l cv1 cv21 cv221 cv2221 cv22221 cv222221 cv2222221 cv2222222 [] states [] states l []).bind fun y =>
 some y.2.2.2
def cN (n : Int) : Option (Tree × Int) :=
 (da n).bind fun y =>
 (bif (neB y.2 0) then
  some ((⟨0, [], []⟩ : Tree), y.2)
 else
  (eR).bind fun y1 =>
  (az 2 y1 0 y.1.1 y.1.2.1 y.1.2.2.1 y.1.2.2.2.1 y.1.2.2.2.2.1 y.1.2.2.2.2.2.1 y.1.2.2.2.2.2.2.1 y.1.2.2.2.2.2.2.2).bind fun y2 =>
  some ((⟨2, y1, y2⟩ : Tree), 0))
def dt (s : List UInt8) : Option (Tree × Int) :=
 (eQ s).bind fun y =>
 ((bif (eqB y 1) then
  some (eqB y 1)
 else
  some (eqB y 2))).bind fun a =>
 (bif a then
  (bif (eqB y 2) then
   (cF s).bind fun y1 =>
   (bif (neB y1.2 0) then
    some ((⟨0, [], []⟩ : Tree), y1.2)
   else
    (cX y1.1).bind fun y2 =>
    some (y2.1, y2.2))
  else
   (dD s).bind fun y1 =>
   (bif (neB y1.2 0) then
    some ((⟨0, [], []⟩ : Tree), y1.2)
   else
    (cX y1.1).bind fun y2 =>
    some (y2.1, y2.2)))
 else
  ((bif (eqB y 3) then
   some (eqB y 3)
  else
   some (eqB y 4))).bind fun a1 =>
  (bif a1 then
   (dS s).bind fun y1 =>
   (bif (neB y1.2.2.2 0) then
    some ((⟨0, [], []⟩ : Tree), y1.2.2.2)
   else
    (bif (eqB y 3) then
     (cN y1.2.1).bind fun y2 =>
     some (y2.1, y2.2)
    else
     none))
  else
   (bif (eqB y 5) then
    none
   else
    some ((⟨0, [], []⟩ : Tree), 7))))
def dx (t : Tree) (a1 : Int) (x : Node) (stt : Int) : Option (Lp (Int) (Bool ⊕ Unit)) := match stt with
 | a3 =>
  (bif (ltB a3 (ak x.Next)) then
   (idx x.Next a3).bind fun x1 =>
   ((bif (ltB x1 0) then
    some true
   else
    (bif (eqB x.Level 1) then
     (bif (geB x1 t.States) then
      some true
     else
      (bif (gtB x.Level 1) then
       (bif (geB x1 a1) then
        some true
       else
        (idx t.Nodes x1).bind fun x2 =>
        some (neB x2.Level (aO .i64 x.Level 1)))
      else
       some false))
    else
     (bif (gtB x.Level 1) then
      (bif (geB x1 a1) then
       some true
      else
       (idx t.Nodes x1).bind fun x2 =>
       some (neB x2.Level (aO .i64 x.Level 1)))
     else
      some false)))).bind fun a4 =>
   (bif a4 then
    some (.out (.inl false))
   else
    some (.next (bd .i64 a3 1)))
  else
   some (.out (.inr ())))
def dw (t : Tree) (stt : Int) : Option (Lp (Int) (Bool ⊕ Unit)) := match stt with
 | a1 =>
  (bif (ltB a1 (ak t.Nodes)) then
   (idx t.Nodes a1).bind fun x =>
   ((bif (ltB x.Level 1) then
    some true
   else
    (bif (gtB x.Level (ak t.Hood)) then
     some true
    else
     some (neB (ak x.Next) t.States)))).bind fun a2 =>
   (bif a2 then
    some (.out (.inl false))
   else
    (am (dx t a1 x) b3 0).bind fun o => match o with
     | .inl r =>
      some (.out (.inl r))
     | .inr _u =>
      some (.next (bd .i64 a1 1)))
  else
   some (.out (.inr ())))
def ep (t : Tree) : Option (Bool) :=
 ((bif (ltB t.States 2) then
  some true
 else
  (bif (gtB t.States 8) then
   some true
  else
   (dK t.Hood).bind fun y =>
   (bif (br y) then
    some true
   else
    (bif (ltB (ak t.Nodes) 1) then
     some true
    else
     (bif (gtB (ak t.Nodes) 4096) then
      some true
     else
      (idx t.Nodes (aO .i64 (ak t.Nodes) 1)).bind fun x =>
      some (neB x.Level (ak t.Hood)))))))).bind fun a =>
 (bif a then
  some false
 else
  (am (dw t) b3 0).bind fun o => match o with
   | .inl r =>
    some r
   | .inr _u =>
    some true)
def du (t : Tree) (in_ : List Int) (stt : Int × Int) : Option (Lp (Int × Int) (Int)) := match stt with
 | (k, a) =>
  (bif (ltB a (ak in_)) then
   (idx in_ a).bind fun x =>
   (idx t.Nodes k).bind fun x1 =>
   (idx x1.Next x).bind fun x2 =>
   some (.next (x2, (bd .i64 a 1)))
  else
   some (.out k))
def ew (t : Tree) (in_ : List Int) : Option (Int) :=
 (am (du t in_) b3 ((aO .i64 (ak t.Nodes) 1), 0)).bind fun k =>
 some k
def er (t : Tree) : Option (Bool) :=
 ((ep t).bind fun y =>
 (bif y then
  (mkL 8 (ak t.Hood) (ak t.Hood) 0).bind fun _l =>
  (ew t (List.replicate (ak t.Hood).toNat 0)).bind fun y1 =>
  some (eqB y1 0)
 else
  some false)).bind fun a =>
 some a
def bi (cv : Cell) : Option (Point) :=
 some (⟨cv.X, cv.Y⟩ : Point)
def ck (p : Point) : Option (Bool) :=
 ((bif (leB (imax p.X p.Y) 1048576) then
  some (geB (imin p.X p.Y) (-1048576))
 else
  some false)).bind fun a =>
 some a
def ca (a : Cell) (b : Cell) : Option (Int) :=
 (bi a).bind fun y =>
 (bi b).bind fun y1 =>
 (bq y y1).bind fun y2 =>
 some y2
def dh (p : List Cell) (stt : Int) : Option (Lp (Int) (Bool ⊕ Unit)) := match stt with
 | a =>
  (bif (ltB a (ak p)) then
   (idx p a).bind fun x =>
   ((bi x).bind fun y =>
   (ck y).bind fun y1 =>
   (bif (br y1) then
    some true
   else
    (bif (ltB x.S 1) then
     some true
    else
     (bif (geB x.S 8) then
      some true
     else
      (bif (gtB a 0) then
       (idx p (aO .i64 a 1)).bind fun x1 =>
       (ca x1 x).bind fun y2 =>
       some (geB y2 0)
      else
       some false))))).bind fun a1 =>
   (bif a1 then
    some (.out (.inl false))
   else
    some (.next (bd .i64 a 1)))
  else
   some (.out (.inr ())))
def bp (p : List Cell) : Option (Bool) :=
 (bif (gtB (ak p) 5000) then
  some false
 else
  (am (dh p) b3 0).bind fun o => match o with
   | .inl r =>
    some r
   | .inr _u =>
    some true)
def d7 (p : List Cell) (stt : Int × Int) : Option (Lp (Int × Int) (Int)) := match stt with
 | (n, a) =>
  (bif (ltB a (ak p)) then
   (idx p a).bind fun x =>
   some (.next ((imax n x.S), (bd .i64 a 1)))
  else
   some (.out n))
def dU (p : List Cell) : Option (Int) :=
 (am (d7 p) b3 (0, 0)).bind fun n =>
 some n
def cV (t : Tree) (p : List Cell) : Option (Int) :=
 (er t).bind fun y =>
 (bif (br y) then
  some 11
 else
  (bp p).bind fun y1 =>
  (bif (br y1) then
   some 2
  else
   (dU p).bind fun y2 =>
   (bif (geB y2 t.States) then
    some 10
   else
    some 0)))
def dW (p : List Cell) (stt : Int × (List (Point × Int))) : Option (Lp (Int × (List (Point × Int))) ((List (Point × Int)))) := match stt with
 | (a, m) =>
  (bif (ltB a (ak p)) then
   (idx p a).bind fun x =>
   (kckL [x.X, x.Y]).bind fun _u =>
   some (.next ((bd .i64 a 1), (bD m (⟨x.X, x.Y⟩ : Point) x.S)))
  else
   some (.out m))
def fP (p : List Cell) : Option (List (Point × Int)) :=
 (am (dW p) b3 (0, [])).bind fun m =>
 some m
def bl (m : List (Point × Int)) (t : Tree) (p : Point) (stt : Int × Int) : Option (Lp (Int × Int) (Int)) := match stt with
 | (k, a) =>
  (bif (ltB a (ak t.Hood)) then
   (idx t.Hood a).bind fun x =>
   (idx t.Nodes k).bind fun x1 =>
   (kckL [(bd .i64 p.X x.X), (bd .i64 p.Y x.Y)]).bind fun _u =>
   (idx x1.Next (aL m (⟨(bd .i64 p.X x.X), (bd .i64 p.Y x.Y)⟩ : Point) 0)).bind fun x2 =>
   some (.next (x2, (bd .i64 a 1)))
  else
   some (.out k))
def ce (m : List (Point × Int)) (t : Tree) (p : Point) : Option (Int) :=
 (am (bl m t p) b3 ((aO .i64 (ak t.Nodes) 1), 0)).bind fun k =>
 some k
def eh (p : Point) : Option (Bool) :=
 ((bif (leB (imax p.X p.Y) 1048576) then
  some (geB (imin p.X p.Y) (-1048576))
 else
  some false)).bind fun a =>
 some a
def al (l : List Cell) : Option (List Cell) := gM aA l
def cp (l : List Cell) (stt : Int × (List Cell)) : Option (Lp (Int × (List Cell)) (((List Cell) × Int) ⊕ (List Cell))) := match stt with
 | (a, out) =>
  (bif (ltB a (ak l)) then
   (idx l a).bind fun x =>
   (bi x).bind fun y =>
   (ck y).bind fun y1 =>
   (bif (br y1) then
    some (.out (.inl ([], 5)))
   else
    ((bif (ltB x.S 0) then
     some true
    else
     some (geB x.S 8))).bind fun a1 =>
    (bif a1 then
     some (.out (.inl ([], 10)))
    else
     (bif (gtB x.S 0) then
      (eF 24 out [x]).bind fun _l1 =>
      some (.next ((bd .i64 a 1), (out ++ [x])))
     else
      some (.next ((bd .i64 a 1), out)))))
  else
   some (.out (.inr out)))
def co (_out : List Cell) (y : List Cell) (stt : Int) : Option (Lp (Int) (((List Cell) × Int) ⊕ Unit)) := match stt with
 | i =>
  (bif (ltB i (ak y)) then
   (idx y (aO .i64 i 1)).bind fun x =>
   (bi x).bind fun y1 =>
   (idx y i).bind fun x1 =>
   (bi x1).bind fun y2 =>
   (bif (gY (eqB y1.X y2.X) (gY (eqB y1.Y y2.Y) true)) then
    some (.out (.inl ([], 8)))
   else
    some (.next (bd .i64 i 1)))
  else
   some (.out (.inr ())))
def ba (l : List Cell) : Option ((List Cell) × Int) :=
 (am (cp l) b3 (0, [])).bind fun o => match o with
  | .inl r =>
   some r
  | .inr out =>
   (al out).bind fun y =>
   (am (co out y) b3 1).bind fun o => match o with
    | .inl r =>
     some r
    | .inr _u =>
     (bif (gtB (ak y) 5000) then
      some ([], 6)
     else
      some (y, 0))
def b9 (t : Tree) (_p : List Cell) (y : List (Point × Int)) (_a : Int) (x : Cell) (stt : Int × (List (Point × Bool)) × (List Cell)) : Option (Lp (Int × (List (Point × Bool)) × (List Cell)) (((List Cell) × Int) ⊕ ((List (Point × Bool)) × (List Cell)))) := match stt with
 | (a1, done1, l1) =>
  (bif (ltB a1 (ak t.Hood)) then
   (idx t.Hood a1).bind fun x1 =>
   (kckL [(aO .i64 x.X x1.X), (aO .i64 x.Y x1.Y)]).bind fun _u =>
   (bif (aL done1 (⟨(aO .i64 x.X x1.X), (aO .i64 x.Y x1.Y)⟩ : Point) false) then
    some (.next ((bd .i64 a1 1), done1, l1))
   else
    (ce y t (⟨(aO .i64 x.X x1.X), (aO .i64 x.Y x1.Y)⟩ : Point)).bind fun y1 =>
    (bif (gtB y1 0) then
     (eh (⟨(aO .i64 x.X x1.X), (aO .i64 x.Y x1.Y)⟩ : Point)).bind fun y2 =>
     (bif (br y2) then
      some (.out (.inl ([], 5)))
     else
      (eF 24 l1 [(⟨(aO .i64 x.X x1.X), (aO .i64 x.Y x1.Y), y1⟩ : Cell)]).bind fun _l2 =>
      some (.next ((bd .i64 a1 1), (bD done1 (⟨(aO .i64 x.X x1.X), (aO .i64 x.Y x1.Y)⟩ : Point) true), (l1 ++ [(⟨(aO .i64 x.X x1.X), (aO .i64 x.Y x1.Y), y1⟩ : Cell)]))))
    else
     some (.next ((bd .i64 a1 1), (bD done1 (⟨(aO .i64 x.X x1.X), (aO .i64 x.Y x1.Y)⟩ : Point) true), l1))))
  else
   some (.out (.inr (done1, l1))))
def bM (t : Tree) (p : List Cell) (y : List (Point × Int)) (stt : Int × (List (Point × Bool)) × (List Cell)) : Option (Lp (Int × (List (Point × Bool)) × (List Cell)) (((List Cell) × Int) ⊕ (List Cell))) := match stt with
 | (a, done, l) =>
  (bif (ltB a (ak p)) then
   (idx p a).bind fun x =>
   (am (b9 t p y a x) b3 (0, done, l)).bind fun o => match o with
    | .inl r =>
     some (.out (.inl r))
    | .inr (done1, l1) =>
     some (.next ((bd .i64 a 1), done1, l1))
  else
   some (.out (.inr l)))
def dV (t : Tree) (p : List Cell) : Option ((List Cell) × Int) :=
 (fP p).bind fun y =>
 (am (bM t p y) b3 (0, [], [])).bind fun o => match o with
  | .inl r =>
   some r
  | .inr l =>
   (ba l).bind fun y1 =>
   some (y1.1, y1.2)
def bS (t : Tree) (p : List Cell) : Option ((List Cell) × Int) :=
 (cV t p).bind fun y =>
 (bif (neB y 0) then
  some ([], y)
 else
  (dV t p).bind fun y1 =>
  some (y1.1, y1.2))
def d8 (p : List Cell) (stt : Int × (List (Point × Int))) : Option (Lp (Int × (List (Point × Int))) ((List (Point × Int)))) := match stt with
 | (a, m) =>
  (bif (ltB a (ak p)) then
   (idx p a).bind fun x =>
   (kckL [x.X, x.Y]).bind fun _u =>
   some (.next ((bd .i64 a 1), (bD m (⟨x.X, x.Y⟩ : Point) x.S)))
  else
   some (.out m))
def dY (p : List Cell) : Option (List (Point × Int)) :=
 (am (d8 p) b3 (0, [])).bind fun m =>
 some m
def cU (cv : Change) : Option (Point) :=
 some (⟨cv.X, cv.Y⟩ : Point)
def di (a : Change) (b : Change) : Option (Int) :=
 (cU a).bind fun y =>
 (cU b).bind fun y1 =>
 (bq y y1).bind fun y2 =>
 some y2
def aj (l : List Change) : Option (List Change) := gM aM l
def dM (b : List Cell) (stt : Int × (List (Point × Int)) × (List Change)) : Option (Lp (Int × (List (Point × Int)) × (List Change)) (((List (Point × Int)) × (List Change)))) := match stt with
 | (a2, old, out) =>
  (bif (ltB a2 (ak b)) then
   (idx b a2).bind fun x =>
   ((kckL [x.X, x.Y]).bind fun _u =>
   (bif (neB (aL old (⟨x.X, x.Y⟩ : Point) 0) x.S) then
    (eF 32 out [(⟨x.X, x.Y, (aL old (⟨x.X, x.Y⟩ : Point) 0), x.S⟩ : Change)]).bind fun _l =>
    some (out ++ [(⟨x.X, x.Y, (aL old (⟨x.X, x.Y⟩ : Point) 0), x.S⟩ : Change)])
   else
    some out)).bind fun out1 =>
   (kckL [x.X, x.Y]).bind fun _u =>
   some (.next ((bd .i64 a2 1), (eE old (⟨x.X, x.Y⟩ : Point)), out1))
  else
   some (.out (old, out)))
def ig (_old : List (Point × Int)) (y1 : Point × Int) (out1 : List Change) : Option (List Change) :=
 (eF 32 out1 [(⟨y1.1.X, y1.1.Y, y1.2, 0⟩ : Change)]).bind fun _l =>
 some (out1 ++ [(⟨y1.1.X, y1.1.Y, y1.2, 0⟩ : Change)])
def bV (_old : List (Point × Int)) (y1 : Point × Int) : List Change := [(⟨y1.1.X, y1.1.Y, y1.2, 0⟩ : Change)]
def ei (a : List Cell) (b : List Cell) : Option ((List Change) × Int) :=
 ((bp a).bind fun y =>
 (bif (br y) then
  some true
 else
  (bp b).bind fun y1 =>
  some (br y1))).bind fun a1 =>
 (bif a1 then
  some ([], 2)
 else
  (dY a).bind fun y =>
  (am (dM b) b3 (0, y, [])).bind fun (old, out) =>
  (colL 32 (fun _ => true) (bV old) old out).bind fun out2 =>
  (aj out2).bind fun y1 =>
  some (y1, 0))
def dj (s : Int) : Option (Bool) :=
 ((bif (geB s 0) then
  some (ltB s 8)
 else
  some false)).bind fun a =>
 some a
def d9 (l : List Change) (stt : Int) : Option (Lp (Int) (Bool ⊕ Unit)) := match stt with
 | a =>
  (bif (ltB a (ak l)) then
   (idx l a).bind fun x =>
   ((bif (gtB (imax x.X x.Y) 1048576) then
    some true
   else
    (bif (ltB (imin x.X x.Y) (-1048576)) then
     some true
    else
     (dj x.From).bind fun y =>
     (bif (br y) then
      some true
     else
      (dj x.To).bind fun y1 =>
      (bif (br y1) then
       some true
      else
       (bif (eqB x.From x.To) then
        some true
       else
        (bif (gtB a 0) then
         (idx l (aO .i64 a 1)).bind fun x1 =>
         (di x1 x).bind fun y2 =>
         some (geB y2 0)
        else
         some false))))))).bind fun a1 =>
   (bif a1 then
    some (.out (.inl false))
   else
    some (.next (bd .i64 a 1)))
  else
   some (.out (.inr ())))
def bo (l : List Change) : Option (Bool) :=
 (bif (gtB (ak l) 10000) then
  some false
 else
  (am (d9 l) b3 0).bind fun o => match o with
   | .inl r =>
    some r
   | .inr _u =>
    some true)
def cB (l : List Change) (stt : Int × (List (Point × Int))) : Option (Lp (Int × (List (Point × Int))) (((List Cell) × Int) ⊕ (List (Point × Int)))) := match stt with
 | (a1, states) =>
  (bif (ltB a1 (ak l)) then
   (idx l a1).bind fun x =>
   (cU x).bind fun y1 =>
   (kckL [y1.X, y1.Y]).bind fun _u =>
   (bif (neB (aL states y1 0) x.From) then
    some (.out (.inl ([], 17)))
   else
    (bif (eqB x.To 0) then
     some (.next ((bd .i64 a1 1), (eE (bD states y1 x.To) y1)))
    else
     some (.next ((bd .i64 a1 1), (bD states y1 x.To)))))
  else
   some (.out (.inr states)))
def fZ (_states : List (Point × Int)) (y1 : Point × Int) (out : List Cell) : Option (List Cell) :=
 (eF 24 out [(⟨y1.1.X, y1.1.Y, y1.2⟩ : Cell)]).bind fun _l1 =>
 some (out ++ [(⟨y1.1.X, y1.1.Y, y1.2⟩ : Cell)])
def cD (_states : List (Point × Int)) (y1 : Point × Int) : List Cell := [(⟨y1.1.X, y1.1.Y, y1.2⟩ : Cell)]
def cQ (p : List Cell) (l : List Change) : Option ((List Cell) × Int) :=
 ((bp p).bind fun y =>
 (bif (br y) then
  some true
 else
  (bo l).bind fun y1 =>
  some (br y1))).bind fun a =>
 (bif a then
  some ([], 2)
 else
  (dY p).bind fun y =>
  (am (cB l) b3 (0, y)).bind fun o => match o with
   | .inl r =>
    some r
   | .inr states =>
    (colL 24 fromOk (cD states) states []).bind fun out1 =>
    (ba out1).bind fun y1 =>
    some (y1.1, y1.2))
def fg (l : List Change) (stt : Int × (List (Point × Change))) : Option (Lp (Int × (List (Point × Change))) ((List (Point × Change)))) := match stt with
 | (a, m) =>
  (bif (ltB a (ak l)) then
   (idx l a).bind fun x =>
   (cU x).bind fun y =>
   (kckL [y.X, y.Y]).bind fun _u =>
   some (.next ((bd .i64 a 1), (bD m y x)))
  else
   some (.out m))
def eP (l : List Change) : Option (List (Point × Change)) :=
 (am (fg l) b3 (0, [])).bind fun m =>
 some m
def dy (_left : List (Point × Change)) (y : Point × Change) (out1 : List Change) : Option (List Change) :=
 (eF 32 out1 [y.2]).bind fun _l =>
 some (out1 ++ [y.2])
def cA (_left : List (Point × Change)) (y : Point × Change) : List Change := [y.2]
def cZ (out : List Change) (left : List (Point × Change)) : Option ((List Change) × Int) :=
 (colL 32 (fun _ => true) (cA left) left out).bind fun out2 =>
 (bif (gtB (ak out2) 10000) then
  some ([], 6)
 else
  (aj out2).bind fun y =>
  some (y, 0))
def gu (b : List Change) (stt : Int × (List (Point × Change)) × (List Change)) : Option (Lp (Int × (List (Point × Change)) × (List Change)) (((List Change) × Int) ⊕ ((List (Point × Change)) × (List Change)))) := match stt with
 | (a2, left, out) =>
  (bif (ltB a2 (ak b)) then
   (idx b a2).bind fun x =>
   (cU x).bind fun y1 =>
   (kckL [y1.X, y1.Y]).bind fun _u =>
   (bif (cO left y1) then
    (bif (neB ((aL left y1 (⟨0, 0, 0, 0⟩ : Change)).To) x.From) then
     some (.out (.inl ([], 17)))
    else
     (bif (neB ((aL left y1 (⟨0, 0, 0, 0⟩ : Change)).From) x.To) then
      (eF 32 out [(⟨x.X, x.Y, (aL left y1 (⟨0, 0, 0, 0⟩ : Change)).From, x.To⟩ : Change)]).bind fun _l =>
      some (.next ((bd .i64 a2 1), (eE left y1), (out ++ [(⟨x.X, x.Y, (aL left y1 (⟨0, 0, 0, 0⟩ : Change)).From, x.To⟩ : Change)])))
     else
      some (.next ((bd .i64 a2 1), (eE left y1), out))))
   else
    (bif (neB x.From x.To) then
     (eF 32 out [x]).bind fun _l =>
     some (.next ((bd .i64 a2 1), left, (out ++ [x])))
    else
     some (.next ((bd .i64 a2 1), left, out))))
  else
   some (.out (.inr (left, out))))
def fh (a : List Change) (b : List Change) : Option ((List Change) × Int) :=
 ((bo a).bind fun y =>
 (bif (br y) then
  some true
 else
  (bo b).bind fun y1 =>
  some (br y1))).bind fun a1 =>
 (bif a1 then
  some ([], 2)
 else
  (eP a).bind fun y =>
  (am (gu b) b3 (0, y, [])).bind fun o => match o with
   | .inl r =>
    some r
   | .inr (left, out) =>
    (cZ out left).bind fun y1 =>
    some (y1.1, y1.2))
def bH (l : List Change) : Option (List Change) := eF 32 [] l
def fY (b : List Change) (stt : Int × (List (Point × Change))) : Option (Lp (Int × (List (Point × Change))) (((List Change) × Point × Int) ⊕ (List (Point × Change)))) := match stt with
 | (a2, left) =>
  (bif (ltB a2 (ak b)) then
   (idx b a2).bind fun x =>
   (cU x).bind fun y1 =>
   (kckL [y1.X, y1.Y]).bind fun _u =>
   ((bif (cO left y1) then
    some (br (gY (eqB ((aL left y1 (⟨0, 0, 0, 0⟩ : Change)).X) x.X) (gY (eqB ((aL left y1 (⟨0, 0, 0, 0⟩ : Change)).Y) x.Y) (gY (eqB ((aL left y1 (⟨0, 0, 0, 0⟩ : Change)).From) x.From) (gY (eqB ((aL left y1 (⟨0, 0, 0, 0⟩ : Change)).To) x.To) true)))))
   else
    some false)).bind fun a3 =>
   (bif a3 then
    some (.out (.inl ([], y1, 17)))
   else
    some (.next ((bd .i64 a2 1), (eE left y1))))
  else
   some (.out (.inr left)))
def fN (a : List Change) (b : List Change) : Option ((List Change) × Point × Int) :=
 ((bo a).bind fun y =>
 (bif (br y) then
  some true
 else
  (bo b).bind fun y1 =>
  some (br y1))).bind fun a1 =>
 (bif a1 then
  some ([], (⟨0, 0⟩ : Point), 2)
 else
  (eP a).bind fun y =>
  (am (fY b) b3 (0, y)).bind fun o => match o with
   | .inl r =>
    some r
   | .inr left =>
    (bH b).bind fun y1 =>
    (cZ y1 left).bind fun y2 =>
    some (y2.1, (⟨0, 0⟩ : Point), y2.2))
def ie (a : List Change) (b : List Change) (stt : Int) : Option (Lp (Int) (Bool ⊕ Unit)) := match stt with
 | i =>
  (bif (ltB i (ak a)) then
   (idx a i).bind fun x =>
   (idx b i).bind fun x1 =>
   (bif (br (gY (eqB x.X x1.X) (gY (eqB x.Y x1.Y) (gY (eqB x.From x1.From) (gY (eqB x.To x1.To) true))))) then
    some (.out (.inl false))
   else
    some (.next (bd .i64 i 1)))
  else
   some (.out (.inr ())))
def gq (a : List Change) (b : List Change) : Option (Bool) :=
 (bif (neB (ak a) (ak b)) then
  some false
 else
  (am (ie a b) b3 0).bind fun o => match o with
   | .inl r =>
    some r
   | .inr _u =>
    some true)
def bZ (a : Int) (b : Int) : Option (Int) :=
 (bif (ltB a b) then
  some (-1)
 else
  (bif (gtB a b) then
   some 1
  else
   some 0))
def cC (a : List Cell) (b : List Cell) (stt : Int) : Option (Lp (Int) (Int ⊕ Unit)) := match stt with
 | i =>
  ((bif (ltB i (ak a)) then
   some (ltB i (ak b))
  else
   some false)).bind fun a1 =>
  (bif a1 then
   (idx a i).bind fun x =>
   (idx b i).bind fun x1 =>
   (bif (neB x.Y x1.Y) then
    (bZ x.Y x1.Y).bind fun y =>
    some (.out (.inl y))
   else
    (bif (neB x.X x1.X) then
     (bZ x.X x1.X).bind fun y =>
     some (.out (.inl y))
    else
     (bif (neB x.S x1.S) then
      (bZ x.S x1.S).bind fun y =>
      some (.out (.inl y))
     else
      some (.next (bd .i64 i 1)))))
  else
   some (.out (.inr ())))
def dX (a : List Cell) (b : List Cell) : Option (Int) :=
 (am (cC a b) b3 0).bind fun o => match o with
  | .inl r =>
   some r
  | .inr _u =>
   (bZ (ak a) (ak b)).bind fun y =>
   some y
def ej (a : List Cell) (b : List Cell) : Option (Bool) :=
 (dX a b).bind fun y =>
 some (eqB y 0)
def fG (y1 : List Change) (stt : Int × (List Change)) : Option (Lp (Int × (List Change)) ((List Change))) := match stt with
 | (a, out) =>
  (bif (ltB a (ak y1)) then
   (idx out a).bind fun x =>
   (idx (out.set a.toNat (⟨x.X, x.Y, x.To, x.To⟩ : Change)) a).bind fun x1 =>
   some (.next ((bd .i64 a 1), ((out.set a.toNat (⟨x.X, x.Y, x.To, x.To⟩ : Change)).set a.toNat (⟨x1.X, x1.Y, x1.From, x.From⟩ : Change))))
  else
   some (.out out))
def fo (l : List Change) : Option (List Change) :=
 (bo l).bind fun y =>
 (bif (br y) then
  some []
 else
  (bH l).bind fun y1 =>
  (am (fG y1) b3 (0, y1)).bind fun out =>
  some out)
def dE : Option (Bool) :=
 (ei [(⟨0, 0, 1⟩ : Cell), (⟨1, 0, 1⟩ : Cell)] [(⟨1, 0, 2⟩ : Cell), (⟨2, 0, 1⟩ : Cell)]).bind fun y =>
 (cQ [(⟨0, 0, 1⟩ : Cell), (⟨1, 0, 1⟩ : Cell)] y.1).bind fun y1 =>
 (fh [(⟨0, 0, 1, 2⟩ : Change)] [(⟨0, 0, 2, 1⟩ : Change)]).bind fun y2 =>
 (fh [(⟨0, 0, 1, 2⟩ : Change)] [(⟨0, 0, 1, 0⟩ : Change)]).bind fun y3 =>
 (fN [(⟨5, 5, 0, 1⟩ : Change)] [(⟨5, 5, 0, 2⟩ : Change)]).bind fun y4 =>
 ((bif (eqB y.2 0) then
  (bif (eqB y1.2 0) then
   (bif (eqB y2.2 0) then
    (bif (eqB y3.2 17) then
     (bif (eqB y4.2.2 17) then
      (gq y.1 [(⟨0, 0, 1, 0⟩ : Change), (⟨1, 0, 1, 2⟩ : Change), (⟨2, 0, 0, 1⟩ : Change)]).bind fun y5 =>
      (bif y5 then
       (ej y1.1 [(⟨1, 0, 2⟩ : Cell), (⟨2, 0, 1⟩ : Cell)]).bind fun y6 =>
       (bif y6 then
        (bif (eqB (ak y2.1) 0) then
         (bif (gY (eqB y4.2.1.X 5) (gY (eqB y4.2.1.Y 5) true)) then
          (bo y.1).bind fun y7 =>
          (bif y7 then
           (fo y.1).bind fun y8 =>
           (gq y8 [(⟨0, 0, 0, 1⟩ : Change), (⟨1, 0, 2, 1⟩ : Change), (⟨2, 0, 1, 0⟩ : Change)]).bind fun y9 =>
           some y9
          else
           some false)
         else
          some false)
        else
         some false)
       else
        some false)
      else
       some false)
     else
      some false)
    else
     some false)
   else
    some false)
  else
   some false)
 else
  some false)).bind fun a =>
 some a
def cR (p : List Cell) (number : Int) : Option (Bool) :=
 (iquo .i64 (d5 .i64 number) 2).bind fun n =>
 ((bif (geB (imul .i64 n 2) 100) then
  (iquo .i64 (imul .i64 n 2) 100).bind fun n1 =>
  (catS ([87] : List UInt8) (ofBytes [(d5 .u8 (bd .i64 48 n1))])).bind fun s =>
  some s
 else
  some ([87] : List UInt8))).bind fun s =>
 ((bif (geB (imul .i64 n 2) 10) then
  (iquo .i64 (imul .i64 n 2) 10).bind fun n1 =>
  (irem n1 10).bind fun n2 =>
  (catS s (ofBytes [(d5 .u8 (bd .i64 48 n2))])).bind fun s1 =>
  some s1
 else
  some s)).bind fun s1 =>
 (irem (imul .i64 n 2) 10).bind fun n1 =>
 (catS s1 (ofBytes [(d5 .u8 (bd .i64 48 n1))])).bind fun s2 =>
 (dt s2).bind fun y =>
 (bif (neB y.2 0) then
  some false
 else
  (bS y.1 p).bind fun y1 =>
  ((bif (gtB (ak p) 60) then
   some true
  else
   some (neB y1.2 0))).bind fun a =>
  (bif a then
   (dE).bind fun y2 =>
   some y2
  else
   (ei p y1.1).bind fun y2 =>
   (cQ p y2.1).bind fun y3 =>
   ((bif (eqB y2.2 0) then
    (bif (eqB y3.2 0) then
     (ej y3.1 y1.1).bind fun y4 =>
     (bif y4 then
      (dE).bind fun y5 =>
      some y5
     else
      some false)
    else
     some false)
   else
    some false)).bind fun a1 =>
   some a1))
end Go.Proofs.YtogdjcdmbodmiaaGreatDoor
