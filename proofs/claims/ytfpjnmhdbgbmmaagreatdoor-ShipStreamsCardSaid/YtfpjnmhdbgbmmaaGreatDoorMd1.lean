/-
  The functions, as functions of lists and numbers (made by cc.py).
-/
import Derived.Test.YtfpjnmhdbgbmmaaGreatDoorCf
namespace Go.Proofs.YtfpjnmhdbgbmmaaGreatDoor
open Go.AM Go.Proofs
def eO (x : Int) (y : Int) : Option (Bool) :=
 ((bif (leB (imax x y) 1048576) then
  some (geB (imin x y) (-1048576))
 else
  some false)).bind fun a =>
 some a
def dL (x : Shot) (m : Motion) (count : Int) (gap : Int) (stt : Int × (List Shot)) : Option (Lp (Int × (List Shot)) (((List Shot) × Int) ⊕ (List Shot))) := match stt with
 | (a1, out) =>
  (bif (ltB a1 count) then
   (eO x.X x.Y).bind fun y =>
   (bif (aM y) then
    some (.out (.inl ([], 5)))
   else
    (eO (aA .i64 x.X (bP .i64 (bP .i64 a1 gap) m.DX)) (aA .i64 x.Y (bP .i64 (bP .i64 a1 gap) m.DY))).bind fun y1 =>
    (bif (aM y1) then
     some (.out (.inl ([], 5)))
    else
     (eP 40 out [(⟨x.Ship, x.Phase, x.Sym, (aA .i64 x.X (bP .i64 (bP .i64 a1 gap) m.DX)), (aA .i64 x.Y (bP .i64 (bP .i64 a1 gap) m.DY))⟩ : Shot)]).bind fun _l =>
     some (.next ((aH .i64 a1 1), (out ++ [(⟨x.Ship, x.Phase, x.Sym, (aA .i64 x.X (bP .i64 (bP .i64 a1 gap) m.DX)), (aA .i64 x.Y (bP .i64 (bP .i64 a1 gap) m.DY))⟩ : Shot)])))))
  else
   some (.out (.inr out)))
def di (x : Shot) (m : Motion) (count : Int) (gap : Int) : Option ((List Shot) × Int) :=
 ((bif (ltB m.Period 1) then
  some true
 else
  (bif (gtB m.Period 64) then
   some true
  else
   (eO m.DX m.DY).bind fun y =>
   (bif (aM y) then
    some true
   else
    (bif (ltB count 0) then
     some true
    else
     (bif (gtB count 16) then
      some true
     else
      (bif (ltB gap 1) then
       some true
      else
       some (gtB gap 1000)))))))).bind fun a =>
 (bif a then
  some ([], 2)
 else
  (al (dL x m count gap) aY (0, [])).bind fun o => match o with
   | .inl r =>
    some r
   | .inr out =>
    some (out, 0))
def cM (p : Point) : Option (Bool) :=
 ((bif (geB p.X (-1048576)) then
  (bif (leB p.X 1048576) then
   (bif (geB p.Y (-1048576)) then
    some (leB p.Y 1048576)
   else
    some false)
  else
   some false)
 else
  some false)).bind fun a =>
 some a
def cj (x : Shot) (m : Motion) (count : Int) (gap : Int) (stt : Int × (List Shot)) : Option (Lp (Int × (List Shot)) (((List Shot) × Int) ⊕ (List Shot))) := match stt with
 | (i, out) =>
  (bif (ltB i count) then
   (cM (⟨x.X, x.Y⟩ : Point)).bind fun y =>
   (bif (aM y) then
    some (.out (.inl ([], 5)))
   else
    (cM (⟨(aA .i64 x.X (bP .i64 (bP .i64 i gap) m.DX)), (aA .i64 x.Y (bP .i64 (bP .i64 i gap) m.DY))⟩ : Point)).bind fun y1 =>
    (bif (aM y1) then
     some (.out (.inl ([], 5)))
    else
     (eP 40 out [(⟨x.Ship, x.Phase, x.Sym, (aA .i64 x.X (bP .i64 (bP .i64 i gap) m.DX)), (aA .i64 x.Y (bP .i64 (bP .i64 i gap) m.DY))⟩ : Shot)]).bind fun _l =>
     some (.next ((aH .i64 i 1), (out ++ [(⟨x.Ship, x.Phase, x.Sym, (aA .i64 x.X (bP .i64 (bP .i64 i gap) m.DX)), (aA .i64 x.Y (bP .i64 (bP .i64 i gap) m.DY))⟩ : Shot)])))))
  else
   some (.out (.inr out)))
def dd (x : Shot) (m : Motion) (count : Int) (gap : Int) : Option ((List Shot) × Int) :=
 ((bif (ltB m.Period 1) then
  some true
 else
  (bif (gtB m.Period 64) then
   some true
  else
   (cM (⟨m.DX, m.DY⟩ : Point)).bind fun y =>
   (bif (aM y) then
    some true
   else
    (bif (ltB count 0) then
     some true
    else
     (bif (gtB count 16) then
      some true
     else
      (bif (ltB gap 1) then
       some true
      else
       some (gtB gap 1000)))))))).bind fun a =>
 (bif a then
  some ([], 2)
 else
  (al (cj x m count gap) aY (0, [])).bind fun o => match o with
   | .inl r =>
    some r
   | .inr out =>
    some (out, 0))
def bn (k : Int) (p : Point) : Option (Point) :=
 (aidx 8 g0R (iand .i64 k 7)).bind fun x =>
 some (⟨(aH .i64 (bP .i64 x.1 p.X) (bP .i64 x.2.1 p.Y)), (aH .i64 (bP .i64 x.2.2.1 p.X) (bP .i64 x.2.2.2 p.Y))⟩ : Point)
def cP (k : Int) (m : Motion) : Option (Motion) :=
 (bn k (⟨m.DX, m.DY⟩ : Point)).bind fun y =>
 some (⟨m.Period, y.X, y.Y⟩ : Motion)
def gL (k : Int) : Option (Int) :=
 (irem k 8).bind fun n =>
 (irem (aH .i64 n 8) 8).bind fun n1 =>
 some n1
def ib (k1 : Int) (stt : Int × Int × Int) : Option (Lp (Int × Int × Int) ((Int × Int))) := match stt with
 | (i, pX1, pY) =>
  (bif (ltB i k1) then
   some (.next ((aH .i64 i 1), (dl .i64 pY), pX1))
  else
   some (.out (pX1, pY)))
def eM (k : Int) (p : Point) : Option (Point) :=
 (gL k).bind fun y =>
 ((bif (geB y 4) then
  some ((aA .i64 y 4), (dl .i64 p.X))
 else
  some (y, p.X))).bind fun (k1, pX) =>
 (al (ib k1) aY (0, pX, p.Y)).bind fun (pX1, pY) =>
 some (⟨pX1, pY⟩ : Point)
def ek (k : Int) (m : Motion) : Option (Motion) :=
 (eM k (⟨m.DX, m.DY⟩ : Point)).bind fun y =>
 some (⟨m.Period, y.X, y.Y⟩ : Motion)
def bj (s : List UInt8) (prefix_ : List UInt8) : Option (Bool) :=
 ((bif (geB (gR s) (gR prefix_)) then
  (slcS s 0 (gR prefix_)).bind fun s1 =>
  some (eqS s1 prefix_)
 else
  some false)).bind fun a =>
 some a
def bg (s : List UInt8) (prefix_ : List UInt8) : Option ((List UInt8) × Bool) :=
 (bj s prefix_).bind fun y =>
 (bif (aM y) then
  some (s, false)
 else
  (slcS s (gR prefix_) (gR s)).bind fun s1 =>
  some (s1, true))
def dm (s : List UInt8) (prefix_ : List UInt8) : Option ((List UInt8) × Bool) :=
 (bg s prefix_).bind fun y =>
 some (y.1, y.2)
def m_strings_Cut (s sep : List UInt8) : Option ((List UInt8) × (List UInt8) × Bool) := cutS s sep
def fe (_x : Int) (_y : Int) : Option (Bool) :=
 some true
def ch (r_ : Int) (y : Int) (stt : Int × (List Point)) : Option (Lp (Int × (List Point)) ((List Point))) := match stt with
 | (x, l1) =>
  (bif (leB x r_) then
   ((fe x y).bind fun y1 =>
   (bif y1 then
    (eP 16 l1 [(⟨x, y⟩ : Point)]).bind fun _l2 =>
    some (l1 ++ [(⟨x, y⟩ : Point)])
   else
    some l1)).bind fun l2 =>
   some (.next ((aH .i64 x 1), l2))
  else
   some (.out l1))
def cm (r_ : Int) (stt : Int × (List Point)) : Option (Lp (Int × (List Point)) ((List Point))) := match stt with
 | (y, l) =>
  (bif (leB y r_) then
   (al (ch r_ y) aY ((dl .i64 r_), l)).bind fun l1 =>
   some (.next ((aH .i64 y 1), l1))
  else
   some (.out l))
def bH (r_ : Int) : Option (List Point) :=
 (al (cm r_) aY ((dl .i64 r_), [])).bind fun l =>
 some l
def fh (r_ : Int) : Option (List Point) :=
 ((bif (ltB r_ 0) then
  some true
 else
  some (gtB r_ 2))).bind fun a =>
 (bif a then
  some []
 else
  (bH r_).bind fun y =>
  some y)
def bf (s : List UInt8) (suffix : List UInt8) : Option (Bool) :=
 ((bif (geB (gR s) (gR suffix)) then
  (slcS s (aA .i64 (gR s) (gR suffix)) (gR s)).bind fun s1 =>
  some (eqS s1 suffix)
 else
  some false)).bind fun a =>
 some a
def bh (s : List UInt8) (suffix : List UInt8) : Option ((List UInt8) × Bool) :=
 (bf s suffix).bind fun y =>
 (bif (aM y) then
  some (s, false)
 else
  (slcS s 0 (aA .i64 (gR s) (gR suffix))).bind fun s1 =>
  some (s1, true))
def cA (s : List UInt8) (suffix : List UInt8) : Option ((List UInt8) × Bool) :=
 (bh s suffix).bind fun y =>
 some (y.1, y.2)
def ej (x : Int) (y : Int) (a : Int) : Option (Bool) :=
 some (leB (aH .i64 (imax x (dl .i64 x)) (imax y (dl .i64 y))) a)
def bJ (r_ : Int) (cv : Int) (y : Int) (stt : Int × (List Point)) : Option (Lp (Int × (List Point)) ((List Point))) := match stt with
 | (x, l1) =>
  (bif (leB x r_) then
   ((ej x y cv).bind fun y1 =>
   (bif y1 then
    (eP 16 l1 [(⟨x, y⟩ : Point)]).bind fun _l2 =>
    some (l1 ++ [(⟨x, y⟩ : Point)])
   else
    some l1)).bind fun l2 =>
   some (.next ((aH .i64 x 1), l2))
  else
   some (.out l1))
def bK (r_ : Int) (cv : Int) (stt : Int × (List Point)) : Option (Lp (Int × (List Point)) ((List Point))) := match stt with
 | (y, l) =>
  (bif (leB y r_) then
   (al (bJ r_ cv y) aY ((dl .i64 r_), l)).bind fun l1 =>
   some (.next ((aH .i64 y 1), l1))
  else
   some (.out l))
def bS (r_ : Int) (cv : Int) : Option (List Point) :=
 (al (bK r_ cv) aY ((dl .i64 r_), [])).bind fun l =>
 some l
def e5 (r_ : Int) : Option (List Point) :=
 ((bif (ltB r_ 0) then
  some true
 else
  some (gtB r_ 2))).bind fun a =>
 (bif a then
  some []
 else
  (bS r_ r_).bind fun y =>
  some y)
def gI (x : Int) (y : Int) : Option (Bool) :=
 some (geB (bP .i64 x y) 0)
def cL (r_ : Int) (y : Int) (stt : Int × (List Point)) : Option (Lp (Int × (List Point)) ((List Point))) := match stt with
 | (x, l1) =>
  (bif (leB x r_) then
   ((gI x y).bind fun y1 =>
   (bif y1 then
    (eP 16 l1 [(⟨x, y⟩ : Point)]).bind fun _l2 =>
    some (l1 ++ [(⟨x, y⟩ : Point)])
   else
    some l1)).bind fun l2 =>
   some (.next ((aH .i64 x 1), l2))
  else
   some (.out l1))
def cJ (r_ : Int) (stt : Int × (List Point)) : Option (Lp (Int × (List Point)) ((List Point))) := match stt with
 | (y, l) =>
  (bif (leB y r_) then
   (al (cL r_ y) aY ((dl .i64 r_), l)).bind fun l1 =>
   some (.next ((aH .i64 y 1), l1))
  else
   some (.out l))
def bU (r_ : Int) : Option (List Point) :=
 (al (cJ r_) aY ((dl .i64 r_), [])).bind fun l =>
 some l
def hP : Option (List Point) :=
 (bU 1).bind fun y =>
 some y
def e8 (l : List Int) (n : Int) (stt : Int × Int) : Option (Lp (Int × Int) (Bool ⊕ Unit)) := match stt with
 | (last, a) =>
  (bif (ltB a (ah l)) then
   (idx l a).bind fun x =>
   ((bif (leB x last) then
    some true
   else
    some (gtB x n))).bind fun a1 =>
   (bif a1 then
    some (.out (.inl false))
   else
    some (.next (x, (aH .i64 a 1))))
  else
   some (.out (.inr ())))
def bW (l : List Int) (n : Int) : Option (Bool) :=
 (al (e8 l n) aY ((-1), 0)).bind fun o => match o with
  | .inl r =>
   some r
  | .inr _u =>
   some true
def er (l : List Int) (stt : Int × (List Int)) : Option (Lp (Int × (List Int)) (((List Int) × Bool) ⊕ (List Int))) := match stt with
 | (a, out) =>
  (bif (ltB a (ah l)) then
   (idx l a).bind fun x =>
   ((bif (ltB x 48) then
    some true
   else
    some (gtB x 57))).bind fun a1 =>
   (bif a1 then
    some (.out (.inl ([], false)))
   else
    (eP 8 out [(fZ .i64 (aA .u8 x 48))]).bind fun _l1 =>
    some (.next ((aH .i64 a 1), (out ++ [(fZ .i64 (aA .u8 x 48))]))))
  else
   some (.out (.inr out)))
def dc (s : List UInt8) : Option ((List Int) × Bool) :=
 (toBk s).bind fun l =>
 (al (er l) aY (0, [])).bind fun o => match o with
  | .inl r =>
   some r
  | .inr out =>
   (bW out 9).bind fun y =>
   some (out, y)
def bu (s1 : List Point) (s2 : List Point) (stt : Int) : Option (Lp (Int) (Bool ⊕ Unit)) := match stt with
 | a =>
  (bif (ltB a (ah s1)) then
   (idx s1 a).bind fun x =>
   (idx s2 a).bind fun x1 =>
   (bif (aM (bA (eqB x.X x1.X) (bA (eqB x.Y x1.Y) true))) then
    some (.out (.inl false))
   else
    some (.next (aH .i64 a 1)))
  else
   some (.out (.inr ())))
def b7 (s1 : List Point) (s2 : List Point) : Option (Bool) :=
 (bif (neB (ah s1) (ah s2)) then
  some false
 else
  (al (bu s1 s2) aY 0).bind fun o => match o with
   | .inl r =>
    some r
   | .inr _u =>
    some true)
def dA (a : List Point) (b : List Point) : Option (Bool) :=
 (b7 a b).bind fun y =>
 some y
def dU (l : List Point) : Option ((List UInt8) × Bool) :=
 (fh 1).bind fun y =>
 (dA l y).bind fun y1 =>
 (bif y1 then
  some (([] : List UInt8), true)
 else
  (e5 1).bind fun y2 =>
  (dA l y2).bind fun y3 =>
  (bif y3 then
   some (([86] : List UInt8), true)
  else
   (hP).bind fun y4 =>
   (dA l y4).bind fun y5 =>
   (bif y5 then
    some (([72] : List UInt8), true)
   else
    some (([] : List UInt8), false))))
def dz (t : Totals) : Option (Bool) :=
 (dU t.Hood).bind fun y =>
 ((bif y.2 then
  (bif (geB t.States 2) then
   (bif (leB t.States 8) then
    (bW t.Birth (aA .i64 (ah t.Hood) 1)).bind fun y1 =>
    (bif y1 then
     (bW t.Survive (aA .i64 (ah t.Hood) 1)).bind fun y2 =>
     some y2
    else
     some false)
   else
    some false)
  else
   some false)
 else
  some false)).bind fun a =>
 some a
def dw (s : List UInt8) : Option (Totals × Int) :=
 (dm s ([66] : List UInt8)).bind fun y =>
 (m_strings_Cut y.1 ([47, 83] : List UInt8)).bind fun y1 =>
 ((bif (aM y.2) then
  some true
 else
  some (aM y1.2.2))).bind fun a =>
 (bif a then
  some ((⟨[], 0, [], []⟩ : Totals), 15)
 else
  (fh 1).bind fun y2 =>
  ((cA y1.2.1 ([86] : List UInt8)).bind fun y3 =>
  (bif y3.2 then
   (e5 1).bind fun y4 =>
   some (y3.1, y4)
  else
   (cA y1.2.1 ([72] : List UInt8)).bind fun y4 =>
   (bif y4.2 then
    (hP).bind fun y5 =>
    some (y4.1, y5)
   else
    some (y1.2.1, y2)))).bind fun (survive, tHood) =>
  (dc y1.1).bind fun y3 =>
  (dc survive).bind fun y4 =>
  ((bif (aM y3.2) then
   some true
  else
   some (aM y4.2))).bind fun a1 =>
  (bif a1 then
   some ((⟨[], 0, [], []⟩ : Totals), 15)
  else
   (dz (⟨tHood, 2, y3.1, y4.1⟩ : Totals)).bind fun y5 =>
   (bif (aM y5) then
    some ((⟨[], 0, [], []⟩ : Totals), 5)
   else
    some ((⟨tHood, 2, y3.1, y4.1⟩ : Totals), 0))))
def eE (s : List UInt8) : Option (Int) :=
 (dw s).bind fun y =>
 (bif (neB y.2 15) then
  some 1
 else
  none)
def d8 (x : Int) : Option (Bool) :=
 some (neB x x)
def bc (x : Int) (y : Int) : Option (Int) :=
 (d8 x).bind fun y1 =>
 (d8 y).bind fun y2 =>
 (bif y1 then
  (bif y2 then
   some 0
  else
   some (-1))
 else
  (bif y2 then
   some 1
  else
   (bif (ltB x y) then
    some (-1)
   else
    (bif (gtB x y) then
     some 1
    else
     some 0))))
def du (vals : List Int) (stt : Int) : Option (Lp (Int) (Int ⊕ Unit)) := match stt with
 | a =>
  (bif (ltB a (ah vals)) then
   (idx vals a).bind fun x =>
   (bif (neB x 0) then
    some (.out (.inl x))
   else
    some (.next (aH .i64 a 1)))
  else
   some (.out (.inr ())))
def dC (vals : List Int) : Option (Int) :=
 (al (du vals) aY 0).bind fun o => match o with
  | .inl r =>
   some r
  | .inr _u =>
   some 0
def cu (a : Point) (b : Point) : Option (Int) :=
 (bc a.Y b.Y).bind fun y =>
 (bc a.X b.X).bind fun y1 =>
 (dC [y, y1]).bind fun y2 =>
 some y2
def gY (l : List Point) (stt : Int) : Option (Lp (Int) (Bool ⊕ Unit)) := match stt with
 | a1 =>
  (bif (ltB a1 (ah l)) then
   (idx l a1).bind fun x =>
   ((bif (ltB x.X (-2)) then
    some true
   else
    (bif (gtB x.X 2) then
     some true
    else
     (bif (ltB x.Y (-2)) then
      some true
     else
      (bif (gtB x.Y 2) then
       some true
      else
       (bif (gtB a1 0) then
        (idx l (aA .i64 a1 1)).bind fun x1 =>
        (cu x1 x).bind fun y =>
        some (geB y 0)
       else
        some false)))))).bind fun a2 =>
   (bif a2 then
    some (.out (.inl false))
   else
    some (.next (aH .i64 a1 1)))
  else
   some (.out (.inr ())))
def eX (l : List Point) : Option (Bool) :=
 ((bif (ltB (ah l) 1) then
  some true
 else
  some (gtB (ah l) 25))).bind fun a =>
 (bif a then
  some false
 else
  (al (gY l) aY 0).bind fun o => match o with
   | .inl r =>
    some r
   | .inr _u =>
    some true)
def br (s : List Point) (v : Point) (stt : Int) : Option (Lp (Int) (Int ⊕ Unit)) := match stt with
 | a =>
  (bif (ltB a (ah s)) then
   (idx s a).bind fun x =>
   (bif (bA (eqB v.X x.X) (bA (eqB v.Y x.Y) true)) then
    some (.out (.inl a))
   else
    some (.next (aH .i64 a 1)))
  else
   some (.out (.inr ())))
def b6 (s : List Point) (v : Point) : Option (Int) :=
 (al (br s v) aY 0).bind fun o => match o with
  | .inl r =>
   some r
  | .inr _u =>
   some (-1)
def fQ (l : List Point) : Option (Int) :=
 (eX l).bind fun y =>
 (bif (aM y) then
  some (-1)
 else
  (b6 l (⟨0, 0⟩ : Point)).bind fun y1 =>
  some y1)
def aF (l : List Point) : Option (List Point) := eP 16 [] l
def df (s : List Int) (v : Int) (stt : Int) : Option (Lp (Int) (Int ⊕ Unit)) := match stt with
 | a =>
  (bif (ltB a (ah s)) then
   (idx s a).bind fun x =>
   (bif (eqB v x) then
    some (.out (.inl a))
   else
    some (.next (aH .i64 a 1)))
  else
   some (.out (.inr ())))
def cF (s : List Int) (v : Int) : Option (Int) :=
 (al (df s v) aY 0).bind fun o => match o with
  | .inl r =>
   some r
  | .inr _u =>
   some (-1)
def bo (s : List Int) (v : Int) : Option (Bool) :=
 (cF s v).bind fun y =>
 some (geB y 0)
def d9 (s : totaltree_sum) (a : Totals) : Option (Int) :=
 (bif (eqB s.centre 0) then
  ((bo a.Birth s.ones).bind fun y =>
  (bif y then
   some 1
  else
   some s.centre)).bind fun next =>
  some next
 else
  ((bif (eqB s.centre 1) then
   (bo a.Survive s.ones).bind fun y =>
   some y
  else
   some false)).bind fun a1 =>
  (bif a1 then
   some 1
  else
   (irem (aH .i64 s.centre 1) a.States).bind fun n =>
   some n))
def dG (s : totaltree_sum) (at_ : Int) (state : Int) (a : Int) : Option (Int × Int) :=
 ((bif (eqB at_ a) then
  some (s.ones, state)
 else
  (bif (eqB state 1) then
   some ((aH .i64 s.ones 1), s.centre)
  else
   some (s.ones, s.centre)))).bind fun (sones, scentre) =>
 some (sones, scentre)
def cd (i : Int) : Option (List UInt8) :=
 (bif (ltB i 10) then
  (slcS ([48, 49, 50, 51, 52, 53, 54, 55, 56, 57, 97, 98, 99, 100, 101, 102, 103, 104, 105, 106, 107, 108, 109, 110, 111, 112, 113, 114, 115, 116, 117, 118, 119, 120, 121, 122] : List UInt8) i (aH .i64 i 1)).bind fun s =>
  some s
 else
  (slcS ([48, 48, 48, 49, 48, 50, 48, 51, 48, 52, 48, 53, 48, 54, 48, 55, 48, 56, 48, 57, 49, 48, 49, 49, 49, 50, 49, 51, 49, 52, 49, 53, 49, 54, 49, 55, 49, 56, 49, 57, 50, 48, 50, 49, 50, 50, 50, 51, 50, 52, 50, 53, 50, 54, 50, 55, 50, 56, 50, 57, 51, 48, 51, 49, 51, 50, 51, 51, 51, 52, 51, 53, 51, 54, 51, 55, 51, 56, 51, 57, 52, 48, 52, 49, 52, 50, 52, 51, 52, 52, 52, 53, 52, 54, 52, 55, 52, 56, 52, 57, 53, 48, 53, 49, 53, 50, 53, 51, 53, 52, 53, 53, 53, 54, 53, 55, 53, 56, 53, 57, 54, 48, 54, 49, 54, 50, 54, 51, 54, 52, 54, 53, 54, 54, 54, 55, 54, 56, 54, 57, 55, 48, 55, 49, 55, 50, 55, 51, 55, 52, 55, 53, 55, 54, 55, 55, 55, 56, 55, 57, 56, 48, 56, 49, 56, 50, 56, 51, 56, 52, 56, 53, 56, 54, 56, 55, 56, 56, 56, 57, 57, 48, 57, 49, 57, 50, 57, 51, 57, 52, 57, 53, 57, 54, 57, 55, 57, 56, 57, 57] : List UInt8) (bP .i64 i 2) (aH .i64 (bP .i64 i 2) 2)).bind fun s =>
  some s)
def bk (dst : List Int) (i : Int) (base : Int) : Option (List Int) :=
 (bif (eqB base 10) then
  (bif (ltB i 100) then
   (cd (fZ .i64 i)).bind fun y =>
   (eP 1 dst (toB y)).bind fun _l =>
   some (dst ++ (toB y))
  else
   none)
 else
  none)
def ca (dst : List Int) (i : Int) (base : Int) : Option (List Int) :=
 ((bif (ltB i 0) then
  (eP 1 dst [45]).bind fun _l =>
  some ((dl .u64 (fZ .u64 i)), (dst ++ [45]))
 else
  some ((fZ .u64 i), dst))).bind fun (u, dst1) =>
 (bk dst1 u base).bind fun y =>
 some y
def bV (dst : List Int) (i : Int) (base : Int) : Option (List Int) :=
 (ca dst i base).bind fun y =>
 some y
def aS (rcv : (totaltree_place → (List Point) → (List Point) → Int → (List Int) → (List Int) → (List (totaltree_place × Int)) → Int → Int → (List (List UInt8 × Int)) → Int → (List Point) → (List Node) → Option (Int × (List (totaltree_place × Int)) × (List (List UInt8 × Int)) × (List Node)))) (p : totaltree_place) (a : List Point) (cHood : List Point) (cStates : Int) (cBirth : List Int) (cSurvive : List Int) (a2 : Int) (cv : Int) (cStates1 : Int) (cHood1 : List Point) (_u : Unit) (stt : Int × (List Node) × (List Int) × (List Int) × (List (totaltree_place × Int)) × (List (List UInt8 × Int))) : Option (Lp (Int × (List Node) × (List Int) × (List Int) × (List (totaltree_place × Int)) × (List (List UInt8 × Int))) (((List Node) × (List Int) × (List Int) × (List (totaltree_place × Int)) × (List (List UInt8 × Int))))) := match stt with
 | (a3, l, keyv, l1, mp, mp1) =>
  (bif (ltB a3 a2) then
   (dG p.s p.at_ a3 cv).bind fun y =>
   (rcv (⟨(aH .i64 p.at_ 1), ⟨y.1, y.2⟩⟩ : totaltree_place) a cHood cStates cBirth cSurvive mp a2 cv mp1 cStates1 cHood1 l).bind fun y1 =>
   (eP 8 l1 [y1.1]).bind fun _l2 =>
   (eP 1 keyv [32]).bind fun _l3 =>
   (bV (keyv ++ [32]) y1.1 10).bind fun y2 =>
   some (.next ((aH .i64 a3 1), y1.2.2.2, y2, (l1 ++ [y1.1]), y1.2.1, y1.2.2.1))
  else
   some (.out (l, keyv, l1, mp, mp1)))
def aT (rcv : (totaltree_place → (List Point) → (List Point) → Int → (List Int) → (List Int) → (List (totaltree_place × Int)) → Int → Int → (List (List UInt8 × Int)) → Int → (List Point) → (List Node) → Option (Int × (List (totaltree_place × Int)) × (List (List UInt8 × Int)) × (List Node)))) (p : totaltree_place) (a : List Point) (cHood : List Point) (cStates : Int) (cBirth : List Int) (cSurvive : List Int) (a1 : List (totaltree_place × Int)) (a2 : Int) (cv : Int) (cv1 : List (List UInt8 × Int)) (cStates1 : Int) (cHood1 : List Point) (cNodes : List Node) : Option (Int × (List (totaltree_place × Int)) × (List (List UInt8 × Int)) × (List Node)) :=
 (bif (eqB p.at_ (ah a)) then
  (d9 p.s (⟨cHood, cStates, cBirth, cSurvive⟩ : Totals)).bind fun y =>
  some (y, a1, cv1, cNodes)
 else
  (kckL [p.at_, p.s.ones, p.s.centre]).bind fun u =>
  (bif (fv a1 p) then
   some ((fx a1 p 0), a1, cv1, cNodes)
  else
   (al (aS rcv p a cHood cStates cBirth cSurvive a2 cv cStates1 cHood1 u) aY (0, cNodes, [(fZ .u8 (aA .i64 (ah a) p.at_))], [], a1, cv1)).bind fun (l, keyv, l1, mp, mp1) =>
   (kckS (ofBytes keyv)).bind fun _u1 =>
   ((bif (aM (fv mp1 (ofBytes keyv))) then
    (eP 32 l [(⟨(aA .i64 (ah a) p.at_), l1⟩ : Node)]).bind fun _l2 =>
    some ((ah l), (gr mp1 (ofBytes keyv) (ah l)), (l ++ [(⟨(aA .i64 (ah a) p.at_), l1⟩ : Node)]))
   else
    some ((fx mp1 (ofBytes keyv) 0), mp1, l))).bind fun (idv, mp2, l2) =>
   some (idv, (gr mp p idv), mp2, l2)))
def bm (p : totaltree_place) (a : List Point) (cHood : List Point) (cStates : Int) (cBirth : List Int) (cSurvive : List Int) (a1 : List (totaltree_place × Int)) (a2 : Int) (cv : Int) (cv1 : List (List UInt8 × Int)) (cStates1 : Int) (cHood1 : List Point) (cNodes : List Node) : Option (Int × (List (totaltree_place × Int)) × (List (List UInt8 × Int)) × (List Node)) := recN aT (fun _ _ _ _ _ _ _ _ _ _ _ _ _ => none) recF p a cHood cStates cBirth cSurvive a1 a2 cv cv1 cStates1 cHood1 cNodes
def aC (states : Int) (l : List Point) (start : totaltree_sum) (cv : Int) (cHood : List Point) (cStates : Int) (cBirth : List Int) (cSurvive : List Int) : Option (List Node) :=
 (bm (⟨0, ⟨start.ones, start.centre⟩⟩ : totaltree_place) l cHood cStates cBirth cSurvive [] states cv [] states l []).bind fun y =>
 some y.2.2.2
def dI (x : Totals) : Option (Tree × Int) :=
 (dz x).bind fun y =>
 (bif (aM y) then
  some ((⟨0, [], []⟩ : Tree), 2)
 else
  (fQ x.Hood).bind fun y1 =>
  (aF x.Hood).bind fun y2 =>
  (aC x.States y2 (⟨0, 0⟩ : totaltree_sum) y1 x.Hood x.States x.Birth x.Survive).bind fun y3 =>
  some ((⟨x.States, y2, y3⟩ : Tree), 0))
def eh (s : List UInt8) : Option (Tree × Int) :=
 (eE s).bind fun y =>
 ((bif (eqB y 1) then
  some (eqB y 1)
 else
  some (eqB y 2))).bind fun a =>
 (bif a then
  (bif (eqB y 2) then
   none
  else
   (dw s).bind fun y1 =>
   (bif (neB y1.2 0) then
    some ((⟨0, [], []⟩ : Tree), y1.2)
   else
    (dI y1.1).bind fun y2 =>
    some (y2.1, y2.2)))
 else
  ((bif (eqB y 3) then
   some (eqB y 3)
  else
   some (eqB y 4))).bind fun a1 =>
  (bif a1 then
   none
  else
   (bif (eqB y 5) then
    none
   else
    some ((⟨0, [], []⟩ : Tree), 7))))
def gD : Option (Ship) :=
 some (⟨[(⟨1, 0, 1⟩ : Cell), (⟨2, 1, 1⟩ : Cell), (⟨0, 2, 1⟩ : Cell), (⟨1, 2, 1⟩ : Cell), (⟨2, 2, 1⟩ : Cell)], ⟨4, 1, 1⟩⟩ : Ship)
def gX (t : Tree) (a1 : Int) (x : Node) (stt : Int) : Option (Lp (Int) (Bool ⊕ Unit)) := match stt with
 | a3 =>
  (bif (ltB a3 (ah x.Next)) then
   (idx x.Next a3).bind fun x1 =>
   ((bif (ltB x1 0) then
    some true
   else
    (bif (eqB x.Level 1) then
     (bif (geB x1 t.States) then
      some true
     else
      (bif (gtB x.Level 1) then
       (bif (geB x1 a1) then
        some true
       else
        (idx t.Nodes x1).bind fun x2 =>
        some (neB x2.Level (aA .i64 x.Level 1)))
      else
       some false))
    else
     (bif (gtB x.Level 1) then
      (bif (geB x1 a1) then
       some true
      else
       (idx t.Nodes x1).bind fun x2 =>
       some (neB x2.Level (aA .i64 x.Level 1)))
     else
      some false)))).bind fun a4 =>
   (bif a4 then
    some (.out (.inl false))
   else
    some (.next (aH .i64 a3 1)))
  else
   some (.out (.inr ())))
def hZ (t : Tree) (stt : Int) : Option (Lp (Int) (Bool ⊕ Unit)) := match stt with
 | a1 =>
  (bif (ltB a1 (ah t.Nodes)) then
   (idx t.Nodes a1).bind fun x =>
   ((bif (ltB x.Level 1) then
    some true
   else
    (bif (gtB x.Level (ah t.Hood)) then
     some true
    else
     some (neB (ah x.Next) t.States)))).bind fun a2 =>
   (bif a2 then
    some (.out (.inl false))
   else
    (al (gX t a1 x) aY 0).bind fun o => match o with
     | .inl r =>
      some (.out (.inl r))
     | .inr _u =>
      some (.next (aH .i64 a1 1)))
  else
   some (.out (.inr ())))
def cE (t : Tree) : Option (Bool) :=
 ((bif (ltB t.States 2) then
  some true
 else
  (bif (gtB t.States 8) then
   some true
  else
   (eX t.Hood).bind fun y =>
   (bif (aM y) then
    some true
   else
    (bif (ltB (ah t.Nodes) 1) then
     some true
    else
     (bif (gtB (ah t.Nodes) 4096) then
      some true
     else
      (idx t.Nodes (aA .i64 (ah t.Nodes) 1)).bind fun x =>
      some (neB x.Level (ah t.Hood)))))))).bind fun a =>
 (bif a then
  some false
 else
  (al (hZ t) aY 0).bind fun o => match o with
   | .inl r =>
    some r
   | .inr _u =>
    some true)
def gO (t : Tree) (in_ : List Int) (stt : Int × Int) : Option (Lp (Int × Int) (Int)) := match stt with
 | (k, a) =>
  (bif (ltB a (ah in_)) then
   (idx in_ a).bind fun x =>
   (idx t.Nodes k).bind fun x1 =>
   (idx x1.Next x).bind fun x2 =>
   some (.next (x2, (aH .i64 a 1)))
  else
   some (.out k))
def gB (t : Tree) (in_ : List Int) : Option (Int) :=
 (al (gO t in_) aY ((aA .i64 (ah t.Nodes) 1), 0)).bind fun k =>
 some k
def eg (t : Tree) : Option (Bool) :=
 ((cE t).bind fun y =>
 (bif y then
  (mkL 8 (ah t.Hood) (ah t.Hood) 0).bind fun _l =>
  (gB t (List.replicate (ah t.Hood).toNat 0)).bind fun y1 =>
  some (eqB y1 0)
 else
  some false)).bind fun a =>
 some a
def bM (cv : Cell) : Option (Point) :=
 some (⟨cv.X, cv.Y⟩ : Point)
def cT (p : Point) : Option (Bool) :=
 ((bif (leB (imax p.X p.Y) 1048576) then
  some (geB (imin p.X p.Y) (-1048576))
 else
  some false)).bind fun a =>
 some a
def d7 (a : Cell) (b : Cell) : Option (Int) :=
 (bM a).bind fun y =>
 (bM b).bind fun y1 =>
 (cu y y1).bind fun y2 =>
 some y2
def fc (p : List Cell) (stt : Int) : Option (Lp (Int) (Bool ⊕ Unit)) := match stt with
 | a =>
  (bif (ltB a (ah p)) then
   (idx p a).bind fun x =>
   ((bM x).bind fun y =>
   (cT y).bind fun y1 =>
   (bif (aM y1) then
    some true
   else
    (bif (ltB x.S 1) then
     some true
    else
     (bif (geB x.S 8) then
      some true
     else
      (bif (gtB a 0) then
       (idx p (aA .i64 a 1)).bind fun x1 =>
       (d7 x1 x).bind fun y2 =>
       some (geB y2 0)
      else
       some false))))).bind fun a1 =>
   (bif a1 then
    some (.out (.inl false))
   else
    some (.next (aH .i64 a 1)))
  else
   some (.out (.inr ())))
def bR (p : List Cell) : Option (Bool) :=
 (bif (gtB (ah p) 5000) then
  some false
 else
  (al (fc p) aY 0).bind fun o => match o with
   | .inl r =>
    some r
   | .inr _u =>
    some true)
def gl (p : List Cell) (stt : Int × Int × Int) : Option (Lp (Int × Int × Int) ((Int × Int))) := match stt with
 | (left, right, a1) =>
  (bif (ltB a1 (ah p)) then
   (idx p a1).bind fun x1 =>
   some (.next ((imin left x1.X), (imax right x1.X), (aH .i64 a1 1)))
  else
   some (.out (left, right)))
def dO (p : List Cell) : Option (Box × Bool) :=
 ((bif (eqB (ah p) 0) then
  some true
 else
  (bR p).bind fun y =>
  some (aM y))).bind fun a =>
 (bif a then
  some ((⟨0, 0, 0, 0⟩ : Box), false)
 else
  (idx p 0).bind fun x =>
  (al (gl p) aY (x.X, x.X, 0)).bind fun (left, right) =>
  (idx p (aA .i64 (ah p) 1)).bind fun x1 =>
  some ((⟨left, x.Y, (aH .i64 (aA .i64 right left) 1), (aH .i64 (aA .i64 x1.Y x.Y) 1)⟩ : Box), true))
def gk (p : List Cell) (stt : Int × Int) : Option (Lp (Int × Int) (Int)) := match stt with
 | (n, a) =>
  (bif (ltB a (ah p)) then
   (idx p a).bind fun x =>
   some (.next ((imax n x.S), (aH .i64 a 1)))
  else
   some (.out n))
def fL (p : List Cell) : Option (Int) :=
 (al (gk p) aY (0, 0)).bind fun n =>
 some n
def dZ (t : Tree) (p : List Cell) : Option (Int) :=
 (eg t).bind fun y =>
 (bif (aM y) then
  some 11
 else
  (bR p).bind fun y1 =>
  (bif (aM y1) then
   some 2
  else
   (fL p).bind fun y2 =>
   (bif (geB y2 t.States) then
    some 10
   else
    some 0)))
def ia (p : List Cell) (stt : Int × (List (Point × Int))) : Option (Lp (Int × (List (Point × Int))) ((List (Point × Int)))) := match stt with
 | (a, m) =>
  (bif (ltB a (ah p)) then
   (idx p a).bind fun x =>
   (kckL [x.X, x.Y]).bind fun _u =>
   some (.next ((aH .i64 a 1), (gr m (⟨x.X, x.Y⟩ : Point) x.S)))
  else
   some (.out m))
def m_direct_of (p : List Cell) : Option (List (Point × Int)) :=
 (al (ia p) aY (0, [])).bind fun m =>
 some m
def dt (m : List (Point × Int)) (t : Tree) (p : Point) (stt : Int × Int) : Option (Lp (Int × Int) (Int)) := match stt with
 | (k, a) =>
  (bif (ltB a (ah t.Hood)) then
   (idx t.Hood a).bind fun x =>
   (idx t.Nodes k).bind fun x1 =>
   (kckL [(aH .i64 p.X x.X), (aH .i64 p.Y x.Y)]).bind fun _u =>
   (idx x1.Next (fx m (⟨(aH .i64 p.X x.X), (aH .i64 p.Y x.Y)⟩ : Point) 0)).bind fun x2 =>
   some (.next (x2, (aH .i64 a 1)))
  else
   some (.out k))
def dP (m : List (Point × Int)) (t : Tree) (p : Point) : Option (Int) :=
 (al (dt m t p) aY ((aA .i64 (ah t.Nodes) 1), 0)).bind fun k =>
 some k
def fi (p : Point) : Option (Bool) :=
 ((bif (leB (imax p.X p.Y) 1048576) then
  some (geB (imin p.X p.Y) (-1048576))
 else
  some false)).bind fun a =>
 some a
def aR (l : List Cell) : Option (List Cell) := sortM bX l
def fC (l : List Cell) (stt : Int × (List Cell)) : Option (Lp (Int × (List Cell)) (((List Cell) × Int) ⊕ (List Cell))) := match stt with
 | (a, out) =>
  (bif (ltB a (ah l)) then
   (idx l a).bind fun x =>
   (bM x).bind fun y =>
   (cT y).bind fun y1 =>
   (bif (aM y1) then
    some (.out (.inl ([], 5)))
   else
    ((bif (ltB x.S 0) then
     some true
    else
     some (geB x.S 8))).bind fun a1 =>
    (bif a1 then
     some (.out (.inl ([], 10)))
    else
     (bif (gtB x.S 0) then
      (eP 24 out [x]).bind fun _l1 =>
      some (.next ((aH .i64 a 1), (out ++ [x])))
     else
      some (.next ((aH .i64 a 1), out)))))
  else
   some (.out (.inr out)))
def fE (_out : List Cell) (y : List Cell) (stt : Int) : Option (Lp (Int) (((List Cell) × Int) ⊕ Unit)) := match stt with
 | i =>
  (bif (ltB i (ah y)) then
   (idx y (aA .i64 i 1)).bind fun x =>
   (bM x).bind fun y1 =>
   (idx y i).bind fun x1 =>
   (bM x1).bind fun y2 =>
   (bif (bA (eqB y1.X y2.X) (bA (eqB y1.Y y2.Y) true)) then
    some (.out (.inl ([], 8)))
   else
    some (.next (aH .i64 i 1)))
  else
   some (.out (.inr ())))
def fo (l : List Cell) : Option ((List Cell) × Int) :=
 (al (fC l) aY (0, [])).bind fun o => match o with
  | .inl r =>
   some r
  | .inr out =>
   (aR out).bind fun y =>
   (al (fE out y) aY 1).bind fun o => match o with
    | .inl r =>
     some r
    | .inr _u =>
     (bif (gtB (ah y) 5000) then
      some ([], 6)
     else
      some (y, 0))
def gn (t : Tree) (_p : List Cell) (y : List (Point × Int)) (_a : Int) (x : Cell) (stt : Int × (List (Point × Bool)) × (List Cell)) : Option (Lp (Int × (List (Point × Bool)) × (List Cell)) (((List Cell) × Int) ⊕ ((List (Point × Bool)) × (List Cell)))) := match stt with
 | (a1, done1, l1) =>
  (bif (ltB a1 (ah t.Hood)) then
   (idx t.Hood a1).bind fun x1 =>
   (kckL [(aA .i64 x.X x1.X), (aA .i64 x.Y x1.Y)]).bind fun _u =>
   (bif (fx done1 (⟨(aA .i64 x.X x1.X), (aA .i64 x.Y x1.Y)⟩ : Point) false) then
    some (.next ((aH .i64 a1 1), done1, l1))
   else
    (dP y t (⟨(aA .i64 x.X x1.X), (aA .i64 x.Y x1.Y)⟩ : Point)).bind fun y1 =>
    (bif (gtB y1 0) then
     (fi (⟨(aA .i64 x.X x1.X), (aA .i64 x.Y x1.Y)⟩ : Point)).bind fun y2 =>
     (bif (aM y2) then
      some (.out (.inl ([], 5)))
     else
      (eP 24 l1 [(⟨(aA .i64 x.X x1.X), (aA .i64 x.Y x1.Y), y1⟩ : Cell)]).bind fun _l2 =>
      some (.next ((aH .i64 a1 1), (gr done1 (⟨(aA .i64 x.X x1.X), (aA .i64 x.Y x1.Y)⟩ : Point) true), (l1 ++ [(⟨(aA .i64 x.X x1.X), (aA .i64 x.Y x1.Y), y1⟩ : Cell)]))))
    else
     some (.next ((aH .i64 a1 1), (gr done1 (⟨(aA .i64 x.X x1.X), (aA .i64 x.Y x1.Y)⟩ : Point) true), l1))))
  else
   some (.out (.inr (done1, l1))))
def gm (t : Tree) (p : List Cell) (y : List (Point × Int)) (stt : Int × (List (Point × Bool)) × (List Cell)) : Option (Lp (Int × (List (Point × Bool)) × (List Cell)) (((List Cell) × Int) ⊕ (List Cell))) := match stt with
 | (a, done, l) =>
  (bif (ltB a (ah p)) then
   (idx p a).bind fun x =>
   (al (gn t p y a x) aY (0, done, l)).bind fun o => match o with
    | .inl r =>
     some (.out (.inl r))
    | .inr (done1, l1) =>
     some (.next ((aH .i64 a 1), done1, l1))
  else
   some (.out (.inr l)))
def eA (t : Tree) (p : List Cell) : Option ((List Cell) × Int) :=
 (m_direct_of p).bind fun y =>
 (al (gm t p y) aY (0, [], [])).bind fun o => match o with
  | .inl r =>
   some r
  | .inr l =>
   (fo l).bind fun y1 =>
   some (y1.1, y1.2)
def gU (t : Tree) (n : Int) (stt : (List Cell) × Int) : Option (Lp ((List Cell) × Int) (((List Cell) × Int) ⊕ (List Cell))) := match stt with
 | (p1, a1) =>
  (bif (ltB a1 n) then
   (eA t p1).bind fun y1 =>
   (bif (neB y1.2 0) then
    some (.out (.inl ([], y1.2)))
   else
    some (.next (y1.1, (aH .i64 a1 1))))
  else
   some (.out (.inr p1)))
def ec (t : Tree) (p : List Cell) (n : Int) : Option ((List Cell) × Int) :=
 (dZ t p).bind fun y =>
 (bif (neB y 0) then
  some ([], y)
 else
  ((bif (ltB n 0) then
   some true
  else
   some (gtB n 10000))).bind fun a =>
  (bif a then
   some ([], 2)
  else
   (al (gU t n) aY (p, 0)).bind fun o => match o with
    | .inl r =>
     some r
    | .inr p1 =>
     some (p1, 0)))
def eF (n : Int) : Option (Bool) :=
 ((bif (geB n 1) then
  some (leB n 64)
 else
  some false)).bind fun a =>
 some a
def fT (t : Tree) (p : List Cell) : Option ((List Cell) × Int) :=
 (dZ t p).bind fun y =>
 (bif (neB y 0) then
  some ([], y)
 else
  (eA t p).bind fun y1 =>
  some (y1.1, y1.2))
def fG (a : List Cell) (b : List Cell) (x : Cell) (x1 : Cell) (stt : Int) : Option (Lp (Int) ((Int × Int × Bool) ⊕ Unit)) := match stt with
 | a2 =>
  (bif (ltB a2 (ah a)) then
   (idx b a2).bind fun x2 =>
   (idx a a2).bind fun x3 =>
   (bif (aM (bA (eqB x2.X (aH .i64 x3.X (aA .i64 x.X x1.X))) (bA (eqB x2.Y (aH .i64 x3.Y (aA .i64 x.Y x1.Y))) (bA (eqB x2.S x3.S) true)))) then
    some (.out (.inl (0, 0, false)))
   else
    some (.next (aH .i64 a2 1)))
  else
   some (.out (.inr ())))
def eY (a : List Cell) (b : List Cell) : Option (Int × Int × Bool) :=
 ((bif (neB (ah a) (ah b)) then
  some true
 else
  some (eqB (ah a) 0))).bind fun a1 =>
 (bif a1 then
  some (0, 0, false)
 else
  (idx b 0).bind fun x =>
  (idx a 0).bind fun x1 =>
  (al (fG a b x x1) aY 0).bind fun o => match o with
   | .inl r =>
    some r
   | .inr _u =>
    some ((aA .i64 x.X x1.X), (aA .i64 x.Y x1.Y), true))
def gh (t : Tree) (p : List Cell) (most : Int) (stt : (List Cell) × Int) : Option (Lp ((List Cell) × Int) ((Motion × Bool × Int) ⊕ Unit)) := match stt with
 | (q, gv) =>
  ((bif (leB gv most) then
   some (gtB (ah q) 0)
  else
   some false)).bind fun a =>
  (bif a then
   (fT t q).bind fun y2 =>
   (bif (neB y2.2 0) then
    some (.out (.inl ((⟨0, 0, 0⟩ : Motion), false, y2.2)))
   else
    (eY p y2.1).bind fun y3 =>
    (bif y3.2.2 then
     some (.out (.inl ((⟨gv, y3.1, y3.2.1⟩ : Motion), true, 0)))
    else
     some (.next (y2.1, (aH .i64 gv 1)))))
  else
   some (.out (.inr ())))
def fN (t : Tree) (p : List Cell) (most : Int) : Option (Motion × Bool × Int) :=
 (ec t p 0).bind fun y =>
 (bif (neB y.2 0) then
  some ((⟨0, 0, 0⟩ : Motion), false, y.2)
 else
  (eF most).bind fun y1 =>
  (bif (aM y1) then
   some ((⟨0, 0, 0⟩ : Motion), false, 2)
  else
   (al (gh t p most) aY (p, 1)).bind fun o => match o with
    | .inl r =>
     some r
    | .inr _u =>
     some ((⟨0, 0, 0⟩ : Motion), false, 0)))
def gH (t : Tree) (p : List Cell) (m : Motion) : Option (Bool × Int) :=
 (fN t p m.Period).bind fun y =>
 ((bif y.2.1 then
  some (bA (eqB y.1.Period m.Period) (bA (eqB y.1.DX m.DX) (bA (eqB y.1.DY m.DY) true)))
 else
  some false)).bind fun a =>
 some (a, y.2.2)
def eT (t : Tree) (s : Ship) : Option (Bool) :=
 (dO s.Cells).bind fun y =>
 ((bif (aM y.2) then
  some true
 else
  (bif (gtB y.1.W 10000) then
   some true
  else
   some (gtB y.1.H 10000)))).bind fun a =>
 (bif a then
  some false
 else
  (gH t s.Cells s.Motion).bind fun y1 =>
  ((bif y1.1 then
   some (eqB y1.2 0)
  else
   some false)).bind fun a1 =>
  some a1)
def fz (p : List Cell) (y : Box × Bool) (stt : Int × (List Cell)) : Option (Lp (Int × (List Cell)) ((List Cell))) := match stt with
 | (a1, out) =>
  (bif (ltB a1 (ah p)) then
   (idx p a1).bind fun x =>
   (eP 24 out [(⟨(aA .i64 x.X y.1.X), (aA .i64 x.Y y.1.Y), x.S⟩ : Cell)]).bind fun _l1 =>
   some (.next ((aH .i64 a1 1), (out ++ [(⟨(aA .i64 x.X y.1.X), (aA .i64 x.Y y.1.Y), x.S⟩ : Cell)])))
  else
   some (.out out))
def e9 (p : List Cell) : Option (List Cell) :=
 (dO p).bind fun y =>
 ((bif (aM y.2) then
  some true
 else
  (bR p).bind fun y1 =>
  some (aM y1))).bind fun a =>
 (bif a then
  some p
 else
  (mkL 24 0 (ah p) (⟨0, 0, 0⟩ : Cell)).bind fun _l =>
  (al (fz p y) aY (0, [])).bind fun out =>
  some out)
def fp (t : Tree) (s : Ship) (n : Int) : Option ((List Cell) × Int) :=
 (eg t).bind fun y =>
 (bif (aM y) then
  some ([], 11)
 else
  ((bif (ltB n 0) then
   some true
  else
   (bif (gtB n 10000) then
    some true
   else
    (eT t s).bind fun y1 =>
    some (aM y1)))).bind fun a =>
  (bif a then
   some ([], 2)
  else
   (irem n s.Motion.Period).bind fun n1 =>
   (ec t s.Cells n1).bind fun y1 =>
   (e9 y1.1).bind fun y2 =>
   some (y2, y1.2)))
def dN (a : Cell) (b : Cell) : Option (Int) :=
 (bc a.Y b.Y).bind fun y =>
 (bc a.X b.X).bind fun y1 =>
 (dC [y, y1]).bind fun y2 =>
 some y2
def aQ (l : List Cell) : Option (List Cell) := sortM bZ l
def fy (k : Int) (p : List Cell) (stt : Int × (List Cell)) : Option (Lp (Int × (List Cell)) ((List Cell))) := match stt with
 | (a, out) =>
  (bif (ltB a (ah p)) then
   (idx p a).bind fun x =>
   (bn k (⟨x.X, x.Y⟩ : Point)).bind fun y1 =>
   (eP 24 out [(⟨y1.X, y1.Y, x.S⟩ : Cell)]).bind fun _l1 =>
   some (.next ((aH .i64 a 1), (out ++ [(⟨y1.X, y1.Y, x.S⟩ : Cell)])))
  else
   some (.out out))
def e7 (k : Int) (p : List Cell) : Option ((List Cell) × Int) :=
 (bR p).bind fun y =>
 (bif (aM y) then
  some ([], 2)
 else
  (mkL 24 0 (ah p) (⟨0, 0, 0⟩ : Cell)).bind fun _l =>
  (al (fy k p) aY (0, [])).bind fun out =>
  (aQ out).bind fun y1 =>
  some (y1, 0))
def cO (l : List Cell) : Option (List Cell) := eP 24 [] l
def eZ (dx : Int) (dy : Int) (y1 : List Cell) (stt : Int × (List Cell)) : Option (Lp (Int × (List Cell)) (((List Cell) × Int) ⊕ (List Cell))) := match stt with
 | (a1, out) =>
  (bif (ltB a1 (ah y1)) then
   (idx out a1).bind fun x =>
   (idx (out.set a1.toNat (⟨(aH .i64 x.X dx), x.Y, x.S⟩ : Cell)) a1).bind fun x1 =>
   (idx ((out.set a1.toNat (⟨(aH .i64 x.X dx), x.Y, x.S⟩ : Cell)).set a1.toNat (⟨x1.X, (aH .i64 x1.Y dy), x1.S⟩ : Cell)) a1).bind fun x2 =>
   (bM x2).bind fun y2 =>
   (cT y2).bind fun y3 =>
   (bif (aM y3) then
    some (.out (.inl ([], 5)))
   else
    some (.next ((aH .i64 a1 1), ((out.set a1.toNat (⟨(aH .i64 x.X dx), x.Y, x.S⟩ : Cell)).set a1.toNat (⟨x1.X, (aH .i64 x1.Y dy), x1.S⟩ : Cell)))))
  else
   some (.out (.inr out)))
def eD (p : List Cell) (dx : Int) (dy : Int) : Option ((List Cell) × Int) :=
 (bR p).bind fun y =>
 (bif (aM y) then
  some ([], 2)
 else
  ((bif (gtB (imax dx dy) 2097152) then
   some true
  else
   some (ltB (imin dx dy) (-2097152)))).bind fun a =>
  (bif a then
   some ([], 5)
  else
   (cO p).bind fun y1 =>
   (al (eZ dx dy y1) aY (0, y1)).bind fun o => match o with
    | .inl r =>
     some r
    | .inr out =>
     some (out, 0)))
def eb (t : Tree) (ships : List Ship) (x : Shot) : Option ((List Cell) × Int) :=
 (eg t).bind fun y =>
 (bif (aM y) then
  some ([], 11)
 else
  ((bif (ltB x.Ship 0) then
   some true
  else
   some (geB x.Ship (ah ships)))).bind fun a =>
  (bif a then
   some ([], 13)
  else
   ((bif (ltB x.Sym 0) then
    some true
   else
    some (gtB x.Sym 7))).bind fun a1 =>
   (bif a1 then
    some ([], 2)
   else
    (idx ships x.Ship).bind fun x1 =>
    (fp t x1 x.Phase).bind fun y1 =>
    (bif (neB y1.2 0) then
     some ([], y1.2)
    else
     (e7 x.Sym y1.1).bind fun y2 =>
     (bif (neB y2.2 0) then
      some ([], y2.2)
     else
      (e9 y2.1).bind fun y3 =>
      (eD y3 x.X x.Y).bind fun y4 =>
      some (y4.1, y4.2))))))
def cH (l : List Int) : Option (List Int) := eP 8 [] l
def db (_x : Int) (next : List Int) : Option (List Int) :=
 some next
def cb (i : Int) (base : Int) : Option (List Int) :=
 ((bif (ltB i 0) then
  (eP 1 [] [45]).bind fun _l =>
  some ((dl .u64 (fZ .u64 i)), ([] ++ [45]))
 else
  some ((fZ .u64 i), []))).bind fun (u, dst) =>
 (bk dst u base).bind fun y =>
 some y
def cY (i : Int) (base : Int) : Option (List Int) :=
 (cb i base).bind fun y =>
 some y
def d3 (_bnodes : List Node) (_bknown : List (List UInt8 × Int)) (_level : Int) (next : List Int) (stt : Int × (List Int)) : Option (Lp (Int × (List Int)) ((List Int))) := match stt with
 | (a, keyv) =>
  (bif (ltB a (ah next)) then
   (idx next a).bind fun x =>
   (eP 1 keyv [32]).bind fun _l =>
   (bV (keyv ++ [32]) x 10).bind fun y1 =>
   some (.next ((aH .i64 a 1), y1))
  else
   some (.out keyv))
def cn (bnodes : List Node) (bknown : List (List UInt8 × Int)) (level : Int) (next : List Int) : Option (Int × (List (List UInt8 × Int)) × (List Node)) :=
 (cY level 10).bind fun y =>
 (al (d3 bnodes bknown level next) aY (0, y)).bind fun keyv =>
 (kckS (ofBytes keyv)).bind fun _u =>
 (bif (fv bknown (ofBytes keyv)) then
  some ((fx bknown (ofBytes keyv) 0), bknown, bnodes)
 else
  (eP 32 bnodes [(⟨level, next⟩ : Node)]).bind fun _l =>
  some ((aA .i64 ((ah bnodes) + 1) 1), (gr bknown (ofBytes keyv) (aA .i64 ((ah bnodes) + 1) 1)), (bnodes ++ [(⟨level, next⟩ : Node)])))
def cy (rcv : (Int → (List Int) → (List Node) → (List Node) → Option (Int × (List Int) × (List Node)))) (_k : Int) (a1 : List Node) (x1 : Node) (y : List Int) (stt : Int × (List Int) × (List Node) × (List Int)) : Option (Lp (Int × (List Int) × (List Node) × (List Int)) (((List Int) × (List Node) × (List Int)))) := match stt with
 | (a2, l, l2, l1) =>
  (bif (ltB a2 (ah y)) then
   ((idx l a2).bind fun x2 =>
   (bif (gtB x1.Level 1) then
    (rcv x2 l1 a1 l2).bind fun y1 =>
    some ((l.set a2.toNat y1.1), y1.2.1, y1.2.2)
   else
    some (l, l1, l2))).bind fun (l3, l4, l5) =>
   some (.next ((aH .i64 a2 1), l3, l5, l4))
  else
   some (.out (l, l2, l1)))
def cG (rcv : (Int → (List Int) → (List Node) → (List Node) → Option (Int × (List Int) × (List Node)))) (k : Int) (a : List Int) (a1 : List Node) (cv : List Node) : Option (Int × (List Int) × (List Node)) :=
 (idx a k).bind fun x =>
 (bif (gtB x 0) then
  some ((aA .i64 x 1), a, cv)
 else
  (idx a1 k).bind fun x1 =>
  (cH x1.Next).bind fun y =>
  (al (cy rcv k a1 x1 y) aY (0, y, cv, a)).bind fun (l, l1, l2) =>
  (eP 32 l1 [(⟨x1.Level, l⟩ : Node)]).bind fun _l3 =>
  (idx l2 k).bind fun _x2 =>
  some ((aA .i64 ((ah l1) + 1) 1), (l2.set k.toNat ((ah l1) + 1)), (l1 ++ [(⟨x1.Level, l⟩ : Node)])))
def e6 (k : Int) (a : List Int) (a1 : List Node) (cv : List Node) : Option (Int × (List Int) × (List Node)) := recN cG (fun _ _ _ _ => none) recF k a a1 cv
def cS (nodes : List Node) (root : Int) : Option (List Node) :=
 (mkL 8 (ah nodes) (ah nodes) 0).bind fun _l =>
 (e6 root (List.replicate (ah nodes).toNat 0) nodes []).bind fun y =>
 some y.2.2
def bv (_t : Tree) (_a : Int) (_mp : List (List UInt8 × Int)) (_l : List Node) (to_ : List Int) (x : Node) (y : List Int) (stt : Int × (List Int)) : Option (Lp (Int × (List Int)) ((List Int))) := match stt with
 | (a1, next) =>
  (bif (ltB a1 (ah y)) then
   ((idx next a1).bind fun x1 =>
   (bif (gtB x.Level 1) then
    (idx to_ x1).bind fun x2 =>
    some (next.set a1.toNat x2)
   else
    some next)).bind fun next1 =>
   some (.next ((aH .i64 a1 1), next1))
  else
   some (.out next))
def bq (t : Tree) (stt : Int × (List (List UInt8 × Int)) × (List Node) × (List Int)) : Option (Lp (Int × (List (List UInt8 × Int)) × (List Node) × (List Int)) (((List (List UInt8 × Int)) × (List Node) × (List Int)))) := match stt with
 | (a, mp, l, to_) =>
  (bif (ltB a (ah t.Nodes)) then
   (idx t.Nodes a).bind fun x =>
   (cH x.Next).bind fun y =>
   (al (bv t a mp l to_ x y) aY (0, y)).bind fun next =>
   (db x.Level next).bind fun y1 =>
   (cn l mp x.Level y1).bind fun y2 =>
   (eP 8 to_ [y2.1]).bind fun _l1 =>
   some (.next ((aH .i64 a 1), y2.2.1, y2.2.2, (to_ ++ [y2.1])))
  else
   some (.out (mp, l, to_)))
def bE (t : Tree) : Option (List Node) :=
 (al (bq t) aY (0, [], [], [])).bind fun (_mp, l, to_) =>
 (aF t.Hood).bind fun _l1 =>
 (idx to_ (aA .i64 (ah to_) 1)).bind fun x =>
 (cS l x).bind fun y =>
 some y
def f6 (t : Tree) : Option (Int × (List Node) × (List Point)) :=
 (cE t).bind fun y =>
 (bif (aM y) then
  some (0, [], [])
 else
  (bE t).bind fun y1 =>
  some (t.States, y1, t.Hood))
def cK (_bnodes : List Node) (_bknown : List (List UInt8 × Int)) (_level : Int) (next : List Int) (stt : Int × (List Int)) : Option (Lp (Int × (List Int)) ((List Int))) := match stt with
 | (a, keyv) =>
  (bif (ltB a (ah next)) then
   (idx next a).bind fun x =>
   (eP 1 keyv [32]).bind fun _l =>
   (bV (keyv ++ [32]) x 10).bind fun y1 =>
   some (.next ((aH .i64 a 1), y1))
  else
   some (.out keyv))
def bT (bnodes : List Node) (bknown : List (List UInt8 × Int)) (level : Int) (next : List Int) : Option (Int × (List (List UInt8 × Int)) × (List Node)) :=
 (cY level 10).bind fun y =>
 (al (cK bnodes bknown level next) aY (0, y)).bind fun keyv =>
 (kckS (ofBytes keyv)).bind fun _u =>
 (bif (fv bknown (ofBytes keyv)) then
  some ((fx bknown (ofBytes keyv) 0), bknown, bnodes)
 else
  (eP 32 bnodes [(⟨level, next⟩ : Node)]).bind fun _l =>
  some ((aA .i64 ((ah bnodes) + 1) 1), (gr bknown (ofBytes keyv) (aA .i64 ((ah bnodes) + 1) 1)), (bnodes ++ [(⟨level, next⟩ : Node)])))
def dF (_tStates : Int) (tHood : List Point) (tNodes : List Node) (i : Int) (_a : Int) (to_ : List Int) (x : Node) (a1 : Int) (_mp1 : List (List UInt8 × Int)) (_next : List Int) (_l3 : List Node) (stt : Int × (List Int)) : Option (Lp (Int × (List Int)) ((List Int))) := match stt with
 | (a2, inner) =>
  (bif (ltB a2 (ah x.Next)) then
   ((idx x.Next a2).bind fun x2 =>
   (idx tNodes x2).bind fun x3 =>
   (idx x3.Next a1).bind fun x4 =>
   (idx inner a2).bind fun _x5 =>
   (bif (gtB (aA .i64 (ah tHood) i) 2) then
    (idx (inner.set a2.toNat x4) a2).bind fun x6 =>
    (idx to_ x6).bind fun x7 =>
    some ((inner.set a2.toNat x4).set a2.toNat x7)
   else
    some (inner.set a2.toNat x4))).bind fun inner1 =>
   some (.next ((aH .i64 a2 1), inner1))
  else
   some (.out inner))
def dD (tStates : Int) (tHood : List Point) (tNodes : List Node) (i : Int) (a : Int) (to_ : List Int) (x : Node) (stt : Int × (List (List UInt8 × Int)) × (List Int) × (List Node)) : Option (Lp (Int × (List (List UInt8 × Int)) × (List Int) × (List Node)) (((List (List UInt8 × Int)) × (List Int) × (List Node)))) := match stt with
 | (a1, mp1, next, l3) =>
  (bif (ltB a1 (ah x.Next)) then
   (idx x.Next a1).bind fun x1 =>
   (bif (eqB x.Level (aA .i64 (ah tHood) i)) then
    (mkL 8 tStates tStates 0).bind fun _l4 =>
    (al (dF tStates tHood tNodes i a to_ x a1 mp1 next l3) aY (0, (List.replicate tStates.toNat 0))).bind fun inner =>
    (bT l3 mp1 (aA .i64 (aA .i64 (ah tHood) i) 1) inner).bind fun y =>
    (idx next a1).bind fun _x2 =>
    some (.next ((aH .i64 a1 1), y.2.1, (next.set a1.toNat y.1), y.2.2))
   else
    (bif (gtB x.Level 1) then
     (idx to_ x1).bind fun x2 =>
     (idx next a1).bind fun _x3 =>
     some (.next ((aH .i64 a1 1), mp1, (next.set a1.toNat x2), l3))
    else
     (idx next a1).bind fun _x2 =>
     some (.next ((aH .i64 a1 1), mp1, (next.set a1.toNat x1), l3))))
  else
   some (.out (mp1, next, l3)))
def dE (tStates : Int) (tHood : List Point) (tNodes : List Node) (i : Int) (stt : Int × (List (List UInt8 × Int)) × (List Int) × (List Node)) : Option (Lp (Int × (List (List UInt8 × Int)) × (List Int) × (List Node)) (((List (List UInt8 × Int)) × (List Int) × (List Node)))) := match stt with
 | (a, mp, to_, l1) =>
  (bif (ltB a (ah tNodes)) then
   (idx tNodes a).bind fun x =>
   (bif (eqB x.Level (aA .i64 (aA .i64 (ah tHood) i) 1)) then
    some (.next ((aH .i64 a 1), mp, to_, l1))
   else
    (mkL 8 tStates tStates 0).bind fun _l2 =>
    (al (dD tStates tHood tNodes i a to_ x) aY (0, mp, (List.replicate tStates.toNat 0), l1)).bind fun (mp1, next, l3) =>
    (bT l3 mp1 x.Level next).bind fun y =>
    (idx to_ a).bind fun _x1 =>
    some (.next ((aH .i64 a 1), y.2.1, (to_.set a.toNat y.1), y.2.2)))
  else
   some (.out (mp, to_, l1)))
def dY (tStates : Int) (tHood : List Point) (tNodes : List Node) (i : Int) : Option (List Node) :=
 (mkL 8 (ah tNodes) (ah tNodes) 0).bind fun _l =>
 (al (dE tStates tHood tNodes i) aY (0, [], (List.replicate (ah tNodes).toNat 0), [])).bind fun (_mp, to_, l1) =>
 (idx to_ (aA .i64 (ah to_) 1)).bind fun x =>
 (cS l1 x).bind fun y =>
 some y
def f7 (t : Tree) : Option (Tree × Int) :=
 (bif (gtB (ah t.Nodes) 4096) then
  some ((⟨0, [], []⟩ : Tree), 6)
 else
  some (t, 0))
def ge (k : Int) (y1 : Int × (List Node) × (List Point)) (stt : Int × (List Point)) : Option (Lp (Int × (List Point)) ((List Point))) := match stt with
 | (a, l) =>
  (bif (ltB a (ah y1.2.2)) then
   (idx l a).bind fun x =>
   (bn k x).bind fun y2 =>
   some (.next ((aH .i64 a 1), (l.set a.toNat y2)))
  else
   some (.out l))
def gg (y1 : Int × (List Node) × (List Point)) (stt : Bool × Int × (List Node) × (List Point)) : Option (Lp (Bool × Int × (List Node) × (List Point)) ((Bool × (List Node) × (List Point)))) := match stt with
 | (sorted1, i, uNodes1, l2) =>
  (bif (ltB i (ah l2)) then
   ((idx l2 (aA .i64 i 1)).bind fun x =>
   (idx l2 i).bind fun x1 =>
   (cu x x1).bind fun y2 =>
   (bif (gtB y2 0) then
    (dY y1.1 l2 uNodes1 (aA .i64 i 1)).bind fun y3 =>
    (idx (l2.set (aA .i64 i 1).toNat x1) i).bind fun _x2 =>
    some (false, y3, ((l2.set (aA .i64 i 1).toNat x1).set i.toNat x))
   else
    some (sorted1, uNodes1, l2))).bind fun (sorted2, uNodes2, l3) =>
   some (.next (sorted2, (aH .i64 i 1), uNodes2, l3))
  else
   some (.out (sorted1, uNodes1, l2)))
def gd (y1 : Int × (List Node) × (List Point)) (stt : Bool × (List Node) × (List Point)) : Option (Lp (Bool × (List Node) × (List Point)) (((List Node) × (List Point)))) := match stt with
 | (sorted, uNodes, l1) =>
  (bif (aM sorted) then
   (al (gg y1) aY (true, 1, uNodes, l1)).bind fun (sorted1, uNodes1, l2) =>
   some (.next (sorted1, uNodes1, l2))
  else
   some (.out (uNodes, l1)))
def fP (k : Int) (t : Tree) : Option (Tree × Int) :=
 (cE t).bind fun y =>
 (bif (aM y) then
  some ((⟨0, [], []⟩ : Tree), 11)
 else
  (f6 t).bind fun y1 =>
  (al (ge k y1) aY (0, y1.2.2)).bind fun l =>
  (al (gd y1) aY (false, y1.2.1, l)).bind fun (uNodes, l1) =>
  (f7 (⟨y1.1, l1, uNodes⟩ : Tree)).bind fun y2 =>
  some (y2.1, y2.2))
def bD (_t : Tree) (_a : Int) (_mp : List (List UInt8 × Int)) (_l : List Node) (to_ : List Int) (x : Node) (y : List Int) (stt : Int × (List Int)) : Option (Lp (Int × (List Int)) ((List Int))) := match stt with
 | (a1, next) =>
  (bif (ltB a1 (ah y)) then
   ((idx next a1).bind fun x1 =>
   (bif (gtB x.Level 1) then
    (idx to_ x1).bind fun x2 =>
    some (next.set a1.toNat x2)
   else
    some next)).bind fun next1 =>
   some (.next ((aH .i64 a1 1), next1))
  else
   some (.out next))
def bC (t : Tree) (stt : Int × (List (List UInt8 × Int)) × (List Node) × (List Int)) : Option (Lp (Int × (List (List UInt8 × Int)) × (List Node) × (List Int)) (((List (List UInt8 × Int)) × (List Node) × (List Int)))) := match stt with
 | (a, mp, l, to_) =>
  (bif (ltB a (ah t.Nodes)) then
   (idx t.Nodes a).bind fun x =>
   (cH x.Next).bind fun y =>
   (al (bD t a mp l to_ x y) aY (0, y)).bind fun next =>
   (db x.Level next).bind fun y1 =>
   (cn l mp x.Level y1).bind fun y2 =>
   (eP 8 to_ [y2.1]).bind fun _l1 =>
   some (.next ((aH .i64 a 1), y2.2.1, y2.2.2, (to_ ++ [y2.1])))
  else
   some (.out (mp, l, to_)))
def be (t : Tree) : Option (Tree) :=
 (al (bC t) aY (0, [], [], [])).bind fun (_mp, l, to_) =>
 (aF t.Hood).bind fun y =>
 (idx to_ (aA .i64 (ah to_) 1)).bind fun x =>
 (cS l x).bind fun y1 =>
 some (⟨t.States, y, y1⟩ : Tree)
def dM (t : Tree) : Option (Tree) :=
 (cE t).bind fun y =>
 (bif (aM y) then
  some (⟨0, [], []⟩ : Tree)
 else
  (be t).bind fun y1 =>
  some y1)
def dj (s1 : List Int) (s2 : List Int) (stt : Int) : Option (Lp (Int) (Bool ⊕ Unit)) := match stt with
 | a =>
  (bif (ltB a (ah s1)) then
   (idx s1 a).bind fun x =>
   (idx s2 a).bind fun x1 =>
   (bif (neB x x1) then
    some (.out (.inl false))
   else
    some (.next (aH .i64 a 1)))
  else
   some (.out (.inr ())))
def cD (s1 : List Int) (s2 : List Int) : Option (Bool) :=
 (bif (neB (ah s1) (ah s2)) then
  some false
 else
  (al (dj s1 s2) aY 0).bind fun o => match o with
   | .inl r =>
    some r
   | .inr _u =>
    some true)
def fO (x : Node) (y : Node) : Option (Bool) :=
 ((bif (eqB x.Level y.Level) then
  (cD x.Next y.Next).bind fun y1 =>
  some y1
 else
  some false)).bind fun a =>
 some a
def aD (s1 : List Node) (s2 : List Node) (stt : Int) : Option (Lp (Int) (Bool ⊕ Unit)) := match stt with
 | a =>
  (bif (ltB a (ah s1)) then
   (idx s1 a).bind fun x =>
   (idx s2 a).bind fun x1 =>
   (fO x x1).bind fun y =>
   (bif (aM y) then
    some (.out (.inl false))
   else
    some (.next (aH .i64 a 1)))
  else
   some (.out (.inr ())))
def az (s1 : List Node) (s2 : List Node) : Option (Bool) :=
 (bif (neB (ah s1) (ah s2)) then
  some false
 else
  (al (aD s1 s2) aY 0).bind fun o => match o with
   | .inl r =>
    some r
   | .inr _u =>
    some true)
def i7 (a : Tree) (b : Tree) : Option (Bool) :=
 ((bif (eqB a.States b.States) then
  (dA a.Hood b.Hood).bind fun y =>
  (bif y then
   (az a.Nodes b.Nodes).bind fun y1 =>
   some y1
  else
   some false)
 else
  some false)).bind fun a1 =>
 some a1
def f5 (a : Tree) (b : Tree) : Option (Bool) :=
 ((cE a).bind fun y =>
 (bif y then
  (cE b).bind fun y1 =>
  (bif y1 then
   (bif (eqB a.States b.States) then
    (dA a.Hood b.Hood).bind fun y2 =>
    (bif y2 then
     (dM a).bind fun y3 =>
     (dM b).bind fun y4 =>
     (i7 y3 y4).bind fun y5 =>
     some y5
    else
     some false)
   else
    some false)
  else
   some false)
 else
  some false)).bind fun a1 =>
 some a1
def eu (t : Tree) (s : Ship) (sym : Int) (n : Int) : Option (Point × Int) :=
 (irem n s.Motion.Period).bind fun n1 =>
 (ec t s.Cells n1).bind fun y =>
 (bif (neB y.2 0) then
  some ((⟨0, 0⟩ : Point), y.2)
 else
  (e7 sym y.1).bind fun y1 =>
  (bif (neB y1.2 0) then
   some ((⟨0, 0⟩ : Point), y1.2)
  else
   (dO y1.1).bind fun y2 =>
   (cP sym s.Motion).bind fun y3 =>
   (iquo .i64 n s.Motion.Period).bind fun n2 =>
   some ((⟨(aH .i64 y2.1.X (bP .i64 n2 y3.DX)), (aH .i64 y2.1.Y (bP .i64 n2 y3.DY))⟩ : Point), 0)))
def gG (t : Tree) (ships : List Ship) (x : Shot) (n : Int) : Option (Shot × Int) :=
 (eb t ships x).bind fun y =>
 (bif (neB y.2 0) then
  some ((⟨0, 0, 0, 0, 0⟩ : Shot), y.2)
 else
  ((bif (ltB n 0) then
   some true
  else
   some (gtB n 10000))).bind fun a =>
  (bif a then
   some ((⟨0, 0, 0, 0, 0⟩ : Shot), 2)
  else
   (fP x.Sym t).bind fun y1 =>
   ((bif (neB y1.2 0) then
    some true
   else
    (f5 t y1.1).bind fun y2 =>
    some (aM y2))).bind fun a1 =>
   (bif a1 then
    some ((⟨0, 0, 0, 0, 0⟩ : Shot), 11)
   else
    (idx ships x.Ship).bind fun x1 =>
    (eu t x1 x.Sym x.Phase).bind fun y2 =>
    (bif (neB y2.2 0) then
     some ((⟨0, 0, 0, 0, 0⟩ : Shot), y2.2)
    else
     (eu t x1 x.Sym (aH .i64 x.Phase n)).bind fun y3 =>
     (bif (neB y3.2 0) then
      some ((⟨0, 0, 0, 0, 0⟩ : Shot), y3.2)
     else
      (irem (aH .i64 x.Phase n) x1.Motion.Period).bind fun n1 =>
      (eb t ships (⟨x.Ship, n1, x.Sym, (aA .i64 (aH .i64 x.X y3.1.X) y2.1.X), (aA .i64 (aH .i64 x.Y y3.1.Y) y2.1.Y)⟩ : Shot)).bind fun y4 =>
      (bif (neB y4.2 0) then
       some ((⟨0, 0, 0, 0, 0⟩ : Shot), y4.2)
      else
       some ((⟨x.Ship, n1, x.Sym, (aA .i64 (aH .i64 x.X y3.1.X) y2.1.X), (aA .i64 (aH .i64 x.Y y3.1.Y) y2.1.Y)⟩ : Shot), 0)))))))
def dW (a : Int) (b : Int) : Option (Int) :=
 (bif (ltB a b) then
  some (-1)
 else
  (bif (gtB a b) then
   some 1
  else
   some 0))
def gf (a : List Cell) (b : List Cell) (stt : Int) : Option (Lp (Int) (Int ⊕ Unit)) := match stt with
 | i =>
  ((bif (ltB i (ah a)) then
   some (ltB i (ah b))
  else
   some false)).bind fun a1 =>
  (bif a1 then
   (idx a i).bind fun x =>
   (idx b i).bind fun x1 =>
   (bif (neB x.Y x1.Y) then
    (dW x.Y x1.Y).bind fun y =>
    some (.out (.inl y))
   else
    (bif (neB x.X x1.X) then
     (dW x.X x1.X).bind fun y =>
     some (.out (.inl y))
    else
     (bif (neB x.S x1.S) then
      (dW x.S x1.S).bind fun y =>
      some (.out (.inl y))
     else
      some (.next (aH .i64 i 1)))))
  else
   some (.out (.inr ())))
def fM (a : List Cell) (b : List Cell) : Option (Int) :=
 (al (gf a b) aY 0).bind fun o => match o with
  | .inl r =>
   some r
  | .inr _u =>
   (dW (ah a) (ah b)).bind fun y =>
   some y
def gP (a : List Cell) (b : List Cell) : Option (Bool) :=
 (fM a b).bind fun y =>
 some (eqB y 0)
def fW : Option (Bool) :=
 (eh ([66, 51, 47, 83, 50, 51] : List UInt8)).bind fun y =>
 (gD).bind fun y1 =>
 (eb y.1 [y1] (⟨0, 0, 0, 0, 0⟩ : Shot)).bind fun y2 =>
 (idx [y1] 0).bind fun x =>
 (fp y.1 x 1).bind fun y3 =>
 (gG y.1 [y1] (⟨0, 0, 0, 5, 5⟩ : Shot) 6).bind fun y4 =>
 (di (⟨0, 0, 0, 0, 0⟩ : Shot) x.Motion 3 5).bind fun y5 =>
 ((bif (neB y.2 0) then
  some true
 else
  (bif (neB y2.2 0) then
   some true
  else
   (bif (neB y3.2 0) then
    some true
   else
    (bif (neB y4.2 0) then
     some true
    else
     (bif (neB y5.2 0) then
      some true
     else
      some (neB (ah y5.1) 3))))))).bind fun a =>
 (bif a then
  some false
 else
  ((eT y.1 x).bind fun y6 =>
  (bif y6 then
   (gP y2.1 x.Cells).bind fun y7 =>
   (bif y7 then
    (gP y3.1 [(⟨0, 0, 1⟩ : Cell), (⟨2, 0, 1⟩ : Cell), (⟨1, 1, 1⟩ : Cell), (⟨2, 1, 1⟩ : Cell), (⟨1, 2, 1⟩ : Cell)]).bind fun y8 =>
    (bif y8 then
     (bif (bA (eqB y4.1.Ship 0) (bA (eqB y4.1.Phase 2) (bA (eqB y4.1.Sym 0) (bA (eqB y4.1.X 6) (bA (eqB y4.1.Y 7) true))))) then
      (idx y5.1 2).bind fun x1 =>
      (bif (bA (eqB x1.Ship 0) (bA (eqB x1.Phase 0) (bA (eqB x1.Sym 0) (bA (eqB x1.X (-10)) (bA (eqB x1.Y (-10)) true))))) then
       (cP 1 x.Motion).bind fun y9 =>
       some (bA (eqB y9.Period 4) (bA (eqB y9.DX (-1)) (bA (eqB y9.DY 1) true)))
      else
       some false)
     else
      some false)
    else
     some false)
   else
    some false)
  else
   some false)).bind fun a1 =>
  some a1)
def bN (y : (List Shot) × Int) (y1 : (List Shot) × Int) (stt : Int) : Option (Lp (Int) (Bool ⊕ Unit)) := match stt with
 | a1 =>
  (bif (ltB a1 (ah y.1)) then
   (idx y.1 a1).bind fun x1 =>
   (idx y1.1 a1).bind fun x2 =>
   (bif (aM (bA (eqB x1.Ship x2.Ship) (bA (eqB x1.Phase x2.Phase) (bA (eqB x1.Sym x2.Sym) (bA (eqB x1.X x2.X) (bA (eqB x1.Y x2.Y) true)))))) then
    some (.out (.inl false))
   else
    some (.next (aH .i64 a1 1)))
  else
   some (.out (.inr ())))
def da (x : Shot) (m : Motion) (n : Int × Int × Int) : Option (Bool) :=
 (di x m n.1 n.2.1).bind fun y =>
 (dd x m n.1 n.2.1).bind fun y1 =>
 ((bif (neB (ah y.1) (ah y1.1)) then
  some true
 else
  (bif (neB y.2 y1.2) then
   some true
  else
   (cP n.2.2 m).bind fun y2 =>
   (ek n.2.2 m).bind fun y3 =>
   some (aM (bA (eqB y2.Period y3.Period) (bA (eqB y2.DX y3.DX) (bA (eqB y2.DY y3.DY) true))))))).bind fun a =>
 (bif a then
  some false
 else
  (al (bN y y1) aY 0).bind fun o => match o with
   | .inl r =>
    some r
   | .inr _u =>
    (fW).bind fun y2 =>
    some y2)
end Go.Proofs.YtfpjnmhdbgbmmaaGreatDoor
