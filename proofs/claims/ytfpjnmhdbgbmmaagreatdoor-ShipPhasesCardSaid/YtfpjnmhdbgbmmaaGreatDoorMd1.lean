/- The functions, as functions of lists and numbers (made by cc.py). -/
import Derived.Test.YtfpjnmhdbgbmmaaGreatDoorCf
namespace Go.Proofs.YtfpjnmhdbgbmmaaGreatDoor
open Go.AM Go.Proofs
def iT (t : Tree) (stt : Int) : Option (Lp (Int) (Bool ⊕ Unit)) := match stt with
 | a1 =>
  (bif (ltB a1 (ah t.Nodes)) then
   (idx t.Nodes a1).bind fun x =>
   (bif (gtB (ah x.Next) 20) then
    some (.out (.inl false))
   else
    some (.next (aG .i64 a1 1)))
  else
   some (.out (.inr ())))
def kc (t : Tree) : Option (Bool) :=
 ((bif (gtB (ah t.Hood) 40) then
  some true
 else
  some (gtB (ah t.Nodes) 400))).bind fun a =>
 (bif a then
  some false
 else
  (ak (iT t) aA 0).bind fun o => match o with
   | .inl r =>
    some r
   | .inr _u =>
    some true)
def ge (l : List Ship) (stt : Int) : Option (Lp (Int) (Bool ⊕ Unit)) := match stt with
 | a1 =>
  (bif (ltB a1 (ah l)) then
   ((idx l a1).bind fun x =>
   (bif (gtB (ah x.Cells) 40) then
    some true
   else
    (bif (gtB x.Motion.Period 12) then
     some (leB x.Motion.Period 64)
    else
     some false))).bind fun a2 =>
   (bif a2 then
    some (.out (.inl false))
   else
    some (.next (aG .i64 a1 1)))
  else
   some (.out (.inr ())))
def gF (t : Tree) (l : List Ship) : Option (Bool) :=
 ((kc t).bind fun y =>
 (bif (aD y) then
  some true
 else
  (bif (gtB (ah t.Nodes) 100) then
   some true
  else
   some (gtB (ah l) 6)))).bind fun a =>
 (bif a then
  some false
 else
  (ak (ge l) aA 0).bind fun o => match o with
   | .inl r =>
    some r
   | .inr _u =>
    some true)
def bl (s : List UInt8) (prefix_ : List UInt8) : Option (Bool) :=
 ((bif (geB (jE s) (jE prefix_)) then
  (slcS s 0 (jE prefix_)).bind fun s1 =>
  some (eqS s1 prefix_)
 else
  some false)).bind fun a =>
 some a
def bk (s : List UInt8) (prefix_ : List UInt8) : Option ((List UInt8) × Bool) :=
 (bl s prefix_).bind fun y =>
 (bif (aD y) then
  some (s, false)
 else
  (slcS s (jE prefix_) (jE s)).bind fun s1 =>
  some (s1, true))
def dX (s : List UInt8) (prefix_ : List UInt8) : Option ((List UInt8) × Bool) :=
 (bk s prefix_).bind fun y =>
 some (y.1, y.2)
def m_strings_Cut (s sep : List UInt8) : Option ((List UInt8) × (List UInt8) × Bool) := cutS s sep
def gW (_x : Int) (_y : Int) : Option (Bool) :=
 some true
def cE (r_ : Int) (y : Int) (stt : Int × (List Point)) : Option (Lp (Int × (List Point)) ((List Point))) := match stt with
 | (x, l1) =>
  (bif (leB x r_) then
   ((gW x y).bind fun y1 =>
   (bif y1 then
    (dr 16 l1 [(⟨x, y⟩ : Point)]).bind fun _l2 =>
    some (l1 ++ [(⟨x, y⟩ : Point)])
   else
    some l1)).bind fun l2 =>
   some (.next ((aG .i64 x 1), l2))
  else
   some (.out l1))
def cD (r_ : Int) (stt : Int × (List Point)) : Option (Lp (Int × (List Point)) ((List Point))) := match stt with
 | (y, l) =>
  (bif (leB y r_) then
   (ak (cE r_ y) aA ((ineg .i64 r_), l)).bind fun l1 =>
   some (.next ((aG .i64 y 1), l1))
  else
   some (.out l))
def bW (r_ : Int) : Option (List Point) :=
 (ak (cD r_) aA ((ineg .i64 r_), [])).bind fun l =>
 some l
def im (r_ : Int) : Option (List Point) :=
 ((bif (ltB r_ 0) then
  some true
 else
  some (gtB r_ 2))).bind fun a =>
 (bif a then
  some []
 else
  (bW r_).bind fun y =>
  some y)
def bi (s : List UInt8) (suffix : List UInt8) : Option (Bool) :=
 ((bif (geB (jE s) (jE suffix)) then
  (slcS s (aC .i64 (jE s) (jE suffix)) (jE s)).bind fun s1 =>
  some (eqS s1 suffix)
 else
  some false)).bind fun a =>
 some a
def bn (s : List UInt8) (suffix : List UInt8) : Option ((List UInt8) × Bool) :=
 (bi s suffix).bind fun y =>
 (bif (aD y) then
  some (s, false)
 else
  (slcS s 0 (aC .i64 (jE s) (jE suffix))).bind fun s1 =>
  some (s1, true))
def cU (s : List UInt8) (suffix : List UInt8) : Option ((List UInt8) × Bool) :=
 (bn s suffix).bind fun y =>
 some (y.1, y.2)
def fi (l : List Int) (n : Int) (stt : Int × Int) : Option (Lp (Int × Int) (Bool ⊕ Unit)) := match stt with
 | (last, a) =>
  (bif (ltB a (ah l)) then
   (idx l a).bind fun x =>
   ((bif (leB x last) then
    some true
   else
    some (gtB x n))).bind fun a1 =>
   (bif a1 then
    some (.out (.inl false))
   else
    some (.next (x, (aG .i64 a 1))))
  else
   some (.out (.inr ())))
def cp (l : List Int) (n : Int) : Option (Bool) :=
 (ak (fi l n) aA ((-1), 0)).bind fun o => match o with
  | .inl r =>
   some r
  | .inr _u =>
   some true
def ga (l : List Int) (stt : Int × (List Int)) : Option (Lp (Int × (List Int)) (((List Int) × Bool) ⊕ (List Int))) := match stt with
 | (a, out) =>
  (bif (ltB a (ah l)) then
   (idx l a).bind fun x =>
   ((bif (ltB x 48) then
    some true
   else
    some (gtB x 57))).bind fun a1 =>
   (bif a1 then
    some (.out (.inl ([], false)))
   else
    (dr 8 out [(je .i64 (aC .u8 x 48))]).bind fun _l1 =>
    some (.next ((aG .i64 a 1), (out ++ [(je .i64 (aC .u8 x 48))]))))
  else
   some (.out (.inr out)))
def dI (s : List UInt8) : Option ((List Int) × Bool) :=
 (toBk s).bind fun l =>
 (ak (ga l) aA (0, [])).bind fun o => match o with
  | .inl r =>
   some r
  | .inr out =>
   (cp out 9).bind fun y =>
   some (out, y)
def bC (s1 : List Point) (s2 : List Point) (stt : Int) : Option (Lp (Int) (Bool ⊕ Unit)) := match stt with
 | a =>
  (bif (ltB a (ah s1)) then
   (idx s1 a).bind fun x =>
   (idx s2 a).bind fun x1 =>
   (bif (aD (bY (eqB x.X x1.X) (bY (eqB x.Y x1.Y) true))) then
    some (.out (.inl false))
   else
    some (.next (aG .i64 a 1)))
  else
   some (.out (.inr ())))
def ba (s1 : List Point) (s2 : List Point) : Option (Bool) :=
 (bif (neB (ah s1) (ah s2)) then
  some false
 else
  (ak (bC s1 s2) aA 0).bind fun o => match o with
   | .inl r =>
    some r
   | .inr _u =>
    some true)
def gL (a : List Point) (b : List Point) : Option (Bool) :=
 (ba a b).bind fun y =>
 some y
def f9 (l : List Point) : Option ((List UInt8) × Bool) :=
 (im 1).bind fun y =>
 (gL l y).bind fun y1 =>
 (bif y1 then
  some (([] : List UInt8), true)
 else
  none)
def ei (t : Totals) : Option (Bool) :=
 (f9 t.Hood).bind fun y =>
 ((bif y.2 then
  (bif (geB t.States 2) then
   (bif (leB t.States 8) then
    (cp t.Birth (aC .i64 (ah t.Hood) 1)).bind fun y1 =>
    (bif y1 then
     (cp t.Survive (aC .i64 (ah t.Hood) 1)).bind fun y2 =>
     some y2
    else
     some false)
   else
    some false)
  else
   some false)
 else
  some false)).bind fun a =>
 some a
def eh (s : List UInt8) : Option (Totals × Int) :=
 (dX s ([66] : List UInt8)).bind fun y =>
 (m_strings_Cut y.1 ([47, 83] : List UInt8)).bind fun y1 =>
 ((bif (aD y.2) then
  some true
 else
  some (aD y1.2.2))).bind fun a =>
 (bif a then
  some ((⟨[], 0, [], []⟩ : Totals), 15)
 else
  (im 1).bind fun y2 =>
  (cU y1.2.1 ([86] : List UInt8)).bind fun y3 =>
  (bif y3.2 then
   none
  else
   (cU y1.2.1 ([72] : List UInt8)).bind fun y4 =>
   (bif y4.2 then
    none
   else
    (dI y1.1).bind fun y5 =>
    (dI y1.2.1).bind fun y6 =>
    ((bif (aD y5.2) then
     some true
    else
     some (aD y6.2))).bind fun a1 =>
    (bif a1 then
     some ((⟨[], 0, [], []⟩ : Totals), 15)
    else
     (ei (⟨y2, 2, y5.1, y6.1⟩ : Totals)).bind fun y7 =>
     (bif (aD y7) then
      some ((⟨[], 0, [], []⟩ : Totals), 5)
     else
      some ((⟨y2, 2, y5.1, y6.1⟩ : Totals), 0))))))
def gq (s : List UInt8) : Option (Int) :=
 (eh s).bind fun y =>
 (bif (neB y.2 15) then
  some 1
 else
  none)
def dC (x : Int) : Option (Bool) :=
 some (neB x x)
def bo (x : Int) (y : Int) : Option (Int) :=
 (dC x).bind fun y1 =>
 (dC y).bind fun y2 =>
 (bif y1 then
  (bif y2 then
   some 0
  else
   some (-1))
 else
  (bif y2 then
   some 1
  else
   (bif (ltB x y) then
    some (-1)
   else
    (bif (gtB x y) then
     some 1
    else
     some 0))))
def ej (vals : List Int) (stt : Int) : Option (Lp (Int) (Int ⊕ Unit)) := match stt with
 | a =>
  (bif (ltB a (ah vals)) then
   (idx vals a).bind fun x =>
   (bif (neB x 0) then
    some (.out (.inl x))
   else
    some (.next (aG .i64 a 1)))
  else
   some (.out (.inr ())))
def eH (vals : List Int) : Option (Int) :=
 (ak (ej vals) aA 0).bind fun o => match o with
  | .inl r =>
   some r
  | .inr _u =>
   some 0
def bM (a : Point) (b : Point) : Option (Int) :=
 (bo a.Y b.Y).bind fun y =>
 (bo a.X b.X).bind fun y1 =>
 (eH [y, y1]).bind fun y2 =>
 some y2
def fw (l : List Point) (stt : Int) : Option (Lp (Int) (Bool ⊕ Unit)) := match stt with
 | a1 =>
  (bif (ltB a1 (ah l)) then
   (idx l a1).bind fun x =>
   ((bif (ltB x.X (-2)) then
    some true
   else
    (bif (gtB x.X 2) then
     some true
    else
     (bif (ltB x.Y (-2)) then
      some true
     else
      (bif (gtB x.Y 2) then
       some true
      else
       (bif (gtB a1 0) then
        (idx l (aC .i64 a1 1)).bind fun x1 =>
        (bM x1 x).bind fun y =>
        some (geB y 0)
       else
        some false)))))).bind fun a2 =>
   (bif a2 then
    some (.out (.inl false))
   else
    some (.next (aG .i64 a1 1)))
  else
   some (.out (.inr ())))
def eA (l : List Point) : Option (Bool) :=
 ((bif (ltB (ah l) 1) then
  some true
 else
  some (gtB (ah l) 25))).bind fun a =>
 (bif a then
  some false
 else
  (ak (fw l) aA 0).bind fun o => match o with
   | .inl r =>
    some r
   | .inr _u =>
    some true)
def bD (s : List Point) (v : Point) (stt : Int) : Option (Lp (Int) (Int ⊕ Unit)) := match stt with
 | a =>
  (bif (ltB a (ah s)) then
   (idx s a).bind fun x =>
   (bif (bY (eqB v.X x.X) (bY (eqB v.Y x.Y) true)) then
    some (.out (.inl a))
   else
    some (.next (aG .i64 a 1)))
  else
   some (.out (.inr ())))
def bb (s : List Point) (v : Point) : Option (Int) :=
 (ak (bD s v) aA 0).bind fun o => match o with
  | .inl r =>
   some r
  | .inr _u =>
   some (-1)
def iI (l : List Point) : Option (Int) :=
 (eA l).bind fun y =>
 (bif (aD y) then
  some (-1)
 else
  (bb l (⟨0, 0⟩ : Point)).bind fun y1 =>
  some y1)
def aQ (l : List Point) : Option (List Point) := dr 16 [] l
def dT (s : List Int) (v : Int) (stt : Int) : Option (Lp (Int) (Int ⊕ Unit)) := match stt with
 | a =>
  (bif (ltB a (ah s)) then
   (idx s a).bind fun x =>
   (bif (eqB v x) then
    some (.out (.inl a))
   else
    some (.next (aG .i64 a 1)))
  else
   some (.out (.inr ())))
def d5 (s : List Int) (v : Int) : Option (Int) :=
 (ak (dT s v) aA 0).bind fun o => match o with
  | .inl r =>
   some r
  | .inr _u =>
   some (-1)
def bB (s : List Int) (v : Int) : Option (Bool) :=
 (d5 s v).bind fun y =>
 some (geB y 0)
def dG (s : totaltree_sum) (a : Totals) : Option (Int) :=
 (bif (eqB s.centre 0) then
  ((bB a.Birth s.ones).bind fun y =>
  (bif y then
   some 1
  else
   some s.centre)).bind fun next =>
  some next
 else
  ((bif (eqB s.centre 1) then
   (bB a.Survive s.ones).bind fun y =>
   some y
  else
   some false)).bind fun a1 =>
  (bif a1 then
   some 1
  else
   (irem (aG .i64 s.centre 1) a.States).bind fun n =>
   some n))
def eK (s : totaltree_sum) (at_ : Int) (state : Int) (a : Int) : Option (Int × Int) :=
 ((bif (eqB at_ a) then
  some (s.ones, state)
 else
  (bif (eqB state 1) then
   some ((aG .i64 s.ones 1), s.centre)
  else
   some (s.ones, s.centre)))).bind fun (sones, scentre) =>
 some (sones, scentre)
def cA (i : Int) : Option (List UInt8) :=
 (bif (ltB i 10) then
  (slcS ([48, 49, 50, 51, 52, 53, 54, 55, 56, 57, 97, 98, 99, 100, 101, 102, 103, 104, 105, 106, 107, 108, 109, 110, 111, 112, 113, 114, 115, 116, 117, 118, 119, 120, 121, 122] : List UInt8) i (aG .i64 i 1)).bind fun s =>
  some s
 else
  (slcS ([48, 48, 48, 49, 48, 50, 48, 51, 48, 52, 48, 53, 48, 54, 48, 55, 48, 56, 48, 57, 49, 48, 49, 49, 49, 50, 49, 51, 49, 52, 49, 53, 49, 54, 49, 55, 49, 56, 49, 57, 50, 48, 50, 49, 50, 50, 50, 51, 50, 52, 50, 53, 50, 54, 50, 55, 50, 56, 50, 57, 51, 48, 51, 49, 51, 50, 51, 51, 51, 52, 51, 53, 51, 54, 51, 55, 51, 56, 51, 57, 52, 48, 52, 49, 52, 50, 52, 51, 52, 52, 52, 53, 52, 54, 52, 55, 52, 56, 52, 57, 53, 48, 53, 49, 53, 50, 53, 51, 53, 52, 53, 53, 53, 54, 53, 55, 53, 56, 53, 57, 54, 48, 54, 49, 54, 50, 54, 51, 54, 52, 54, 53, 54, 54, 54, 55, 54, 56, 54, 57, 55, 48, 55, 49, 55, 50, 55, 51, 55, 52, 55, 53, 55, 54, 55, 55, 55, 56, 55, 57, 56, 48, 56, 49, 56, 50, 56, 51, 56, 52, 56, 53, 56, 54, 56, 55, 56, 56, 56, 57, 57, 48, 57, 49, 57, 50, 57, 51, 57, 52, 57, 53, 57, 54, 57, 55, 57, 56, 57, 57] : List UInt8) (dW .i64 i 2) (aG .i64 (dW .i64 i 2) 2)).bind fun s =>
  some s)
def br (dst : List Int) (i : Int) (base : Int) : Option (List Int) :=
 (bif (eqB base 10) then
  (bif (ltB i 100) then
   (cA (je .i64 i)).bind fun y =>
   (dr 1 dst (toB y)).bind fun _l =>
   some (dst ++ (toB y))
  else
   none)
 else
  none)
def ck (dst : List Int) (i : Int) (base : Int) : Option (List Int) :=
 ((bif (ltB i 0) then
  (dr 1 dst [45]).bind fun _l =>
  some ((ineg .u64 (je .u64 i)), (dst ++ [45]))
 else
  some ((je .u64 i), dst))).bind fun (u, dst1) =>
 (br dst1 u base).bind fun y =>
 some y
def dt (dst : List Int) (i : Int) (base : Int) : Option (List Int) :=
 (ck dst i base).bind fun y =>
 some y
def b5 (rcv : (totaltree_place → (List Point) → (List Point) → Int → (List Int) → (List Int) → (List (totaltree_place × Int)) → Int → Int → (List (List UInt8 × Int)) → Int → (List Point) → (List Node) → Option (Int × (List (totaltree_place × Int)) × (List (List UInt8 × Int)) × (List Node)))) (p : totaltree_place) (a : List Point) (cHood : List Point) (cStates : Int) (cBirth : List Int) (cSurvive : List Int) (a2 : Int) (cv : Int) (cStates1 : Int) (cHood1 : List Point) (_u : Unit) (stt : Int × (List Node) × (List Int) × (List Int) × (List (totaltree_place × Int)) × (List (List UInt8 × Int))) : Option (Lp (Int × (List Node) × (List Int) × (List Int) × (List (totaltree_place × Int)) × (List (List UInt8 × Int))) (((List Node) × (List Int) × (List Int) × (List (totaltree_place × Int)) × (List (List UInt8 × Int))))) := match stt with
 | (a3, l, keyv, l1, mp, mp1) =>
  (bif (ltB a3 a2) then
   (eK p.s p.at_ a3 cv).bind fun y =>
   (rcv (⟨(aG .i64 p.at_ 1), ⟨y.1, y.2⟩⟩ : totaltree_place) a cHood cStates cBirth cSurvive mp a2 cv mp1 cStates1 cHood1 l).bind fun y1 =>
   (dr 8 l1 [y1.1]).bind fun _l2 =>
   (dr 1 keyv [32]).bind fun _l3 =>
   (dt (keyv ++ [32]) y1.1 10).bind fun y2 =>
   some (.next ((aG .i64 a3 1), y1.2.2.2, y2, (l1 ++ [y1.1]), y1.2.1, y1.2.2.1))
  else
   some (.out (l, keyv, l1, mp, mp1)))
def b6 (rcv : (totaltree_place → (List Point) → (List Point) → Int → (List Int) → (List Int) → (List (totaltree_place × Int)) → Int → Int → (List (List UInt8 × Int)) → Int → (List Point) → (List Node) → Option (Int × (List (totaltree_place × Int)) × (List (List UInt8 × Int)) × (List Node)))) (p : totaltree_place) (a : List Point) (cHood : List Point) (cStates : Int) (cBirth : List Int) (cSurvive : List Int) (a1 : List (totaltree_place × Int)) (a2 : Int) (cv : Int) (cv1 : List (List UInt8 × Int)) (cStates1 : Int) (cHood1 : List Point) (cNodes : List Node) : Option (Int × (List (totaltree_place × Int)) × (List (List UInt8 × Int)) × (List Node)) :=
 (bif (eqB p.at_ (ah a)) then
  (dG p.s (⟨cHood, cStates, cBirth, cSurvive⟩ : Totals)).bind fun y =>
  some (y, a1, cv1, cNodes)
 else
  (kckL [p.at_, p.s.ones, p.s.centre]).bind fun u =>
  (bif (jS a1 p) then
   some ((dV a1 p 0), a1, cv1, cNodes)
  else
   (ak (b5 rcv p a cHood cStates cBirth cSurvive a2 cv cStates1 cHood1 u) aA (0, cNodes, [(je .u8 (aC .i64 (ah a) p.at_))], [], a1, cv1)).bind fun (l, keyv, l1, mp, mp1) =>
   (kckS (ofBytes keyv)).bind fun _u1 =>
   ((bif (aD (jS mp1 (ofBytes keyv))) then
    (dr 32 l [(⟨(aC .i64 (ah a) p.at_), l1⟩ : Node)]).bind fun _l2 =>
    some ((ah l), (io mp1 (ofBytes keyv) (ah l)), (l ++ [(⟨(aC .i64 (ah a) p.at_), l1⟩ : Node)]))
   else
    some ((dV mp1 (ofBytes keyv) 0), mp1, l))).bind fun (idv, mp2, l2) =>
   some (idv, (io mp p idv), mp2, l2)))
def bz (p : totaltree_place) (a : List Point) (cHood : List Point) (cStates : Int) (cBirth : List Int) (cSurvive : List Int) (a1 : List (totaltree_place × Int)) (a2 : Int) (cv : Int) (cv1 : List (List UInt8 × Int)) (cStates1 : Int) (cHood1 : List Point) (cNodes : List Node) : Option (Int × (List (totaltree_place × Int)) × (List (List UInt8 × Int)) × (List Node)) := recN b6 (fun _ _ _ _ _ _ _ _ _ _ _ _ _ => none) recF p a cHood cStates cBirth cSurvive a1 a2 cv cv1 cStates1 cHood1 cNodes
def aI (states : Int) (l : List Point) (start : totaltree_sum) (cv : Int) (cHood : List Point) (cStates : Int) (cBirth : List Int) (cSurvive : List Int) : Option (List Node) :=
 (bz (⟨0, ⟨start.ones, start.centre⟩⟩ : totaltree_place) l cHood cStates cBirth cSurvive [] states cv [] states l []).bind fun y =>
 some y.2.2.2
def eJ (x : Totals) : Option (Tree × Int) :=
 (ei x).bind fun y =>
 (bif (aD y) then
  some ((⟨0, [], []⟩ : Tree), 2)
 else
  (iI x.Hood).bind fun y1 =>
  (aQ x.Hood).bind fun y2 =>
  (aI x.States y2 (⟨0, 0⟩ : totaltree_sum) y1 x.Hood x.States x.Birth x.Survive).bind fun y3 =>
  some ((⟨x.States, y2, y3⟩ : Tree), 0))
def fT (s : List UInt8) : Option (Tree × Int) :=
 (gq s).bind fun y =>
 ((bif (eqB y 1) then
  some (eqB y 1)
 else
  some (eqB y 2))).bind fun a =>
 (bif a then
  (bif (eqB y 2) then
   none
  else
   (eh s).bind fun y1 =>
   (bif (neB y1.2 0) then
    some ((⟨0, [], []⟩ : Tree), y1.2)
   else
    (eJ y1.1).bind fun y2 =>
    some (y2.1, y2.2)))
 else
  ((bif (eqB y 3) then
   some (eqB y 3)
  else
   some (eqB y 4))).bind fun a1 =>
  (bif a1 then
   none
  else
   (bif (eqB y 5) then
    none
   else
    some ((⟨0, [], []⟩ : Tree), 7))))
def jm : Option (Ship) :=
 some (⟨[(⟨1, 0, 1⟩ : Cell), (⟨2, 1, 1⟩ : Cell), (⟨0, 2, 1⟩ : Cell), (⟨1, 2, 1⟩ : Cell), (⟨2, 2, 1⟩ : Cell)], ⟨4, 1, 1⟩⟩ : Ship)
def eg (t : Tree) (a1 : Int) (x : Node) (stt : Int) : Option (Lp (Int) (Bool ⊕ Unit)) := match stt with
 | a3 =>
  (bif (ltB a3 (ah x.Next)) then
   (idx x.Next a3).bind fun x1 =>
   ((bif (ltB x1 0) then
    some true
   else
    (bif (eqB x.Level 1) then
     (bif (geB x1 t.States) then
      some true
     else
      (bif (gtB x.Level 1) then
       (bif (geB x1 a1) then
        some true
       else
        (idx t.Nodes x1).bind fun x2 =>
        some (neB x2.Level (aC .i64 x.Level 1)))
      else
       some false))
    else
     (bif (gtB x.Level 1) then
      (bif (geB x1 a1) then
       some true
      else
       (idx t.Nodes x1).bind fun x2 =>
       some (neB x2.Level (aC .i64 x.Level 1)))
     else
      some false)))).bind fun a4 =>
   (bif a4 then
    some (.out (.inl false))
   else
    some (.next (aG .i64 a3 1)))
  else
   some (.out (.inr ())))
def dZ (t : Tree) (stt : Int) : Option (Lp (Int) (Bool ⊕ Unit)) := match stt with
 | a1 =>
  (bif (ltB a1 (ah t.Nodes)) then
   (idx t.Nodes a1).bind fun x =>
   ((bif (ltB x.Level 1) then
    some true
   else
    (bif (gtB x.Level (ah t.Hood)) then
     some true
    else
     some (neB (ah x.Next) t.States)))).bind fun a2 =>
   (bif a2 then
    some (.out (.inl false))
   else
    (ak (eg t a1 x) aA 0).bind fun o => match o with
     | .inl r =>
      some (.out (.inl r))
     | .inr _u =>
      some (.next (aG .i64 a1 1)))
  else
   some (.out (.inr ())))
def bZ (t : Tree) : Option (Bool) :=
 ((bif (ltB t.States 2) then
  some true
 else
  (bif (gtB t.States 8) then
   some true
  else
   (eA t.Hood).bind fun y =>
   (bif (aD y) then
    some true
   else
    (bif (ltB (ah t.Nodes) 1) then
     some true
    else
     (bif (gtB (ah t.Nodes) 4096) then
      some true
     else
      (idx t.Nodes (aC .i64 (ah t.Nodes) 1)).bind fun x =>
      some (neB x.Level (ah t.Hood)))))))).bind fun a =>
 (bif a then
  some false
 else
  (ak (dZ t) aA 0).bind fun o => match o with
   | .inl r =>
    some r
   | .inr _u =>
    some true)
def ef (t : Tree) (in_ : List Int) (stt : Int × Int) : Option (Lp (Int × Int) (Int)) := match stt with
 | (k, a) =>
  (bif (ltB a (ah in_)) then
   (idx in_ a).bind fun x =>
   (idx t.Nodes k).bind fun x1 =>
   (idx x1.Next x).bind fun x2 =>
   some (.next (x2, (aG .i64 a 1)))
  else
   some (.out k))
def fS (t : Tree) (in_ : List Int) : Option (Int) :=
 (ak (ef t in_) aA ((aC .i64 (ah t.Nodes) 1), 0)).bind fun k =>
 some k
def dP (t : Tree) : Option (Bool) :=
 ((bZ t).bind fun y =>
 (bif y then
  (mkL 8 (ah t.Hood) (ah t.Hood) 0).bind fun _l =>
  (fS t (List.replicate (ah t.Hood).toNat 0)).bind fun y1 =>
  some (eqB y1 0)
 else
  some false)).bind fun a =>
 some a
def bc (cv : Cell) : Option (Point) :=
 some (⟨cv.X, cv.Y⟩ : Point)
def bV (p : Point) : Option (Bool) :=
 ((bif (leB (gQ p.X p.Y) 1048576) then
  some (geB (gR p.X p.Y) (-1048576))
 else
  some false)).bind fun a =>
 some a
def cg (a : Cell) (b : Cell) : Option (Int) :=
 (bc a).bind fun y =>
 (bc b).bind fun y1 =>
 (bM y y1).bind fun y2 =>
 some y2
def dO (p : List Cell) (stt : Int) : Option (Lp (Int) (Bool ⊕ Unit)) := match stt with
 | a =>
  (bif (ltB a (ah p)) then
   (idx p a).bind fun x =>
   ((bc x).bind fun y =>
   (bV y).bind fun y1 =>
   (bif (aD y1) then
    some true
   else
    (bif (ltB x.S 1) then
     some true
    else
     (bif (geB x.S 8) then
      some true
     else
      (bif (gtB a 0) then
       (idx p (aC .i64 a 1)).bind fun x1 =>
       (cg x1 x).bind fun y2 =>
       some (geB y2 0)
      else
       some false))))).bind fun a1 =>
   (bif a1 then
    some (.out (.inl false))
   else
    some (.next (aG .i64 a 1)))
  else
   some (.out (.inr ())))
def bv (p : List Cell) : Option (Bool) :=
 (bif (gtB (ah p) 5000) then
  some false
 else
  (ak (dO p) aA 0).bind fun o => match o with
   | .inl r =>
    some r
   | .inr _u =>
    some true)
def cP (p : List Cell) (stt : Int × Int × Int) : Option (Lp (Int × Int × Int) ((Int × Int))) := match stt with
 | (left, right, a1) =>
  (bif (ltB a1 (ah p)) then
   (idx p a1).bind fun x1 =>
   some (.next ((gR left x1.X), (gQ right x1.X), (aG .i64 a1 1)))
  else
   some (.out (left, right)))
def cB (p : List Cell) : Option (Box × Bool) :=
 ((bif (eqB (ah p) 0) then
  some true
 else
  (bv p).bind fun y =>
  some (aD y))).bind fun a =>
 (bif a then
  some ((⟨0, 0, 0, 0⟩ : Box), false)
 else
  (idx p 0).bind fun x =>
  (ak (cP p) aA (x.X, x.X, 0)).bind fun (left, right) =>
  (idx p (aC .i64 (ah p) 1)).bind fun x1 =>
  some ((⟨left, x.Y, (aG .i64 (aC .i64 right left) 1), (aG .i64 (aC .i64 x1.Y x.Y) 1)⟩ : Box), true))
def dA (p : List Cell) (stt : Int × Int) : Option (Lp (Int × Int) (Int)) := match stt with
 | (n, a) =>
  (bif (ltB a (ah p)) then
   (idx p a).bind fun x =>
   some (.next ((gQ n x.S), (aG .i64 a 1)))
  else
   some (.out n))
def eT (p : List Cell) : Option (Int) :=
 (ak (dA p) aA (0, 0)).bind fun n =>
 some n
def dl (t : Tree) (p : List Cell) : Option (Int) :=
 (dP t).bind fun y =>
 (bif (aD y) then
  some 11
 else
  (bv p).bind fun y1 =>
  (bif (aD y1) then
   some 2
  else
   (eT p).bind fun y2 =>
   (bif (geB y2 t.States) then
    some 10
   else
    some 0)))
def f0 (p : List Cell) (stt : Int × (List (Point × Int))) : Option (Lp (Int × (List (Point × Int))) ((List (Point × Int)))) := match stt with
 | (a, m) =>
  (bif (ltB a (ah p)) then
   (idx p a).bind fun x =>
   (kckL [x.X, x.Y]).bind fun _u =>
   some (.next ((aG .i64 a 1), (io m (⟨x.X, x.Y⟩ : Point) x.S)))
  else
   some (.out m))
def iO (p : List Cell) : Option (List (Point × Int)) :=
 (ak (f0 p) aA (0, [])).bind fun m =>
 some m
def bp (m : List (Point × Int)) (t : Tree) (p : Point) (stt : Int × Int) : Option (Lp (Int × Int) (Int)) := match stt with
 | (k, a) =>
  (bif (ltB a (ah t.Hood)) then
   (idx t.Hood a).bind fun x =>
   (idx t.Nodes k).bind fun x1 =>
   (kckL [(aG .i64 p.X x.X), (aG .i64 p.Y x.Y)]).bind fun _u =>
   (idx x1.Next (dV m (⟨(aG .i64 p.X x.X), (aG .i64 p.Y x.Y)⟩ : Point) 0)).bind fun x2 =>
   some (.next (x2, (aG .i64 a 1)))
  else
   some (.out k))
def ch (m : List (Point × Int)) (t : Tree) (p : Point) : Option (Int) :=
 (ak (bp m t p) aA ((aC .i64 (ah t.Nodes) 1), 0)).bind fun k =>
 some k
def fp (p : Point) : Option (Bool) :=
 ((bif (leB (gQ p.X p.Y) 1048576) then
  some (geB (gR p.X p.Y) (-1048576))
 else
  some false)).bind fun a =>
 some a
def aP (l : List Cell) : Option (List Cell) := sortM aB l
def co (l : List Cell) (stt : Int × (List Cell)) : Option (Lp (Int × (List Cell)) (((List Cell) × Int) ⊕ (List Cell))) := match stt with
 | (a, out) =>
  (bif (ltB a (ah l)) then
   (idx l a).bind fun x =>
   (bc x).bind fun y =>
   (bV y).bind fun y1 =>
   (bif (aD y1) then
    some (.out (.inl ([], 5)))
   else
    ((bif (ltB x.S 0) then
     some true
    else
     some (geB x.S 8))).bind fun a1 =>
    (bif a1 then
     some (.out (.inl ([], 10)))
    else
     (bif (gtB x.S 0) then
      (dr 24 out [x]).bind fun _l1 =>
      some (.next ((aG .i64 a 1), (out ++ [x])))
     else
      some (.next ((aG .i64 a 1), out)))))
  else
   some (.out (.inr out)))
def cn (_out : List Cell) (y : List Cell) (stt : Int) : Option (Lp (Int) (((List Cell) × Int) ⊕ Unit)) := match stt with
 | i =>
  (bif (ltB i (ah y)) then
   (idx y (aC .i64 i 1)).bind fun x =>
   (bc x).bind fun y1 =>
   (idx y i).bind fun x1 =>
   (bc x1).bind fun y2 =>
   (bif (bY (eqB y1.X y2.X) (bY (eqB y1.Y y2.Y) true)) then
    some (.out (.inl ([], 8)))
   else
    some (.next (aG .i64 i 1)))
  else
   some (.out (.inr ())))
def dY (l : List Cell) : Option ((List Cell) × Int) :=
 (ak (co l) aA (0, [])).bind fun o => match o with
  | .inl r =>
   some r
  | .inr out =>
   (aP out).bind fun y =>
   (ak (cn out y) aA 1).bind fun o => match o with
    | .inl r =>
     some r
    | .inr _u =>
     (bif (gtB (ah y) 5000) then
      some ([], 6)
     else
      some (y, 0))
def be (t : Tree) (_p : List Cell) (y : List (Point × Int)) (_a : Int) (x : Cell) (stt : Int × (List (Point × Bool)) × (List Cell)) : Option (Lp (Int × (List (Point × Bool)) × (List Cell)) (((List Cell) × Int) ⊕ ((List (Point × Bool)) × (List Cell)))) := match stt with
 | (a1, done1, l1) =>
  (bif (ltB a1 (ah t.Hood)) then
   (idx t.Hood a1).bind fun x1 =>
   (kckL [(aC .i64 x.X x1.X), (aC .i64 x.Y x1.Y)]).bind fun _u =>
   (bif (dV done1 (⟨(aC .i64 x.X x1.X), (aC .i64 x.Y x1.Y)⟩ : Point) false) then
    some (.next ((aG .i64 a1 1), done1, l1))
   else
    (ch y t (⟨(aC .i64 x.X x1.X), (aC .i64 x.Y x1.Y)⟩ : Point)).bind fun y1 =>
    (bif (gtB y1 0) then
     (fp (⟨(aC .i64 x.X x1.X), (aC .i64 x.Y x1.Y)⟩ : Point)).bind fun y2 =>
     (bif (aD y2) then
      some (.out (.inl ([], 5)))
     else
      (dr 24 l1 [(⟨(aC .i64 x.X x1.X), (aC .i64 x.Y x1.Y), y1⟩ : Cell)]).bind fun _l2 =>
      some (.next ((aG .i64 a1 1), (io done1 (⟨(aC .i64 x.X x1.X), (aC .i64 x.Y x1.Y)⟩ : Point) true), (l1 ++ [(⟨(aC .i64 x.X x1.X), (aC .i64 x.Y x1.Y), y1⟩ : Cell)]))))
    else
     some (.next ((aG .i64 a1 1), (io done1 (⟨(aC .i64 x.X x1.X), (aC .i64 x.Y x1.Y)⟩ : Point) true), l1))))
  else
   some (.out (.inr (done1, l1))))
def bN (t : Tree) (p : List Cell) (y : List (Point × Int)) (stt : Int × (List (Point × Bool)) × (List Cell)) : Option (Lp (Int × (List (Point × Bool)) × (List Cell)) (((List Cell) × Int) ⊕ (List Cell))) := match stt with
 | (a, done, l) =>
  (bif (ltB a (ah p)) then
   (idx p a).bind fun x =>
   (ak (be t p y a x) aA (0, done, l)).bind fun o => match o with
    | .inl r =>
     some (.out (.inl r))
    | .inr (done1, l1) =>
     some (.next ((aG .i64 a 1), done1, l1))
  else
   some (.out (.inr l)))
def cz (t : Tree) (p : List Cell) : Option ((List Cell) × Int) :=
 (iO p).bind fun y =>
 (ak (bN t p y) aA (0, [], [])).bind fun o => match o with
  | .inl r =>
   some r
  | .inr l =>
   (dY l).bind fun y1 =>
   some (y1.1, y1.2)
def cG (t : Tree) (n : Int) (stt : (List Cell) × Int) : Option (Lp ((List Cell) × Int) (((List Cell) × Int) ⊕ (List Cell))) := match stt with
 | (p1, a1) =>
  (bif (ltB a1 n) then
   (cz t p1).bind fun y1 =>
   (bif (neB y1.2 0) then
    some (.out (.inl ([], y1.2)))
   else
    some (.next (y1.1, (aG .i64 a1 1))))
  else
   some (.out (.inr p1)))
def cy (t : Tree) (p : List Cell) (n : Int) : Option ((List Cell) × Int) :=
 (dl t p).bind fun y =>
 (bif (neB y 0) then
  some ([], y)
 else
  ((bif (ltB n 0) then
   some true
  else
   some (gtB n 10000))).bind fun a =>
  (bif a then
   some ([], 2)
  else
   (ak (cG t n) aA (p, 0)).bind fun o => match o with
    | .inl r =>
     some r
    | .inr p1 =>
     some (p1, 0)))
def dE (n : Int) : Option (Bool) :=
 ((bif (geB n 1) then
  some (leB n 64)
 else
  some false)).bind fun a =>
 some a
def bK (t : Tree) (p : List Cell) : Option ((List Cell) × Int) :=
 (dl t p).bind fun y =>
 (bif (neB y 0) then
  some ([], y)
 else
  (cz t p).bind fun y1 =>
  some (y1.1, y1.2))
def cr (a : List Cell) (b : List Cell) (x : Cell) (x1 : Cell) (stt : Int) : Option (Lp (Int) ((Int × Int × Bool) ⊕ Unit)) := match stt with
 | a2 =>
  (bif (ltB a2 (ah a)) then
   (idx b a2).bind fun x2 =>
   (idx a a2).bind fun x3 =>
   (bif (aD (bY (eqB x2.X (aG .i64 x3.X (aC .i64 x.X x1.X))) (bY (eqB x2.Y (aG .i64 x3.Y (aC .i64 x.Y x1.Y))) (bY (eqB x2.S x3.S) true)))) then
    some (.out (.inl (0, 0, false)))
   else
    some (.next (aG .i64 a2 1)))
  else
   some (.out (.inr ())))
def ed (a : List Cell) (b : List Cell) : Option (Int × Int × Bool) :=
 ((bif (neB (ah a) (ah b)) then
  some true
 else
  some (eqB (ah a) 0))).bind fun a1 =>
 (bif a1 then
  some (0, 0, false)
 else
  (idx b 0).bind fun x =>
  (idx a 0).bind fun x1 =>
  (ak (cr a b x x1) aA 0).bind fun o => match o with
   | .inl r =>
    some r
   | .inr _u =>
    some ((aC .i64 x.X x1.X), (aC .i64 x.Y x1.Y), true))
def cQ (t : Tree) (p : List Cell) (most : Int) (stt : (List Cell) × Int) : Option (Lp ((List Cell) × Int) ((Motion × Bool × Int) ⊕ Unit)) := match stt with
 | (q, gv) =>
  ((bif (leB gv most) then
   some (gtB (ah q) 0)
  else
   some false)).bind fun a =>
  (bif a then
   (bK t q).bind fun y2 =>
   (bif (neB y2.2 0) then
    some (.out (.inl ((⟨0, 0, 0⟩ : Motion), false, y2.2)))
   else
    (ed p y2.1).bind fun y3 =>
    (bif y3.2.2 then
     some (.out (.inl ((⟨gv, y3.1, y3.2.1⟩ : Motion), true, 0)))
    else
     some (.next (y2.1, (aG .i64 gv 1)))))
  else
   some (.out (.inr ())))
def eS (t : Tree) (p : List Cell) (most : Int) : Option (Motion × Bool × Int) :=
 (cy t p 0).bind fun y =>
 (bif (neB y.2 0) then
  some ((⟨0, 0, 0⟩ : Motion), false, y.2)
 else
  (dE most).bind fun y1 =>
  (bif (aD y1) then
   some ((⟨0, 0, 0⟩ : Motion), false, 2)
  else
   (ak (cQ t p most) aA (p, 1)).bind fun o => match o with
    | .inl r =>
     some r
    | .inr _u =>
     some ((⟨0, 0, 0⟩ : Motion), false, 0)))
def fP (t : Tree) (p : List Cell) (m : Motion) : Option (Bool × Int) :=
 (eS t p m.Period).bind fun y =>
 ((bif y.2.1 then
  some (bY (eqB y.1.Period m.Period) (bY (eqB y.1.DX m.DX) (bY (eqB y.1.DY m.DY) true)))
 else
  some false)).bind fun a =>
 some (a, y.2.2)
def dN (t : Tree) (s : Ship) : Option (Bool) :=
 (cB s.Cells).bind fun y =>
 ((bif (aD y.2) then
  some true
 else
  (bif (gtB y.1.W 10000) then
   some true
  else
   some (gtB y.1.H 10000)))).bind fun a =>
 (bif a then
  some false
 else
  (fP t s.Cells s.Motion).bind fun y1 =>
  ((bif y1.1 then
   some (eqB y1.2 0)
  else
   some false)).bind fun a1 =>
  some a1)
def fM (p : List Cell) (y : Box × Bool) (stt : Int × (List Cell)) : Option (Lp (Int × (List Cell)) ((List Cell))) := match stt with
 | (a1, out) =>
  (bif (ltB a1 (ah p)) then
   (idx p a1).bind fun x =>
   (dr 24 out [(⟨(aC .i64 x.X y.1.X), (aC .i64 x.Y y.1.Y), x.S⟩ : Cell)]).bind fun _l1 =>
   some (.next ((aG .i64 a1 1), (out ++ [(⟨(aC .i64 x.X y.1.X), (aC .i64 x.Y y.1.Y), x.S⟩ : Cell)])))
  else
   some (.out out))
def dh (p : List Cell) : Option (List Cell) :=
 (cB p).bind fun y =>
 ((bif (aD y.2) then
  some true
 else
  (bv p).bind fun y1 =>
  some (aD y1))).bind fun a =>
 (bif a then
  some p
 else
  (mkL 24 0 (ah p) (⟨0, 0, 0⟩ : Cell)).bind fun _l =>
  (ak (fM p y) aA (0, [])).bind fun out =>
  some out)
def dK (t : Tree) (s : Ship) (n : Int) : Option ((List Cell) × Int) :=
 (dP t).bind fun y =>
 (bif (aD y) then
  some ([], 11)
 else
  ((bif (ltB n 0) then
   some true
  else
   (bif (gtB n 10000) then
    some true
   else
    (dN t s).bind fun y1 =>
    some (aD y1)))).bind fun a =>
  (bif a then
   some ([], 2)
  else
   (irem n s.Motion.Period).bind fun n1 =>
   (cy t s.Cells n1).bind fun y1 =>
   (dh y1.1).bind fun y2 =>
   some (y2, y1.2)))
def df (k : Int) (p : Point) : Option (Point) :=
 (aidx 8 g0R (iand .i64 k 7)).bind fun x =>
 some (⟨(aG .i64 (dW .i64 x.1 p.X) (dW .i64 x.2.1 p.Y)), (aG .i64 (dW .i64 x.2.2.1 p.X) (dW .i64 x.2.2.2 p.Y))⟩ : Point)
def eP (a : Cell) (b : Cell) : Option (Int) :=
 (bo a.Y b.Y).bind fun y =>
 (bo a.X b.X).bind fun y1 =>
 (eH [y, y1]).bind fun y2 =>
 some y2
def aZ (l : List Cell) : Option (List Cell) := sortM cm l
def iu (k : Int) (p : List Cell) (stt : Int × (List Cell)) : Option (Lp (Int × (List Cell)) ((List Cell))) := match stt with
 | (a, out) =>
  (bif (ltB a (ah p)) then
   (idx p a).bind fun x =>
   (df k (⟨x.X, x.Y⟩ : Point)).bind fun y1 =>
   (dr 24 out [(⟨y1.X, y1.Y, x.S⟩ : Cell)]).bind fun _l1 =>
   some (.next ((aG .i64 a 1), (out ++ [(⟨y1.X, y1.Y, x.S⟩ : Cell)])))
  else
   some (.out out))
def fg (k : Int) (p : List Cell) : Option ((List Cell) × Int) :=
 (bv p).bind fun y =>
 (bif (aD y) then
  some ([], 2)
 else
  (mkL 24 0 (ah p) (⟨0, 0, 0⟩ : Cell)).bind fun _l =>
  (ak (iu k p) aA (0, [])).bind fun out =>
  (aZ out).bind fun y1 =>
  some (y1, 0))
def d8 (l : List Cell) : Option (List Cell) := dr 24 [] l
def hD (dx : Int) (dy : Int) (y1 : List Cell) (stt : Int × (List Cell)) : Option (Lp (Int × (List Cell)) (((List Cell) × Int) ⊕ (List Cell))) := match stt with
 | (a1, out) =>
  (bif (ltB a1 (ah y1)) then
   (idx out a1).bind fun x =>
   (idx (out.set a1.toNat (⟨(aG .i64 x.X dx), x.Y, x.S⟩ : Cell)) a1).bind fun x1 =>
   (idx ((out.set a1.toNat (⟨(aG .i64 x.X dx), x.Y, x.S⟩ : Cell)).set a1.toNat (⟨x1.X, (aG .i64 x1.Y dy), x1.S⟩ : Cell)) a1).bind fun x2 =>
   (bc x2).bind fun y2 =>
   (bV y2).bind fun y3 =>
   (bif (aD y3) then
    some (.out (.inl ([], 5)))
   else
    some (.next ((aG .i64 a1 1), ((out.set a1.toNat (⟨(aG .i64 x.X dx), x.Y, x.S⟩ : Cell)).set a1.toNat (⟨x1.X, (aG .i64 x1.Y dy), x1.S⟩ : Cell)))))
  else
   some (.out (.inr out)))
def gr (p : List Cell) (dx : Int) (dy : Int) : Option ((List Cell) × Int) :=
 (bv p).bind fun y =>
 (bif (aD y) then
  some ([], 2)
 else
  ((bif (gtB (gQ dx dy) 2097152) then
   some true
  else
   some (ltB (gR dx dy) (-2097152)))).bind fun a =>
  (bif a then
   some ([], 5)
  else
   (d8 p).bind fun y1 =>
   (ak (hD dx dy y1) aA (0, y1)).bind fun o => match o with
    | .inl r =>
     some r
    | .inr out =>
     some (out, 0)))
def fN (t : Tree) (ships : List Ship) (x : Shot) : Option ((List Cell) × Int) :=
 (dP t).bind fun y =>
 (bif (aD y) then
  some ([], 11)
 else
  ((bif (ltB x.Ship 0) then
   some true
  else
   some (geB x.Ship (ah ships)))).bind fun a =>
  (bif a then
   some ([], 13)
  else
   ((bif (ltB x.Sym 0) then
    some true
   else
    some (gtB x.Sym 7))).bind fun a1 =>
   (bif a1 then
    some ([], 2)
   else
    (idx ships x.Ship).bind fun x1 =>
    (dK t x1 x.Phase).bind fun y1 =>
    (bif (neB y1.2 0) then
     some ([], y1.2)
    else
     (fg x.Sym y1.1).bind fun y2 =>
     (bif (neB y2.2 0) then
      some ([], y2.2)
     else
      (dh y2.1).bind fun y3 =>
      (gr y3 x.X x.Y).bind fun y4 =>
      some (y4.1, y4.2))))))
def cX (l : List Int) : Option (List Int) := dr 8 [] l
def dH (_x : Int) (next : List Int) : Option (List Int) :=
 some next
def cu (i : Int) (base : Int) : Option (List Int) :=
 ((bif (ltB i 0) then
  (dr 1 [] [45]).bind fun _l =>
  some ((ineg .u64 (je .u64 i)), ([] ++ [45]))
 else
  some ((je .u64 i), []))).bind fun (u, dst) =>
 (br dst u base).bind fun y =>
 some y
def f6 (i : Int) (base : Int) : Option (List Int) :=
 (cu i base).bind fun y =>
 some y
def dw (_bnodes : List Node) (_bknown : List (List UInt8 × Int)) (_level : Int) (next : List Int) (stt : Int × (List Int)) : Option (Lp (Int × (List Int)) ((List Int))) := match stt with
 | (a, keyv) =>
  (bif (ltB a (ah next)) then
   (idx next a).bind fun x =>
   (dr 1 keyv [32]).bind fun _l =>
   (dt (keyv ++ [32]) x 10).bind fun y1 =>
   some (.next ((aG .i64 a 1), y1))
  else
   some (.out keyv))
def cH (bnodes : List Node) (bknown : List (List UInt8 × Int)) (level : Int) (next : List Int) : Option (Int × (List (List UInt8 × Int)) × (List Node)) :=
 (f6 level 10).bind fun y =>
 (ak (dw bnodes bknown level next) aA (0, y)).bind fun keyv =>
 (kckS (ofBytes keyv)).bind fun _u =>
 (bif (jS bknown (ofBytes keyv)) then
  some ((dV bknown (ofBytes keyv) 0), bknown, bnodes)
 else
  (dr 32 bnodes [(⟨level, next⟩ : Node)]).bind fun _l =>
  some ((aC .i64 ((ah bnodes) + 1) 1), (io bknown (ofBytes keyv) (aC .i64 ((ah bnodes) + 1) 1)), (bnodes ++ [(⟨level, next⟩ : Node)])))
def cR (rcv : (Int → (List Int) → (List Node) → (List Node) → Option (Int × (List Int) × (List Node)))) (_k : Int) (a1 : List Node) (x1 : Node) (y : List Int) (stt : Int × (List Int) × (List Node) × (List Int)) : Option (Lp (Int × (List Int) × (List Node) × (List Int)) (((List Int) × (List Node) × (List Int)))) := match stt with
 | (a2, l, l2, l1) =>
  (bif (ltB a2 (ah y)) then
   ((idx l a2).bind fun x2 =>
   (bif (gtB x1.Level 1) then
    (rcv x2 l1 a1 l2).bind fun y1 =>
    some ((l.set a2.toNat y1.1), y1.2.1, y1.2.2)
   else
    some (l, l1, l2))).bind fun (l3, l4, l5) =>
   some (.next ((aG .i64 a2 1), l3, l5, l4))
  else
   some (.out (l, l2, l1)))
def cZ (rcv : (Int → (List Int) → (List Node) → (List Node) → Option (Int × (List Int) × (List Node)))) (k : Int) (a : List Int) (a1 : List Node) (cv : List Node) : Option (Int × (List Int) × (List Node)) :=
 (idx a k).bind fun x =>
 (bif (gtB x 0) then
  some ((aC .i64 x 1), a, cv)
 else
  (idx a1 k).bind fun x1 =>
  (cX x1.Next).bind fun y =>
  (ak (cR rcv k a1 x1 y) aA (0, y, cv, a)).bind fun (l, l1, l2) =>
  (dr 32 l1 [(⟨x1.Level, l⟩ : Node)]).bind fun _l3 =>
  (idx l2 k).bind fun _x2 =>
  some ((aC .i64 ((ah l1) + 1) 1), (l2.set k.toNat ((ah l1) + 1)), (l1 ++ [(⟨x1.Level, l⟩ : Node)])))
def fo (k : Int) (a : List Int) (a1 : List Node) (cv : List Node) : Option (Int × (List Int) × (List Node)) := recN cZ (fun _ _ _ _ => none) recF k a a1 cv
def e8 (nodes : List Node) (root : Int) : Option (List Node) :=
 (mkL 8 (ah nodes) (ah nodes) 0).bind fun _l =>
 (fo root (List.replicate (ah nodes).toNat 0) nodes []).bind fun y =>
 some y.2.2
def bE (_t : Tree) (_a : Int) (_mp : List (List UInt8 × Int)) (_l : List Node) (to_ : List Int) (x : Node) (y : List Int) (stt : Int × (List Int)) : Option (Lp (Int × (List Int)) ((List Int))) := match stt with
 | (a1, next) =>
  (bif (ltB a1 (ah y)) then
   ((idx next a1).bind fun x1 =>
   (bif (gtB x.Level 1) then
    (idx to_ x1).bind fun x2 =>
    some (next.set a1.toNat x2)
   else
    some next)).bind fun next1 =>
   some (.next ((aG .i64 a1 1), next1))
  else
   some (.out next))
def bG (t : Tree) (stt : Int × (List (List UInt8 × Int)) × (List Node) × (List Int)) : Option (Lp (Int × (List (List UInt8 × Int)) × (List Node) × (List Int)) (((List (List UInt8 × Int)) × (List Node) × (List Int)))) := match stt with
 | (a, mp, l, to_) =>
  (bif (ltB a (ah t.Nodes)) then
   (idx t.Nodes a).bind fun x =>
   (cX x.Next).bind fun y =>
   (ak (bE t a mp l to_ x y) aA (0, y)).bind fun next =>
   (dH x.Level next).bind fun y1 =>
   (cH l mp x.Level y1).bind fun y2 =>
   (dr 8 to_ [y2.1]).bind fun _l1 =>
   some (.next ((aG .i64 a 1), y2.2.1, y2.2.2, (to_ ++ [y2.1])))
  else
   some (.out (mp, l, to_)))
def bR (t : Tree) : Option (List Node) :=
 (ak (bG t) aA (0, [], [], [])).bind fun (_mp, l, to_) =>
 (aQ t.Hood).bind fun _l1 =>
 (idx to_ (aC .i64 (ah to_) 1)).bind fun x =>
 (e8 l x).bind fun y =>
 some y
def i0 (t : Tree) : Option (Int × (List Node) × (List Point)) :=
 (bZ t).bind fun y =>
 (bif (aD y) then
  some (0, [], [])
 else
  (bR t).bind fun y1 =>
  some (t.States, y1, t.Hood))
def ij (t : Tree) : Option (Tree × Int) :=
 (bif (gtB (ah t.Nodes) 4096) then
  some ((⟨0, [], []⟩ : Tree), 6)
 else
  some (t, 0))
def j1 (k : Int) (y1 : Int × (List Node) × (List Point)) (stt : Int × (List Point)) : Option (Lp (Int × (List Point)) ((List Point))) := match stt with
 | (a, l) =>
  (bif (ltB a (ah y1.2.2)) then
   (idx l a).bind fun x =>
   (df k x).bind fun y2 =>
   some (.next ((aG .i64 a 1), (l.set a.toNat y2)))
  else
   some (.out l))
def iY (_y1 : Int × (List Node) × (List Point)) (l : List Point) (stt : Int) : Option (Lp (Int) (Unit)) := match stt with
 | i =>
  (bif (ltB i (ah l)) then
   (idx l (aC .i64 i 1)).bind fun x =>
   (idx l i).bind fun x1 =>
   (bM x x1).bind fun y2 =>
   (bif (gtB y2 0) then
    none
   else
    some (.next (aG .i64 i 1)))
  else
   some (.out ()))
def jb (y1 : Int × (List Node) × (List Point)) (l : List Point) (stt : Bool) : Option (Lp (Bool) (Unit)) := match stt with
 | sorted =>
  (bif (aD sorted) then
   (ak (iY y1 l) aA 1).bind fun _u =>
   some (.next true)
  else
   some (.out ()))
def iM (k : Int) (t : Tree) : Option (Tree × Int) :=
 (bZ t).bind fun y =>
 (bif (aD y) then
  some ((⟨0, [], []⟩ : Tree), 11)
 else
  (i0 t).bind fun y1 =>
  (ak (j1 k y1) aA (0, y1.2.2)).bind fun l =>
  (ak (jb y1 l) aA false).bind fun _u =>
  (ij (⟨y1.1, l, y1.2.1⟩ : Tree)).bind fun y2 =>
  some (y2.1, y2.2))
def bO (_t : Tree) (_a : Int) (_mp : List (List UInt8 × Int)) (_l : List Node) (to_ : List Int) (x : Node) (y : List Int) (stt : Int × (List Int)) : Option (Lp (Int × (List Int)) ((List Int))) := match stt with
 | (a1, next) =>
  (bif (ltB a1 (ah y)) then
   ((idx next a1).bind fun x1 =>
   (bif (gtB x.Level 1) then
    (idx to_ x1).bind fun x2 =>
    some (next.set a1.toNat x2)
   else
    some next)).bind fun next1 =>
   some (.next ((aG .i64 a1 1), next1))
  else
   some (.out next))
def bS (t : Tree) (stt : Int × (List (List UInt8 × Int)) × (List Node) × (List Int)) : Option (Lp (Int × (List (List UInt8 × Int)) × (List Node) × (List Int)) (((List (List UInt8 × Int)) × (List Node) × (List Int)))) := match stt with
 | (a, mp, l, to_) =>
  (bif (ltB a (ah t.Nodes)) then
   (idx t.Nodes a).bind fun x =>
   (cX x.Next).bind fun y =>
   (ak (bO t a mp l to_ x y) aA (0, y)).bind fun next =>
   (dH x.Level next).bind fun y1 =>
   (cH l mp x.Level y1).bind fun y2 =>
   (dr 8 to_ [y2.1]).bind fun _l1 =>
   some (.next ((aG .i64 a 1), y2.2.1, y2.2.2, (to_ ++ [y2.1])))
  else
   some (.out (mp, l, to_)))
def bm (t : Tree) : Option (Tree) :=
 (ak (bS t) aA (0, [], [], [])).bind fun (_mp, l, to_) =>
 (aQ t.Hood).bind fun y =>
 (idx to_ (aC .i64 (ah to_) 1)).bind fun x =>
 (e8 l x).bind fun y1 =>
 some (⟨t.States, y, y1⟩ : Tree)
def eO (t : Tree) : Option (Tree) :=
 (bZ t).bind fun y =>
 (bif (aD y) then
  some (⟨0, [], []⟩ : Tree)
 else
  (bm t).bind fun y1 =>
  some y1)
def dQ (s1 : List Int) (s2 : List Int) (stt : Int) : Option (Lp (Int) (Bool ⊕ Unit)) := match stt with
 | a =>
  (bif (ltB a (ah s1)) then
   (idx s1 a).bind fun x =>
   (idx s2 a).bind fun x1 =>
   (bif (neB x x1) then
    some (.out (.inl false))
   else
    some (.next (aG .i64 a 1)))
  else
   some (.out (.inr ())))
def d4 (s1 : List Int) (s2 : List Int) : Option (Bool) :=
 (bif (neB (ah s1) (ah s2)) then
  some false
 else
  (ak (dQ s1 s2) aA 0).bind fun o => match o with
   | .inl r =>
    some r
   | .inr _u =>
    some true)
def iN (x : Node) (y : Node) : Option (Bool) :=
 ((bif (eqB x.Level y.Level) then
  (d4 x.Next y.Next).bind fun y1 =>
  some y1
 else
  some false)).bind fun a =>
 some a
def aO (s1 : List Node) (s2 : List Node) (stt : Int) : Option (Lp (Int) (Bool ⊕ Unit)) := match stt with
 | a =>
  (bif (ltB a (ah s1)) then
   (idx s1 a).bind fun x =>
   (idx s2 a).bind fun x1 =>
   (iN x x1).bind fun y =>
   (bif (aD y) then
    some (.out (.inl false))
   else
    some (.next (aG .i64 a 1)))
  else
   some (.out (.inr ())))
def aF (s1 : List Node) (s2 : List Node) : Option (Bool) :=
 (bif (neB (ah s1) (ah s2)) then
  some false
 else
  (ak (aO s1 s2) aA 0).bind fun o => match o with
   | .inl r =>
    some r
   | .inr _u =>
    some true)
def jV (a : Tree) (b : Tree) : Option (Bool) :=
 ((bif (eqB a.States b.States) then
  (gL a.Hood b.Hood).bind fun y =>
  (bif y then
   (aF a.Nodes b.Nodes).bind fun y1 =>
   some y1
  else
   some false)
 else
  some false)).bind fun a1 =>
 some a1
def i2 (a : Tree) (b : Tree) : Option (Bool) :=
 ((bZ a).bind fun y =>
 (bif y then
  (bZ b).bind fun y1 =>
  (bif y1 then
   (bif (eqB a.States b.States) then
    (gL a.Hood b.Hood).bind fun y2 =>
    (bif y2 then
     (eO a).bind fun y3 =>
     (eO b).bind fun y4 =>
     (jV y3 y4).bind fun y5 =>
     some y5
    else
     some false)
   else
    some false)
  else
   some false)
 else
  some false)).bind fun a1 =>
 some a1
def gf (k : Int) (m : Motion) : Option (Motion) :=
 (df k (⟨m.DX, m.DY⟩ : Point)).bind fun y =>
 some (⟨m.Period, y.X, y.Y⟩ : Motion)
def gl (t : Tree) (s : Ship) (sym : Int) (n : Int) : Option (Point × Int) :=
 (irem n s.Motion.Period).bind fun n1 =>
 (cy t s.Cells n1).bind fun y =>
 (bif (neB y.2 0) then
  some ((⟨0, 0⟩ : Point), y.2)
 else
  (fg sym y.1).bind fun y1 =>
  (bif (neB y1.2 0) then
   some ((⟨0, 0⟩ : Point), y1.2)
  else
   (cB y1.1).bind fun y2 =>
   (gf sym s.Motion).bind fun y3 =>
   (iquo .i64 n s.Motion.Period).bind fun n2 =>
   some ((⟨(aG .i64 y2.1.X (dW .i64 n2 y3.DX)), (aG .i64 y2.1.Y (dW .i64 n2 y3.DY))⟩ : Point), 0)))
def js (t : Tree) (ships : List Ship) (x : Shot) (n : Int) : Option (Shot × Int) :=
 (fN t ships x).bind fun y =>
 (bif (neB y.2 0) then
  some ((⟨0, 0, 0, 0, 0⟩ : Shot), y.2)
 else
  ((bif (ltB n 0) then
   some true
  else
   some (gtB n 10000))).bind fun a =>
  (bif a then
   some ((⟨0, 0, 0, 0, 0⟩ : Shot), 2)
  else
   (iM x.Sym t).bind fun y1 =>
   ((bif (neB y1.2 0) then
    some true
   else
    (i2 t y1.1).bind fun y2 =>
    some (aD y2))).bind fun a1 =>
   (bif a1 then
    some ((⟨0, 0, 0, 0, 0⟩ : Shot), 11)
   else
    (idx ships x.Ship).bind fun x1 =>
    (gl t x1 x.Sym x.Phase).bind fun y2 =>
    (bif (neB y2.2 0) then
     some ((⟨0, 0, 0, 0, 0⟩ : Shot), y2.2)
    else
     (gl t x1 x.Sym (aG .i64 x.Phase n)).bind fun y3 =>
     (bif (neB y3.2 0) then
      some ((⟨0, 0, 0, 0, 0⟩ : Shot), y3.2)
     else
      (irem (aG .i64 x.Phase n) x1.Motion.Period).bind fun n1 =>
      (fN t ships (⟨x.Ship, n1, x.Sym, (aC .i64 (aG .i64 x.X y3.1.X) y2.1.X), (aC .i64 (aG .i64 x.Y y3.1.Y) y2.1.Y)⟩ : Shot)).bind fun y4 =>
      (bif (neB y4.2 0) then
       some ((⟨0, 0, 0, 0, 0⟩ : Shot), y4.2)
      else
       some ((⟨x.Ship, n1, x.Sym, (aC .i64 (aG .i64 x.X y3.1.X) y2.1.X), (aC .i64 (aG .i64 x.Y y3.1.Y) y2.1.Y)⟩ : Shot), 0)))))))
def jx (x : Int) (y : Int) : Option (Bool) :=
 ((bif (leB (gQ x y) 1048576) then
  some (geB (gR x y) (-1048576))
 else
  some false)).bind fun a =>
 some a
def jc (x : Shot) (m : Motion) (count : Int) (gap : Int) (stt : Int × (List Shot)) : Option (Lp (Int × (List Shot)) (((List Shot) × Int) ⊕ (List Shot))) := match stt with
 | (a1, out) =>
  (bif (ltB a1 count) then
   (jx x.X x.Y).bind fun y =>
   (bif (aD y) then
    some (.out (.inl ([], 5)))
   else
    (jx (aC .i64 x.X (dW .i64 (dW .i64 a1 gap) m.DX)) (aC .i64 x.Y (dW .i64 (dW .i64 a1 gap) m.DY))).bind fun y1 =>
    (bif (aD y1) then
     some (.out (.inl ([], 5)))
    else
     (dr 40 out [(⟨x.Ship, x.Phase, x.Sym, (aC .i64 x.X (dW .i64 (dW .i64 a1 gap) m.DX)), (aC .i64 x.Y (dW .i64 (dW .i64 a1 gap) m.DY))⟩ : Shot)]).bind fun _l =>
     some (.next ((aG .i64 a1 1), (out ++ [(⟨x.Ship, x.Phase, x.Sym, (aC .i64 x.X (dW .i64 (dW .i64 a1 gap) m.DX)), (aC .i64 x.Y (dW .i64 (dW .i64 a1 gap) m.DY))⟩ : Shot)])))))
  else
   some (.out (.inr out)))
def iL (x : Shot) (m : Motion) (count : Int) (gap : Int) : Option ((List Shot) × Int) :=
 ((bif (ltB m.Period 1) then
  some true
 else
  (bif (gtB m.Period 64) then
   some true
  else
   (jx m.DX m.DY).bind fun y =>
   (bif (aD y) then
    some true
   else
    (bif (ltB count 0) then
     some true
    else
     (bif (gtB count 16) then
      some true
     else
      (bif (ltB gap 1) then
       some true
      else
       some (gtB gap 1000)))))))).bind fun a =>
 (bif a then
  some ([], 2)
 else
  (ak (jc x m count gap) aA (0, [])).bind fun o => match o with
   | .inl r =>
    some r
   | .inr out =>
    some (out, 0))
def cd (a : Int) (b : Int) : Option (Int) :=
 (bif (ltB a b) then
  some (-1)
 else
  (bif (gtB a b) then
   some 1
  else
   some 0))
def cN (a : List Cell) (b : List Cell) (stt : Int) : Option (Lp (Int) (Int ⊕ Unit)) := match stt with
 | i =>
  ((bif (ltB i (ah a)) then
   some (ltB i (ah b))
  else
   some false)).bind fun a1 =>
  (bif a1 then
   (idx a i).bind fun x =>
   (idx b i).bind fun x1 =>
   (bif (neB x.Y x1.Y) then
    (cd x.Y x1.Y).bind fun y =>
    some (.out (.inl y))
   else
    (bif (neB x.X x1.X) then
     (cd x.X x1.X).bind fun y =>
     some (.out (.inl y))
    else
     (bif (neB x.S x1.S) then
      (cd x.S x1.S).bind fun y =>
      some (.out (.inl y))
     else
      some (.next (aG .i64 i 1)))))
  else
   some (.out (.inr ())))
def eY (a : List Cell) (b : List Cell) : Option (Int) :=
 (ak (cN a b) aA 0).bind fun o => match o with
  | .inl r =>
   some r
  | .inr _u =>
   (cd (ah a) (ah b)).bind fun y =>
   some y
def eu (a : List Cell) (b : List Cell) : Option (Bool) :=
 (eY a b).bind fun y =>
 some (eqB y 0)
def gH : Option (Bool) :=
 (fT ([66, 51, 47, 83, 50, 51] : List UInt8)).bind fun y =>
 (jm).bind fun y1 =>
 (fN y.1 [y1] (⟨0, 0, 0, 0, 0⟩ : Shot)).bind fun y2 =>
 (idx [y1] 0).bind fun x =>
 (dK y.1 x 1).bind fun y3 =>
 (js y.1 [y1] (⟨0, 0, 0, 5, 5⟩ : Shot) 6).bind fun y4 =>
 (iL (⟨0, 0, 0, 0, 0⟩ : Shot) x.Motion 3 5).bind fun y5 =>
 ((bif (neB y.2 0) then
  some true
 else
  (bif (neB y2.2 0) then
   some true
  else
   (bif (neB y3.2 0) then
    some true
   else
    (bif (neB y4.2 0) then
     some true
    else
     (bif (neB y5.2 0) then
      some true
     else
      some (neB (ah y5.1) 3))))))).bind fun a =>
 (bif a then
  some false
 else
  ((dN y.1 x).bind fun y6 =>
  (bif y6 then
   (eu y2.1 x.Cells).bind fun y7 =>
   (bif y7 then
    (eu y3.1 [(⟨0, 0, 1⟩ : Cell), (⟨2, 0, 1⟩ : Cell), (⟨1, 1, 1⟩ : Cell), (⟨2, 1, 1⟩ : Cell), (⟨1, 2, 1⟩ : Cell)]).bind fun y8 =>
    (bif y8 then
     (bif (bY (eqB y4.1.Ship 0) (bY (eqB y4.1.Phase 2) (bY (eqB y4.1.Sym 0) (bY (eqB y4.1.X 6) (bY (eqB y4.1.Y 7) true))))) then
      (idx y5.1 2).bind fun x1 =>
      (bif (bY (eqB x1.Ship 0) (bY (eqB x1.Phase 0) (bY (eqB x1.Sym 0) (bY (eqB x1.X (-10)) (bY (eqB x1.Y (-10)) true))))) then
       (gf 1 x.Motion).bind fun y9 =>
       some (bY (eqB y9.Period 4) (bY (eqB y9.DX (-1)) (bY (eqB y9.DY 1) true)))
      else
       some false)
     else
      some false)
    else
     some false)
   else
    some false)
  else
   some false)).bind fun a1 =>
  some a1)
def fL (a : Point) (b : Point) : Option (Bool) :=
 ((bif (ltB a.Y b.Y) then
  some true
 else
  (bif (eqB a.Y b.Y) then
   some (ltB a.X b.X)
  else
   some false))).bind fun a1 =>
 some a1
def gh (l : List Point) (stt : Int) : Option (Lp (Int) (Bool ⊕ Unit)) := match stt with
 | i =>
  (bif (ltB i (ah l)) then
   (idx l i).bind fun x =>
   ((bif (ltB x.X (-2)) then
    some true
   else
    (bif (gtB x.X 2) then
     some true
    else
     (bif (ltB x.Y (-2)) then
      some true
     else
      (bif (gtB x.Y 2) then
       some true
      else
       (bif (gtB i 0) then
        (idx l (aC .i64 i 1)).bind fun x1 =>
        (fL x1 x).bind fun y =>
        some (aD y)
       else
        some false)))))).bind fun a1 =>
   (bif a1 then
    some (.out (.inl false))
   else
    some (.next (aG .i64 i 1)))
  else
   some (.out (.inr ())))
def gG (l : List Point) : Option (Bool) :=
 ((bif (ltB (ah l) 1) then
  some true
 else
  some (gtB (ah l) 25))).bind fun a =>
 (bif a then
  some false
 else
  (ak (gh l) aA 0).bind fun o => match o with
   | .inl r =>
    some r
   | .inr _u =>
    some true)
def eW (t : Tree) (i : Int) (x : Node) (stt : Int) : Option (Lp (Int) (Bool ⊕ Unit)) := match stt with
 | s =>
  (bif (ltB s t.States) then
   (idx x.Next s).bind fun x1 =>
   (bif (ltB x1 0) then
    some (.out (.inl false))
   else
    ((bif (eqB x.Level 1) then
     some (geB x1 t.States)
    else
     some false)).bind fun a2 =>
    (bif a2 then
     some (.out (.inl false))
    else
     ((bif (gtB x.Level 1) then
      (bif (geB x1 i) then
       some true
      else
       (idx t.Nodes x1).bind fun x2 =>
       some (neB x2.Level (aC .i64 x.Level 1)))
     else
      some false)).bind fun a3 =>
     (bif a3 then
      some (.out (.inl false))
     else
      some (.next (aG .i64 s 1)))))
  else
   some (.out (.inr ())))
def f4 (t : Tree) (stt : Int) : Option (Lp (Int) (Bool ⊕ Unit)) := match stt with
 | i =>
  (bif (ltB i (ah t.Nodes)) then
   (idx t.Nodes i).bind fun x =>
   ((bif (ltB x.Level 1) then
    some true
   else
    (bif (gtB x.Level (ah t.Hood)) then
     some true
    else
     some (neB (ah x.Next) t.States)))).bind fun a1 =>
   (bif a1 then
    some (.out (.inl false))
   else
    (ak (eW t i x) aA 0).bind fun o => match o with
     | .inl r =>
      some (.out (.inl r))
     | .inr _u =>
      some (.next (aG .i64 i 1)))
  else
   some (.out (.inr ())))
def fm (t : Tree) : Option (Bool) :=
 ((bif (ltB t.States 2) then
  some true
 else
  (bif (gtB t.States 8) then
   some true
  else
   (gG t.Hood).bind fun y =>
   (bif (aD y) then
    some true
   else
    (bif (ltB (ah t.Nodes) 1) then
     some true
    else
     some (gtB (ah t.Nodes) 4096)))))).bind fun a =>
 (bif a then
  some false
 else
  (ak (f4 t) aA 0).bind fun o => match o with
   | .inl r =>
    some r
   | .inr _u =>
    (idx t.Nodes (aC .i64 (ah t.Nodes) 1)).bind fun x =>
    some (eqB x.Level (ah t.Hood)))
def eZ (t : Tree) (in_ : List Int) (stt : Int × Int) : Option (Lp (Int × Int) (Int)) := match stt with
 | (k, i) =>
  (bif (ltB i (ah in_)) then
   (idx t.Nodes k).bind fun x =>
   (idx in_ i).bind fun x1 =>
   (idx x.Next x1).bind fun x2 =>
   some (.next (x2, (aG .i64 i 1)))
  else
   some (.out k))
def fk (t : Tree) (in_ : List Int) : Option (Int) :=
 (ak (eZ t in_) aA ((aC .i64 (ah t.Nodes) 1), 0)).bind fun k =>
 some k
def gV (t : Tree) (in_ : List Int) (stt : Int) : Option (Lp (Int) ((Int × Int) ⊕ Unit)) := match stt with
 | i =>
  (bif (ltB i (ah in_)) then
   ((idx in_ i).bind fun x =>
   (bif (ltB x 0) then
    some true
   else
    some (geB x t.States))).bind fun a =>
   (bif a then
    some (.out (.inl (0, 10)))
   else
    some (.next (aG .i64 i 1)))
  else
   some (.out (.inr ())))
def jG (t : Tree) (in_ : List Int) : Option (Int × Int) :=
 (fm t).bind fun y =>
 (bif (aD y) then
  some (0, 11)
 else
  (bif (neB (ah in_) (ah t.Hood)) then
   some (0, 2)
  else
   (ak (gV t in_) aA 0).bind fun o => match o with
    | .inl r =>
     some r
    | .inr _u =>
     (fk t in_).bind fun y1 =>
     some (y1, 0)))
def ft (t : Tree) : Option (Bool) :=
 (fm t).bind fun y =>
 (bif (aD y) then
  some false
 else
  (mkL 8 (ah t.Hood) (ah t.Hood) 0).bind fun _l =>
  (jG t (List.replicate (ah t.Hood).toNat 0)).bind fun y1 =>
  some (eqB y1.1 0))
def fx (x : Int) (y : Int) : Option (Bool) :=
 ((bif (geB x (-1048576)) then
  (bif (leB x 1048576) then
   (bif (geB y (-1048576)) then
    some (leB y 1048576)
   else
    some false)
  else
   some false)
 else
  some false)).bind fun a =>
 some a
def dJ (a : Cell) (b : Cell) : Option (Bool) :=
 ((bif (ltB a.Y b.Y) then
  some true
 else
  (bif (eqB a.Y b.Y) then
   some (ltB a.X b.X)
  else
   some false))).bind fun a1 =>
 some a1
def gk (p : List Cell) (stt : Int) : Option (Lp (Int) (Bool ⊕ Unit)) := match stt with
 | i =>
  (bif (ltB i (ah p)) then
   ((idx p i).bind fun x =>
   (fx x.X x.Y).bind fun y =>
   (bif (aD y) then
    some true
   else
    (bif (ltB x.S 1) then
     some true
    else
     (bif (geB x.S 8) then
      some true
     else
      (bif (gtB i 0) then
       (idx p (aC .i64 i 1)).bind fun x1 =>
       (dJ x1 x).bind fun y1 =>
       some (aD y1)
      else
       some false))))).bind fun a =>
   (bif a then
    some (.out (.inl false))
   else
    some (.next (aG .i64 i 1)))
  else
   some (.out (.inr ())))
def eo (p : List Cell) : Option (Bool) :=
 (ak (gk p) aA 0).bind fun o => match o with
  | .inl r =>
   some r
  | .inr _u =>
   some (leB (ah p) 5000)
def ie (t : Tree) (p : List Cell) (stt : Int) : Option (Lp (Int) (Int ⊕ Unit)) := match stt with
 | i =>
  (bif (ltB i (ah p)) then
   (idx p i).bind fun x =>
   (bif (geB x.S t.States) then
    some (.out (.inl 10))
   else
    some (.next (aG .i64 i 1)))
  else
   some (.out (.inr ())))
def gu (t : Tree) (p : List Cell) : Option (Int) :=
 (ft t).bind fun y =>
 (bif (aD y) then
  some 11
 else
  (eo p).bind fun y1 =>
  (bif (aD y1) then
   some 2
  else
   (ak (ie t p) aA 0).bind fun o => match o with
    | .inl r =>
     some r
    | .inr _u =>
     some 0))
def cF (p : List Cell) (stt : Int × Int × Int × Int × Int) : Option (Lp (Int × Int × Int × Int × Int) ((Int × Int × Int × Int))) := match stt with
 | (x1, y, right, bottom, i) =>
  (bif (ltB i (ah p)) then
   (idx p i).bind fun x2 =>
   some (.next ((gR x1 x2.X), (gR y x2.Y), (gQ right x2.X), (gQ bottom x2.Y), (aG .i64 i 1)))
  else
   some (.out (x1, y, right, bottom)))
def fB (p : List Cell) : Option (Box × Bool) :=
 ((bif (eqB (ah p) 0) then
  some true
 else
  (eo p).bind fun y =>
  some (aD y))).bind fun a =>
 (bif a then
  some ((⟨0, 0, 0, 0⟩ : Box), false)
 else
  (idx p 0).bind fun x =>
  (ak (cF p) aA (x.X, x.Y, x.X, x.Y, 0)).bind fun (x1, y, right, bottom) =>
  some ((⟨x1, y, (aG .i64 (aC .i64 right x1) 1), (aG .i64 (aC .i64 bottom y) 1)⟩ : Box), true))
def di (p : List Cell) (y : Box × Bool) (stt : Int × (List Int)) : Option (Lp (Int × (List Int)) ((List Int))) := match stt with
 | (i, l1) =>
  (bif (ltB i (ah p)) then
   (idx p i).bind fun x =>
   (idx l1 (aC .i64 (aG .i64 (dW .i64 (aC .i64 x.Y y.1.Y) y.1.W) x.X) y.1.X)).bind fun _x1 =>
   some (.next ((aG .i64 i 1), (l1.set (aC .i64 (aG .i64 (dW .i64 (aC .i64 x.Y y.1.Y) y.1.W) x.X) y.1.X).toNat x.S)))
  else
   some (.out l1))
def fK (p : List Cell) : Option (cellularref20_field) :=
 (fB p).bind fun y =>
 (bif (aD (leB (dW .i64 y.1.W y.1.H) 40000)) then
  some (⟨(leB (dW .i64 y.1.W y.1.H) 40000), ⟨y.1.X, y.1.Y, y.1.W, y.1.H⟩, [], p⟩ : cellularref20_field)
 else
  (mkL 8 (dW .i64 y.1.W y.1.H) (dW .i64 y.1.W y.1.H) 0).bind fun _l =>
  (ak (di p y) aA (0, (List.replicate (dW .i64 y.1.W y.1.H).toNat 0))).bind fun l1 =>
  some (⟨(leB (dW .i64 y.1.W y.1.H) 40000), ⟨y.1.X, y.1.Y, y.1.W, y.1.H⟩, l1, p⟩ : cellularref20_field))
def bh (f : cellularref20_field) (n : Int) (q : Point) (stt : Int) : Option (Lp (Int) (Bool ⊕ Unit)) := match stt with
 | i =>
  (bif (ltB i n) then
   (idx f.list i).bind fun x =>
   ((bif (leB (gQ (aC .i64 q.X x.X) (ineg .i64 (aC .i64 q.X x.X))) 2) then
    some (leB (gQ (aC .i64 q.Y x.Y) (ineg .i64 (aC .i64 q.Y x.Y))) 2)
   else
    some false)).bind fun a =>
   (bif a then
    some (.out (.inl true))
   else
    some (.next (aG .i64 i 1)))
  else
   some (.out (.inr ())))
def cb (f : cellularref20_field) (n : Int) (q : Point) : Option (Bool) :=
 (ak (bh f n q) aA 0).bind fun o => match o with
  | .inl r =>
   some r
  | .inr _u =>
   some false
def bP (f : cellularref20_field) (y : Int) (_out : List Point) (stt : Int × (List Point)) : Option (Lp (Int × (List Point)) ((List Point))) := match stt with
 | (x, out1) =>
  (bif (ltB x (aG .i64 (aG .i64 f.box.X f.box.W) 2)) then
   (dr 16 out1 [(⟨x, y⟩ : Point)]).bind fun _l =>
   some (.next ((aG .i64 x 1), (out1 ++ [(⟨x, y⟩ : Point)])))
  else
   some (.out out1))
def bQ (f : cellularref20_field) (stt : Int × (List Point)) : Option (Lp (Int × (List Point)) ((List Point))) := match stt with
 | (y, out) =>
  (bif (ltB y (aG .i64 (aG .i64 f.box.Y f.box.H) 2)) then
   (ak (bP f y out) aA ((aC .i64 f.box.X 2), out)).bind fun out1 =>
   some (.next ((aG .i64 y 1), out1))
  else
   some (.out out))
def bu (f : cellularref20_field) (i : Int) (_out : List Point) (y : Int) (stt : Int × (List Point)) : Option (Lp (Int × (List Point)) ((List Point))) := match stt with
 | (x, out2) =>
  (bif (leB x 2) then
   ((idx f.list i).bind fun x1 =>
   (cb f i (⟨(aG .i64 x1.X x), (aG .i64 x1.Y y)⟩ : Point)).bind fun y1 =>
   (bif (aD y1) then
    (dr 16 out2 [(⟨(aG .i64 x1.X x), (aG .i64 x1.Y y)⟩ : Point)]).bind fun _l =>
    some (out2 ++ [(⟨(aG .i64 x1.X x), (aG .i64 x1.Y y)⟩ : Point)])
   else
    some out2)).bind fun out3 =>
   some (.next ((aG .i64 x 1), out3))
  else
   some (.out out2))
def cj (f : cellularref20_field) (i : Int) (out : List Point) (stt : Int × (List Point)) : Option (Lp (Int × (List Point)) ((List Point))) := match stt with
 | (y, out1) =>
  (bif (leB y 2) then
   (ak (bu f i out y) aA ((-2), out1)).bind fun out2 =>
   some (.next ((aG .i64 y 1), out2))
  else
   some (.out out1))
def bT (f : cellularref20_field) (stt : Int × (List Point)) : Option (Lp (Int × (List Point)) ((List Point))) := match stt with
 | (i, out) =>
  (bif (ltB i (ah f.list)) then
   (ak (cj f i out) aA ((-2), out)).bind fun out1 =>
   some (.next ((aG .i64 i 1), out1))
  else
   some (.out out))
def da (f : cellularref20_field) : Option (List Point) :=
 (bif f.flat then
  (ak (bQ f) aA ((aC .i64 f.box.Y 2), [])).bind fun out =>
  some out
 else
  (ak (bT f) aA (0, [])).bind fun out =>
  some out)
def fy (p : List Cell) (x : Int) (y : Int) (stt : Int) : Option (Lp (Int) (Int ⊕ Unit)) := match stt with
 | i =>
  (bif (ltB i (ah p)) then
   ((idx p i).bind fun x1 =>
   (bif (eqB x1.X x) then
    some (eqB x1.Y y)
   else
    some false)).bind fun a =>
   (bif a then
    (idx p i).bind fun x1 =>
    some (.out (.inl x1.S))
   else
    some (.next (aG .i64 i 1)))
  else
   some (.out (.inr ())))
def jz (p : List Cell) (x : Int) (y : Int) : Option (Int) :=
 (ak (fy p x y) aA 0).bind fun o => match o with
  | .inl r =>
   some r
  | .inr _u =>
   some 0
def dj (f : cellularref20_field) (x : Int) (y : Int) : Option (Int) :=
 (bif (aD f.flat) then
  (jz f.list x y).bind fun y1 =>
  some y1
 else
  ((bif (ltB x f.box.X) then
   some true
  else
   (bif (geB x (aG .i64 f.box.X f.box.W)) then
    some true
   else
    (bif (ltB y f.box.Y) then
     some true
    else
     some (geB y (aG .i64 f.box.Y f.box.H)))))).bind fun a =>
  (bif a then
   some 0
  else
   (idx f.cells (aC .i64 (aG .i64 (dW .i64 (aC .i64 y f.box.Y) f.box.W) x) f.box.X)).bind fun x1 =>
   some x1))
def fA (t : Tree) (f : cellularref20_field) (x : Int) (y : Int) (stt : Int × (List Int)) : Option (Lp (Int × (List Int)) ((List Int))) := match stt with
 | (i, in_) =>
  (bif (ltB i (ah t.Hood)) then
   (idx t.Hood i).bind fun x1 =>
   (dj f (aG .i64 x x1.X) (aG .i64 y x1.Y)).bind fun y1 =>
   (dr 8 in_ [y1]).bind fun _l =>
   some (.next ((aG .i64 i 1), (in_ ++ [y1])))
  else
   some (.out in_))
def iz (t : Tree) (f : cellularref20_field) (x : Int) (y : Int) : Option (Int) :=
 (ak (fA t f x y) aA (0, [])).bind fun in_ =>
 (fk t in_).bind fun y1 =>
 some y1
def gC (x : Int) (y : Int) : Option (Bool) :=
 ((bif (geB x (-1048576)) then
  (bif (leB x 1048576) then
   (bif (geB y (-1048576)) then
    some (leB y 1048576)
   else
    some false)
  else
   some false)
 else
  some false)).bind fun a =>
 some a
def dm (p : List Cell) (cv : Cell) (stt : Bool × Int × (List Cell)) : Option (Lp (Bool × Int × (List Cell)) ((Bool × (List Cell)))) := match stt with
 | (done, i, out) =>
  (bif (ltB i (ah p)) then
   (((bif (aD done) then
    (idx p i).bind fun x =>
    (dJ cv x).bind fun y =>
    some y
   else
    some false)).bind fun a =>
   (bif a then
    (dr 24 out [cv]).bind fun _l =>
    some (true, (out ++ [cv]))
   else
    some (done, out))).bind fun (done1, out1) =>
   (idx p i).bind fun x =>
   (dr 24 out1 [x]).bind fun _l =>
   some (.next (done1, (aG .i64 i 1), (out1 ++ [x])))
  else
   some (.out (done, out)))
def fE (p : List Cell) (cv : Cell) : Option (List Cell) :=
 (ak (dm p cv) aA (false, 0, [])).bind fun (done, out) =>
 ((bif (aD done) then
  (dr 24 out [cv]).bind fun _l =>
  some (out ++ [cv])
 else
  some out)).bind fun out1 =>
 some out1
def ew (l : List Cell) (stt : Int) : Option (Lp (Int) (((List Cell) × Int) ⊕ Unit)) := match stt with
 | i =>
  (bif (ltB i (ah l)) then
   (idx l i).bind fun x =>
   (fx x.X x.Y).bind fun y =>
   (bif (aD y) then
    some (.out (.inl ([], 5)))
   else
    ((bif (ltB x.S 0) then
     some true
    else
     some (geB x.S 8))).bind fun a =>
    (bif a then
     some (.out (.inl ([], 10)))
    else
     some (.next (aG .i64 i 1))))
  else
   some (.out (.inr ())))
def ey (l : List Cell) (stt : (List Cell) × Int) : Option (Lp ((List Cell) × Int) ((List Cell))) := match stt with
 | (p, i) =>
  (bif (ltB i (ah l)) then
   ((idx l i).bind fun x =>
   (bif (neB x.S 0) then
    (fE p x).bind fun y =>
    some y
   else
    some p)).bind fun p1 =>
   some (.next (p1, (aG .i64 i 1)))
  else
   some (.out p))
def ep (p : List Cell) (stt : Int) : Option (Lp (Int) (((List Cell) × Int) ⊕ Unit)) := match stt with
 | i =>
  (bif (ltB i (ah p)) then
   (idx p (aC .i64 i 1)).bind fun x =>
   (idx p i).bind fun x1 =>
   (dJ x x1).bind fun y =>
   (bif (aD y) then
    some (.out (.inl ([], 8)))
   else
    some (.next (aG .i64 i 1)))
  else
   some (.out (.inr ())))
def iG (l : List Cell) : Option ((List Cell) × Int) :=
 (ak (ew l) aA 0).bind fun o => match o with
  | .inl r =>
   some r
  | .inr _u =>
   (ak (ey l) aA ([], 0)).bind fun p =>
   (ak (ep p) aA 1).bind fun o => match o with
    | .inl r =>
     some r
    | .inr _u =>
     (bif (gtB (ah p) 5000) then
      some ([], 6)
     else
      some (p, 0))
def dM (t : Tree) (y1 : cellularref20_field) (y2 : List Point) (stt : Bool × Int × (List Cell)) : Option (Lp (Bool × Int × (List Cell)) ((Bool × (List Cell)))) := match stt with
 | (out, i, l) =>
  (bif (ltB i (ah y2)) then
   ((idx y2 i).bind fun x =>
   (iz t y1 x.X x.Y).bind fun y3 =>
   (bif (neB y3 0) then
    (dr 24 l [(⟨x.X, x.Y, y3⟩ : Cell)]).bind fun _l1 =>
    (bif out then
     some (true, (l ++ [(⟨x.X, x.Y, y3⟩ : Cell)]))
    else
     (gC x.X x.Y).bind fun y4 =>
     some ((aD y4), (l ++ [(⟨x.X, x.Y, y3⟩ : Cell)])))
   else
    some (out, l))).bind fun (out1, l1) =>
   some (.next (out1, (aG .i64 i 1), l1))
  else
   some (.out (out, l)))
def dS (t : Tree) (p : List Cell) : Option ((List Cell) × Int) :=
 (gu t p).bind fun y =>
 (bif (neB y 0) then
  some ([], y)
 else
  (fK p).bind fun y1 =>
  (da y1).bind fun y2 =>
  (ak (dM t y1 y2) aA (false, 0, [])).bind fun (out, l) =>
  (bif out then
   some ([], 5)
  else
   (bif (gtB (ah l) 5000) then
    some ([], 6)
   else
    (iG l).bind fun y3 =>
    some (y3.1, y3.2))))
def cO (t : Tree) (n : Int) (stt : Int × (List (List Cell))) : Option (Lp (Int × (List (List Cell))) (((List (List Cell)) × Int) ⊕ (List (List Cell)))) := match stt with
 | (i, out) =>
  (bif (ltB i n) then
   (idx out i).bind fun x =>
   (dS t x).bind fun y1 =>
   (bif (neB y1.2 0) then
    some (.out (.inl ([], y1.2)))
   else
    (dr 24 out [y1.1]).bind fun _l =>
    some (.next ((aG .i64 i 1), (out ++ [y1.1]))))
  else
   some (.out (.inr out)))
def eR (t : Tree) (p : List Cell) (n : Int) : Option ((List (List Cell)) × Int) :=
 (gu t p).bind fun y =>
 (bif (neB y 0) then
  some ([], y)
 else
  ((bif (ltB n 0) then
   some true
  else
   some (gtB n 10000))).bind fun a =>
  (bif a then
   some ([], 2)
  else
   (ak (cO t n) aA (0, [p])).bind fun o => match o with
    | .inl r =>
     some r
    | .inr out =>
     some (out, 0)))
def fD (t : Tree) (p : List Cell) (n : Int) : Option ((List Cell) × Int) :=
 (eR t p n).bind fun y =>
 (bif (neB y.2 0) then
  some ([], y.2)
 else
  (idx y.1 n).bind fun x =>
  some (x, 0))
def fJ (p : List Cell) (stt : Int × (List Cell)) : Option (Lp (Int × (List Cell)) ((List Cell))) := match stt with
 | (i, out) =>
  (bif (ltB i (ah p)) then
   (idx p i).bind fun x =>
   (idx p 0).bind fun x1 =>
   (dr 24 out [(⟨(aC .i64 x.X x1.X), (aC .i64 x.Y x1.Y), x.S⟩ : Cell)]).bind fun _l =>
   some (.next ((aG .i64 i 1), (out ++ [(⟨(aC .i64 x.X x1.X), (aC .i64 x.Y x1.Y), x.S⟩ : Cell)])))
  else
   some (.out out))
def fc (p : List Cell) : Option (List Cell) :=
 (ak (fJ p) aA (0, [])).bind fun out =>
 some out
def eG (t : Tree) (p : List Cell) (most : Int) (stt : (List Cell) × Int) : Option (Lp ((List Cell) × Int) ((Motion × Bool × Int) ⊕ Unit)) := match stt with
 | (q, n) =>
  (bif (leB n most) then
   (dS t q).bind fun y1 =>
   (bif (neB y1.2 0) then
    some (.out (.inl ((⟨0, 0, 0⟩ : Motion), false, y1.2)))
   else
    ((bif (gtB (ah y1.1) 0) then
     (fc y1.1).bind fun y2 =>
     (fc p).bind fun y3 =>
     (eu y2 y3).bind fun y4 =>
     some y4
    else
     some false)).bind fun a1 =>
    (bif a1 then
     (idx y1.1 0).bind fun x =>
     (idx p 0).bind fun x1 =>
     some (.out (.inl ((⟨n, (aC .i64 x.X x1.X), (aC .i64 x.Y x1.Y)⟩ : Motion), true, 0)))
    else
     some (.next (y1.1, (aG .i64 n 1)))))
  else
   some (.out (.inr ())))
def iE (t : Tree) (p : List Cell) (most : Int) : Option (Motion × Bool × Int) :=
 (fD t p 0).bind fun y =>
 (bif (neB y.2 0) then
  some ((⟨0, 0, 0⟩ : Motion), false, y.2)
 else
  ((bif (ltB most 1) then
   some true
  else
   some (gtB most 64))).bind fun a =>
  (bif a then
   some ((⟨0, 0, 0⟩ : Motion), false, 2)
  else
   (bif (eqB (ah p) 0) then
    some ((⟨0, 0, 0⟩ : Motion), false, 0)
   else
    (ak (eG t p most) aA (p, 1)).bind fun o => match o with
     | .inl r =>
      some r
     | .inr _u =>
      some ((⟨0, 0, 0⟩ : Motion), false, 0))))
def jy (t : Tree) (p : List Cell) (m : Motion) : Option (Bool × Int) :=
 (iE t p m.Period).bind fun y =>
 (bif (neB y.2.2 0) then
  some (false, y.2.2)
 else
  ((bif y.2.1 then
   some (bY (eqB y.1.Period m.Period) (bY (eqB y.1.DX m.DX) (bY (eqB y.1.DY m.DY) true)))
  else
   some false)).bind fun a =>
  some (a, 0))
def fh (t : Tree) (s : Ship) : Option (Bool) :=
 (jy t s.Cells s.Motion).bind fun y =>
 (fB s.Cells).bind fun y1 =>
 ((bif y.1 then
  (bif (eqB y.2 0) then
   (bif y1.2 then
    (bif (leB y1.1.W 10000) then
     some (leB y1.1.H 10000)
    else
     some false)
   else
    some false)
  else
   some false)
 else
  some false)).bind fun a =>
 some a
def gj (t : Tree) (s : Ship) (n : Int) : Option (List Cell) :=
 (fD t s.Cells n).bind fun y =>
 some y.1
def ez (p : List Cell) (stt : Int × Int × Int) : Option (Lp (Int × Int × Int) ((Int × Int))) := match stt with
 | (x1, y, i) =>
  (bif (ltB i (ah p)) then
   (idx p i).bind fun x2 =>
   some (.next ((gR x1 x2.X), (gR y x2.Y), (aG .i64 i 1)))
  else
   some (.out (x1, y)))
def dL (p : List Cell) (x1 : Int) (y : Int) (stt : Int × (List Cell)) : Option (Lp (Int × (List Cell)) ((List Cell))) := match stt with
 | (i, out) =>
  (bif (ltB i (ah p)) then
   (idx p i).bind fun x2 =>
   (dr 24 out [(⟨(aC .i64 x2.X x1), (aC .i64 x2.Y y), x2.S⟩ : Cell)]).bind fun _l =>
   some (.next ((aG .i64 i 1), (out ++ [(⟨(aC .i64 x2.X x1), (aC .i64 x2.Y y), x2.S⟩ : Cell)])))
  else
   some (.out out))
def iw (p : List Cell) : Option (List Cell) :=
 ((eo p).bind fun y =>
 (bif (aD y) then
  some true
 else
  some (eqB (ah p) 0))).bind fun a =>
 (bif a then
  some p
 else
  (idx p 0).bind fun x =>
  (ak (ez p) aA (x.X, x.Y, 0)).bind fun (x1, y) =>
  (ak (dL p x1 y) aA (0, [])).bind fun out =>
  some out)
def gO (t : Tree) (s : Ship) (n : Int) : Option ((List Cell) × Int) :=
 (ft t).bind fun y =>
 (bif (aD y) then
  some ([], 11)
 else
  ((fh t s).bind fun y1 =>
  (bif (aD y1) then
   some true
  else
   (bif (ltB n 0) then
    some true
   else
    some (gtB n 10000)))).bind fun a =>
  (bif a then
   some ([], 2)
  else
   (irem n s.Motion.Period).bind fun n1 =>
   (gj t s n1).bind fun y1 =>
   (iw y1).bind fun y2 =>
   some (y2, 0)))
def e7 (t : Tree) (s : Ship) (n : Int) : Option (Bool) :=
 (gF t [s]).bind fun y =>
 (bif (aD y) then
  (gH).bind fun y1 =>
  some y1
 else
  (dK t s n).bind fun y1 =>
  (gO t s n).bind fun y2 =>
  ((dN t s).bind fun y3 =>
  (fh t s).bind fun y4 =>
  (bif (eqb y3 y4) then
   (eu y1.1 y2.1).bind fun y5 =>
   (bif y5 then
    (bif (eqB y1.2 y2.2) then
     (gH).bind fun y6 =>
     some y6
    else
     some false)
   else
    some false)
  else
   some false)).bind fun a =>
  some a)
end Go.Proofs.YtfpjnmhdbgbmmaaGreatDoor
