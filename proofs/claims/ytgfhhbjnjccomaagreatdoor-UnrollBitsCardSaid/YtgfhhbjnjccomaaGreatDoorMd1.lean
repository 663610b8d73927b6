/-
  The functions, as functions of lists and numbers (made by cc.py).
-/
import Derived.Test.YtgfhhbjnjccomaaGreatDoorMd0
namespace Go.Proofs.YtgfhhbjnjccomaaGreatDoor
open Go.AM Go.Proofs
def b_L45_Small_1 (t : Tree) (_x : Problem) (stt : Int) : Option (Lp (Int) (Bool ⊕ Unit)) := match stt with
  | a1 =>
    (bif (ltB a1 (lenL t.Nodes)) then
      (idx t.Nodes a1).bind fun x1 =>
      (bif (gtB (lenL x1.Next) 20) then
        some (.out (.inl false))
      else
        some (.next (iadd .i64 a1 1)))
    else
      some (.out (.inr ())))
def m_L45_Small (t : Tree) (x : Problem) : Option (Bool) :=
  ((bif (gtB (lenL t.Nodes) 150) then
    some true
  else
    (bif (gtB (lenL t.Hood) 9) then
      some true
    else
      (bif (gtB (lenL x.Syms) 20) then
        some true
      else
        (bif (gtB x.Gens 3) then
          some (leB x.Gens 6)
        else
          some false))))).bind fun a =>
  (bif a then
    some false
  else
    (loopN (b_L45_Small_1 t x) loopF 0).bind fun o => match o with
      | .inl r =>
        some r
      | .inr _u =>
        ((bif (ltB x.W 1) then
          some true
        else
          (bif (ltB x.H 1) then
            some true
          else
            (bif (gtB x.W 16) then
              some true
            else
              (bif (gtB x.H 16) then
                some true
              else
                (bif (leB (imul .i64 x.W x.H) 9) then
                  some true
                else
                  some (gtB (imul .i64 x.W x.H) 16))))))).bind fun a1 =>
        some a1)
def m_L45_alive : Option (Bool) := some true
def m_cmp_isNaN_int (x : Int) : Option (Bool) :=
  some (neB x x)
def m_cmp_Compare_int (x : Int) (y : Int) : Option (Int) :=
  (m_cmp_isNaN_int x).bind fun y1 =>
  (m_cmp_isNaN_int y).bind fun y2 =>
  (bif y1 then
    (bif y2 then
      some 0
    else
      some (-1))
  else
    (bif y2 then
      some 1
    else
      (bif (ltB x y) then
        some (-1)
      else
        (bif (gtB x y) then
          some 1
        else
          some 0))))
def b_cmp_Or_int_1 (vals : List Int) (stt : Int) : Option (Lp (Int) (Int ⊕ Unit)) := match stt with
  | a =>
    (bif (ltB a (lenL vals)) then
      (idx vals a).bind fun x =>
      (bif (neB x 0) then
        some (.out (.inl x))
      else
        some (.next (iadd .i64 a 1)))
    else
      some (.out (.inr ())))
def m_cmp_Or_int (vals : List Int) : Option (Int) :=
  (loopN (b_cmp_Or_int_1 vals) loopF 0).bind fun o => match o with
    | .inl r =>
      some r
    | .inr _u =>
      some 0
def m_point_Compare (a : Point) (b : Point) : Option (Int) :=
  (m_cmp_Compare_int a.Y b.Y).bind fun y =>
  (m_cmp_Compare_int a.X b.X).bind fun y1 =>
  (m_cmp_Or_int [y, y1]).bind fun y2 =>
  some y2
def b_hood_Right_1 (l : List Point) (stt : Int) : Option (Lp (Int) (Bool ⊕ Unit)) := match stt with
  | a1 =>
    (bif (ltB a1 (lenL l)) then
      (idx l a1).bind fun x =>
      ((bif (ltB x.X (-2)) then
        some true
      else
        (bif (gtB x.X 2) then
          some true
        else
          (bif (ltB x.Y (-2)) then
            some true
          else
            (bif (gtB x.Y 2) then
              some true
            else
              (bif (gtB a1 0) then
                (idx l (isub .i64 a1 1)).bind fun x1 =>
                (m_point_Compare x1 x).bind fun y =>
                some (geB y 0)
              else
                some false)))))).bind fun a2 =>
      (bif a2 then
        some (.out (.inl false))
      else
        some (.next (iadd .i64 a1 1)))
    else
      some (.out (.inr ())))
def m_hood_Right (l : List Point) : Option (Bool) :=
  ((bif (ltB (lenL l) 1) then
    some true
  else
    some (gtB (lenL l) 25))).bind fun a =>
  (bif a then
    some false
  else
    (loopN (b_hood_Right_1 l) loopF 0).bind fun o => match o with
      | .inl r =>
        some r
      | .inr _u =>
        some true)
def b_tree_Right_2 (t : Tree) (a1 : Int) (x : Node) (stt : Int) : Option (Lp (Int) (Bool ⊕ Unit)) := match stt with
  | a3 =>
    (bif (ltB a3 (lenL x.Next)) then
      (idx x.Next a3).bind fun x1 =>
      ((bif (ltB x1 0) then
        some true
      else
        (bif (eqB x.Level 1) then
          (bif (geB x1 t.States) then
            some true
          else
            (bif (gtB x.Level 1) then
              (bif (geB x1 a1) then
                some true
              else
                (idx t.Nodes x1).bind fun x2 =>
                some (neB x2.Level (isub .i64 x.Level 1)))
            else
              some false))
        else
          (bif (gtB x.Level 1) then
            (bif (geB x1 a1) then
              some true
            else
              (idx t.Nodes x1).bind fun x2 =>
              some (neB x2.Level (isub .i64 x.Level 1)))
          else
            some false)))).bind fun a4 =>
      (bif a4 then
        some (.out (.inl false))
      else
        some (.next (iadd .i64 a3 1)))
    else
      some (.out (.inr ())))
def b_tree_Right_1 (t : Tree) (stt : Int) : Option (Lp (Int) (Bool ⊕ Unit)) := match stt with
  | a1 =>
    (bif (ltB a1 (lenL t.Nodes)) then
      (idx t.Nodes a1).bind fun x =>
      ((bif (ltB x.Level 1) then
        some true
      else
        (bif (gtB x.Level (lenL t.Hood)) then
          some true
        else
          some (neB (lenL x.Next) t.States)))).bind fun a2 =>
      (bif a2 then
        some (.out (.inl false))
      else
        (loopN (b_tree_Right_2 t a1 x) loopF 0).bind fun o => match o with
          | .inl r =>
            some (.out (.inl r))
          | .inr _u =>
            some (.next (iadd .i64 a1 1)))
    else
      some (.out (.inr ())))
def m_tree_Right (t : Tree) : Option (Bool) :=
  ((bif (ltB t.States 2) then
    some true
  else
    (bif (gtB t.States 8) then
      some true
    else
      (m_hood_Right t.Hood).bind fun y =>
      (bif (notB y) then
        some true
      else
        (bif (ltB (lenL t.Nodes) 1) then
          some true
        else
          (bif (gtB (lenL t.Nodes) 4096) then
            some true
          else
            (idx t.Nodes (isub .i64 (lenL t.Nodes) 1)).bind fun x =>
            some (neB x.Level (lenL t.Hood)))))))).bind fun a =>
  (bif a then
    some false
  else
    (loopN (b_tree_Right_1 t) loopF 0).bind fun o => match o with
      | .inl r =>
        some r
      | .inr _u =>
        some true)
def b_tree_value_1 (t : Tree) (in_ : List Int) (stt : Int × Int) : Option (Lp (Int × Int) (Int)) := match stt with
  | (k, a) =>
    (bif (ltB a (lenL in_)) then
      (idx in_ a).bind fun x =>
      (idx t.Nodes k).bind fun x1 =>
      (idx x1.Next x).bind fun x2 =>
      some (.next (x2, (iadd .i64 a 1)))
    else
      some (.out k))
def m_tree_value (t : Tree) (in_ : List Int) : Option (Int) :=
  (loopN (b_tree_value_1 t in_) loopF ((isub .i64 (lenL t.Nodes) 1), 0)).bind fun k =>
  some k
def m_tree_Quiet (t : Tree) : Option (Bool) :=
  ((m_tree_Right t).bind fun y =>
  (bif y then
    (mkL 8 (lenL t.Hood) (lenL t.Hood) 0).bind fun _l =>
    (m_tree_value t (List.replicate (lenL t.Hood).toNat 0)).bind fun y1 =>
    some (eqB y1 0)
  else
    some false)).bind fun a =>
  some a
def m_pattern_at (c : Cell) : Option (Point) :=
  some (⟨c.X, c.Y⟩ : Point)
def m_pattern_placed (p : Point) : Option (Bool) :=
  ((bif (leB (imax p.X p.Y) 1048576) then
    some (geB (imin p.X p.Y) (-1048576))
  else
    some false)).bind fun a =>
  some a
def m_pattern_order (a : Cell) (b : Cell) : Option (Int) :=
  (m_pattern_at a).bind fun y =>
  (m_pattern_at b).bind fun y1 =>
  (m_point_Compare y y1).bind fun y2 =>
  some y2
def b_pattern_Right_1 (p : List Cell) (stt : Int) : Option (Lp (Int) (Bool ⊕ Unit)) := match stt with
  | a =>
    (bif (ltB a (lenL p)) then
      (idx p a).bind fun x =>
      ((m_pattern_at x).bind fun y =>
      (m_pattern_placed y).bind fun y1 =>
      (bif (notB y1) then
        some true
      else
        (bif (ltB x.S 1) then
          some true
        else
          (bif (geB x.S 8) then
            some true
          else
            (bif (gtB a 0) then
              (idx p (isub .i64 a 1)).bind fun x1 =>
              (m_pattern_order x1 x).bind fun y2 =>
              some (geB y2 0)
            else
              some false))))).bind fun a1 =>
      (bif a1 then
        some (.out (.inl false))
      else
        some (.next (iadd .i64 a 1)))
    else
      some (.out (.inr ())))
def m_pattern_Right (p : List Cell) : Option (Bool) :=
  (bif (gtB (lenL p) 5000) then
    some false
  else
    (loopN (b_pattern_Right_1 p) loopF 0).bind fun o => match o with
      | .inl r =>
        some r
      | .inr _u =>
        some true)
def b_pattern_Top_1 (p : List Cell) (stt : Int × Int) : Option (Lp (Int × Int) (Int)) := match stt with
  | (n, a) =>
    (bif (ltB a (lenL p)) then
      (idx p a).bind fun x =>
      some (.next ((imax n x.S), (iadd .i64 a 1)))
    else
      some (.out n))
def m_pattern_Top (p : List Cell) : Option (Int) :=
  (loopN (b_pattern_Top_1 p) loopF (0, 0)).bind fun n =>
  some n
def m_direct_check (t : Tree) (p : List Cell) : Option (Int) :=
  (m_tree_Quiet t).bind fun y =>
  (bif (notB y) then
    some 11
  else
    (m_pattern_Right p).bind fun y1 =>
    (bif (notB y1) then
      some 2
    else
      (m_pattern_Top p).bind fun y2 =>
      (bif (geB y2 t.States) then
        some 10
      else
        some 0)))
def b_direct_Run_1 (_t : Tree) (_p : List Cell) (n : Int) (stt : Unit) : Option (Lp (Unit) (Unit)) := match stt with
  | _u =>
    (bif (ltB 0 n) then
      none
    else
      some (.out ()))
def m_direct_Run (t : Tree) (p : List Cell) (n : Int) : Option ((List Cell) × Int) :=
  (m_direct_check t p).bind fun y =>
  (bif (neB y 0) then
    some ([], y)
  else
    ((bif (ltB n 0) then
      some true
    else
      some (gtB n 10000))).bind fun a =>
    (bif a then
      some ([], 2)
    else
      (loopN (b_direct_Run_1 t p n) loopF ()).bind fun _u =>
      some (p, 0)))
def b_problem_fits_1 (x : Problem) (stt : Int × (List Bool)) : Option (Lp (Int × (List Bool)) (Bool ⊕ Unit)) := match stt with
  | (a, seen) =>
    (bif (ltB a (lenL x.Syms)) then
      (idx x.Syms a).bind fun x1 =>
      ((bif (ltB x1 0) then
        some true
      else
        (bif (geB x1 8) then
          some true
        else
          (aidx 8 seen x1).bind fun x2 =>
          (bif x2 then
            some true
          else
            (irem x1 2).bind fun n =>
            (bif (eqB n 1) then
              some (neB x.W x.H)
            else
              some false))))).bind fun a1 =>
      (bif a1 then
        some (.out (.inl false))
      else
        (aidx 8 seen x1).bind fun _x2 =>
        some (.next ((iadd .i64 a 1), (seen.set x1.toNat true))))
    else
      some (.out (.inr ())))
def m_problem_fits (x : Problem) : Option (Bool) :=
  (loopN (b_problem_fits_1 x) loopF (0, [false, false, false, false, false, false, false, false])).bind fun o => match o with
    | .inl r =>
      some r
    | .inr _u =>
      some true
def m_problem_first (x : Problem) : Option (Int) :=
  (bif (ltB (imin x.W x.H) 1) then
    some 2
  else
    ((bif (gtB (imax x.W x.H) 16) then
      some true
    else
      some (gtB (imul .i64 x.W x.H) 16))).bind fun a =>
    (bif a then
      some 6
    else
      ((bif (ltB x.Gens 1) then
        some true
      else
        (bif (gtB x.Gens 6) then
          some true
        else
          (bif (gtB (imax x.DX x.DY) 24) then
            some true
          else
            (bif (ltB (imin x.DX x.DY) (-24)) then
              some true
            else
              (m_problem_fits x).bind fun y =>
              some (notB y)))))).bind fun a1 =>
      (bif a1 then
        some 2
      else
        some 0)))
def m_problem_Check (t : Tree) (x : Problem) : Option (Int) :=
  (m_direct_Run t [] 0).bind fun y =>
  (bif (neB y.2 0) then
    some y.2
  else
    (m_problem_first x).bind fun y1 =>
    some y1)
def m_lower_Bits (states : Int) : Option (Int) :=
  (bif (eqB states 2) then
    some 1
  else
    ((bif (eqB states 3) then
      some (eqB states 3)
    else
      some (eqB states 4))).bind fun a =>
    (bif a then
      some 2
    else
      ((bif (gtB states 4) then
        some (leB states 8)
      else
        some false)).bind fun a1 =>
      (bif a1 then
        some 3
      else
        some 0)))
def b_lower_State_1 (l : List Bool) (stt : Int × Int) : Option (Lp (Int × Int) (Int)) := match stt with
  | (n, a) =>
    (bif (ltB a (lenL l)) then
      ((idx l a).bind fun x =>
      (bif x then
        (ishl .i64 1 a).bind fun n1 =>
        some (ior .i64 n n1)
      else
        some n)).bind fun n1 =>
      some (.next (n1, (iadd .i64 a 1)))
    else
      some (.out n))
def m_lower_State (l : List Bool) : Option (Int) :=
  (bif (gtB (lenL l) 8) then
    some 0
  else
    (loopN (b_lower_State_1 l) loopF (0, 0)).bind fun n =>
    some n)
def b_unroll_Pattern_1 (t : Tree) (x : Problem) (l : List Bool) (y1 : Int) (stt : Int × (List Cell)) : Option (Lp (Int × (List Cell)) (((List Cell) × Int) ⊕ (List Cell))) := match stt with
  | (a, out) =>
    (bif (ltB a (imul .i64 x.W x.H)) then
      (slcL l (imul .i64 a y1) (imul .i64 (iadd .i64 a 1) y1)).bind fun l1 =>
      (m_lower_State l1).bind fun y2 =>
      (bif (geB y2 t.States) then
        some (.out (.inl ([], 10)))
      else
        (bif (gtB y2 0) then
          (irem a x.W).bind fun n =>
          (iquo .i64 a x.W).bind fun n1 =>
          (appL 24 out [(⟨n, n1, y2⟩ : Cell)]).bind fun _l2 =>
          some (.next ((iadd .i64 a 1), (out ++ [(⟨n, n1, y2⟩ : Cell)])))
        else
          some (.next ((iadd .i64 a 1), out))))
    else
      some (.out (.inr out)))
def m_unroll_Pattern (t : Tree) (x : Problem) (l : List Bool) : Option ((List Cell) × Int) :=
  (m_problem_Check t x).bind fun y =>
  (bif (neB y 0) then
    some ([], y)
  else
    (m_lower_Bits t.States).bind fun y1 =>
    (bif (neB (lenL l) (imul .i64 (imul .i64 x.W x.H) y1)) then
      some ([], 2)
    else
      (loopN (b_unroll_Pattern_1 t x l y1) loopF (0, [])).bind fun o => match o with
        | .inl r =>
          some r
        | .inr out =>
          some (out, 0)))
def m_R07_before (a : Point) (b : Point) : Option (Bool) :=
  ((bif (ltB a.Y b.Y) then
    some true
  else
    (bif (eqB a.Y b.Y) then
      some (ltB a.X b.X)
    else
      some false))).bind fun a1 =>
  some a1
def b_R07_Right_1 (l : List Point) (stt : Int) : Option (Lp (Int) (Bool ⊕ Unit)) := match stt with
  | i =>
    (bif (ltB i (lenL l)) then
      (idx l i).bind fun x =>
      ((bif (ltB x.X (-2)) then
        some true
      else
        (bif (gtB x.X 2) then
          some true
        else
          (bif (ltB x.Y (-2)) then
            some true
          else
            (bif (gtB x.Y 2) then
              some true
            else
              (bif (gtB i 0) then
                (idx l (isub .i64 i 1)).bind fun x1 =>
                (m_R07_before x1 x).bind fun y =>
                some (notB y)
              else
                some false)))))).bind fun a1 =>
      (bif a1 then
        some (.out (.inl false))
      else
        some (.next (iadd .i64 i 1)))
    else
      some (.out (.inr ())))
def m_R07_Right (l : List Point) : Option (Bool) :=
  ((bif (ltB (lenL l) 1) then
    some true
  else
    some (gtB (lenL l) 25))).bind fun a =>
  (bif a then
    some false
  else
    (loopN (b_R07_Right_1 l) loopF 0).bind fun o => match o with
      | .inl r =>
        some r
      | .inr _u =>
        some true)
def b_R12_Right_2 (t : Tree) (i : Int) (x : Node) (stt : Int) : Option (Lp (Int) (Bool ⊕ Unit)) := match stt with
  | s =>
    (bif (ltB s t.States) then
      (idx x.Next s).bind fun x1 =>
      (bif (ltB x1 0) then
        some (.out (.inl false))
      else
        ((bif (eqB x.Level 1) then
          some (geB x1 t.States)
        else
          some false)).bind fun a2 =>
        (bif a2 then
          some (.out (.inl false))
        else
          ((bif (gtB x.Level 1) then
            (bif (geB x1 i) then
              some true
            else
              (idx t.Nodes x1).bind fun x2 =>
              some (neB x2.Level (isub .i64 x.Level 1)))
          else
            some false)).bind fun a3 =>
          (bif a3 then
            some (.out (.inl false))
          else
            some (.next (iadd .i64 s 1)))))
    else
      some (.out (.inr ())))
def b_R12_Right_1 (t : Tree) (stt : Int) : Option (Lp (Int) (Bool ⊕ Unit)) := match stt with
  | i =>
    (bif (ltB i (lenL t.Nodes)) then
      (idx t.Nodes i).bind fun x =>
      ((bif (ltB x.Level 1) then
        some true
      else
        (bif (gtB x.Level (lenL t.Hood)) then
          some true
        else
          some (neB (lenL x.Next) t.States)))).bind fun a1 =>
      (bif a1 then
        some (.out (.inl false))
      else
        (loopN (b_R12_Right_2 t i x) loopF 0).bind fun o => match o with
          | .inl r =>
            some (.out (.inl r))
          | .inr _u =>
            some (.next (iadd .i64 i 1)))
    else
      some (.out (.inr ())))
def m_R12_Right (t : Tree) : Option (Bool) :=
  ((bif (ltB t.States 2) then
    some true
  else
    (bif (gtB t.States 8) then
      some true
    else
      (m_R07_Right t.Hood).bind fun y =>
      (bif (notB y) then
        some true
      else
        (bif (ltB (lenL t.Nodes) 1) then
          some true
        else
          some (gtB (lenL t.Nodes) 4096)))))).bind fun a =>
  (bif a then
    some false
  else
    (loopN (b_R12_Right_1 t) loopF 0).bind fun o => match o with
      | .inl r =>
        some r
      | .inr _u =>
        (idx t.Nodes (isub .i64 (lenL t.Nodes) 1)).bind fun x =>
        some (eqB x.Level (lenL t.Hood)))
def b_R12_Value_1 (t : Tree) (in_ : List Int) (stt : Int × Int) : Option (Lp (Int × Int) (Int)) := match stt with
  | (k, i) =>
    (bif (ltB i (lenL in_)) then
      (idx t.Nodes k).bind fun x =>
      (idx in_ i).bind fun x1 =>
      (idx x.Next x1).bind fun x2 =>
      some (.next (x2, (iadd .i64 i 1)))
    else
      some (.out k))
def m_R12_Value (t : Tree) (in_ : List Int) : Option (Int) :=
  (loopN (b_R12_Value_1 t in_) loopF ((isub .i64 (lenL t.Nodes) 1), 0)).bind fun k =>
  some k
def b_R12_Eval_1 (t : Tree) (in_ : List Int) (stt : Int) : Option (Lp (Int) ((Int × Int) ⊕ Unit)) := match stt with
  | i =>
    (bif (ltB i (lenL in_)) then
      ((idx in_ i).bind fun x =>
      (bif (ltB x 0) then
        some true
      else
        some (geB x t.States))).bind fun a =>
      (bif a then
        some (.out (.inl (0, 10)))
      else
        some (.next (iadd .i64 i 1)))
    else
      some (.out (.inr ())))
def m_R12_Eval (t : Tree) (in_ : List Int) : Option (Int × Int) :=
  (m_R12_Right t).bind fun y =>
  (bif (notB y) then
    some (0, 11)
  else
    (bif (neB (lenL in_) (lenL t.Hood)) then
      some (0, 2)
    else
      (loopN (b_R12_Eval_1 t in_) loopF 0).bind fun o => match o with
        | .inl r =>
          some r
        | .inr _u =>
          (m_R12_Value t in_).bind fun y1 =>
          some (y1, 0)))
def m_R12_Quiet (t : Tree) : Option (Bool) :=
  (m_R12_Right t).bind fun y =>
  (bif (notB y) then
    some false
  else
    (mkL 8 (lenL t.Hood) (lenL t.Hood) 0).bind fun _l =>
    (m_R12_Eval t (List.replicate (lenL t.Hood).toNat 0)).bind fun y1 =>
    some (eqB y1.1 0))
def b_R44_Box_2 (x : Problem) (i : Int) (x1 : Int) (stt : Int) : Option (Lp (Int) (Int ⊕ Unit)) := match stt with
  | k =>
    (bif (ltB k i) then
      (idx x.Syms k).bind fun x2 =>
      (bif (eqB x2 x1) then
        some (.out (.inl 2))
      else
        some (.next (iadd .i64 k 1)))
    else
      some (.out (.inr ())))
def b_R44_Box_1 (x : Problem) (stt : Int) : Option (Lp (Int) (Int ⊕ Unit)) := match stt with
  | i =>
    (bif (ltB i (lenL x.Syms)) then
      (idx x.Syms i).bind fun x1 =>
      ((bif (ltB x1 0) then
        some true
      else
        (bif (gtB x1 7) then
          some true
        else
          (irem x1 2).bind fun n =>
          (bif (eqB n 1) then
            some (neB x.W x.H)
          else
            some false)))).bind fun a3 =>
      (bif a3 then
        some (.out (.inl 2))
      else
        (loopN (b_R44_Box_2 x i x1) loopF 0).bind fun o => match o with
          | .inl r =>
            some (.out (.inl r))
          | .inr _u =>
            some (.next (iadd .i64 i 1)))
    else
      some (.out (.inr ())))
def m_R44_Box (x : Problem) : Option (Int) :=
  ((bif (ltB x.W 1) then
    some true
  else
    some (ltB x.H 1))).bind fun a =>
  (bif a then
    some 2
  else
    ((bif (gtB x.W 16) then
      some true
    else
      (bif (gtB x.H 16) then
        some true
      else
        some (gtB (imul .i64 x.W x.H) 16)))).bind fun a1 =>
    (bif a1 then
      some 6
    else
      ((bif (ltB x.Gens 1) then
        some true
      else
        (bif (gtB x.Gens 6) then
          some true
        else
          (bif (ltB x.DX (-24)) then
            some true
          else
            (bif (gtB x.DX 24) then
              some true
            else
              (bif (ltB x.DY (-24)) then
                some true
              else
                some (gtB x.DY 24))))))).bind fun a2 =>
      (bif a2 then
        some 2
      else
        (loopN (b_R44_Box_1 x) loopF 0).bind fun o => match o with
          | .inl r =>
            some r
          | .inr _u =>
            some 0)))
def m_R44_Check (t : Tree) (x : Problem) : Option (Int) :=
  (m_R12_Quiet t).bind fun y =>
  (bif (notB y) then
    some 11
  else
    (m_R44_Box x).bind fun y1 =>
    some y1)
def m_R18_Bits (states : Int) : Option (Int) :=
  (bif (eqB states 2) then
    some 1
  else
    ((bif (eqB states 3) then
      some true
    else
      some (eqB states 4))).bind fun a =>
    (bif a then
      some 2
    else
      ((bif (geB states 5) then
        some (leB states 8)
      else
        some false)).bind fun a1 =>
      (bif a1 then
        some 3
      else
        some 0)))
def b_R45_Pattern_2 (_t : Tree) (_x : Problem) (l : List Bool) (y1 : Int) (i : Int) (_p : List Cell) (stt : Int × Int) : Option (Lp (Int × Int) (Int)) := match stt with
  | (s, k) =>
    (bif (geB k 0) then
      ((idx l (iadd .i64 (imul .i64 i y1) k)).bind fun x1 =>
      (bif x1 then
        some (iadd .i64 (imul .i64 2 s) 1)
      else
        some (imul .i64 2 s))).bind fun s1 =>
      some (.next (s1, (isub .i64 k 1)))
    else
      some (.out s))
def b_R45_Pattern_1 (t : Tree) (x : Problem) (l : List Bool) (y1 : Int) (stt : Int × (List Cell)) : Option (Lp (Int × (List Cell)) (((List Cell) × Int) ⊕ (List Cell))) := match stt with
  | (i, p) =>
    (bif (ltB i (imul .i64 x.W x.H)) then
      (loopN (b_R45_Pattern_2 t x l y1 i p) loopF (0, (isub .i64 y1 1))).bind fun s =>
      (bif (geB s t.States) then
        some (.out (.inl ([], 10)))
      else
        (bif (gtB s 0) then
          (irem i x.W).bind fun n =>
          (iquo .i64 i x.W).bind fun n1 =>
          (appL 24 p [(⟨n, n1, s⟩ : Cell)]).bind fun _l1 =>
          some (.next ((iadd .i64 i 1), (p ++ [(⟨n, n1, s⟩ : Cell)])))
        else
          some (.next ((iadd .i64 i 1), p))))
    else
      some (.out (.inr p)))
def m_R45_Pattern (t : Tree) (x : Problem) (l : List Bool) : Option ((List Cell) × Int) :=
  (m_R44_Check t x).bind fun y =>
  (bif (neB y 0) then
    some ([], y)
  else
    (m_R18_Bits t.States).bind fun y1 =>
    (bif (neB (lenL l) (imul .i64 (imul .i64 x.W x.H) y1)) then
      some ([], 2)
    else
      (loopN (b_R45_Pattern_1 t x l y1) loopF (0, [])).bind fun o => match o with
        | .inl r =>
          some r
        | .inr p =>
          some (p, 0)))
def m_R05_order (a : Int) (b : Int) : Option (Int) :=
  (bif (ltB a b) then
    some (-1)
  else
    (bif (gtB a b) then
      some 1
    else
      some 0))
def b_R05_Compare_1 (a : List Cell) (b : List Cell) (stt : Int) : Option (Lp (Int) (Int ⊕ Unit)) := match stt with
  | i =>
    ((bif (ltB i (lenL a)) then
      some (ltB i (lenL b))
    else
      some false)).bind fun a1 =>
    (bif a1 then
      (idx a i).bind fun x =>
      (idx b i).bind fun x1 =>
      (bif (neB x.Y x1.Y) then
        (m_R05_order x.Y x1.Y).bind fun y =>
        some (.out (.inl y))
      else
        (bif (neB x.X x1.X) then
          (m_R05_order x.X x1.X).bind fun y =>
          some (.out (.inl y))
        else
          (bif (neB x.S x1.S) then
            (m_R05_order x.S x1.S).bind fun y =>
            some (.out (.inl y))
          else
            some (.next (iadd .i64 i 1)))))
    else
      some (.out (.inr ())))
def m_R05_Compare (a : List Cell) (b : List Cell) : Option (Int) :=
  (loopN (b_R05_Compare_1 a b) loopF 0).bind fun o => match o with
    | .inl r =>
      some r
    | .inr _u =>
      (m_R05_order (lenL a) (lenL b)).bind fun y =>
      some y
def m_R05_Same (a : List Cell) (b : List Cell) : Option (Bool) :=
  (m_R05_Compare a b).bind fun y =>
  some (eqB y 0)
def m_unroll_Bits_1 (c : Cell) (a : Problem) : Option (Bool) :=
  ((bif (ltB c.X 0) then
    some true
  else
    (bif (geB c.X a.W) then
      some true
    else
      (bif (ltB c.Y 0) then
        some true
      else
        some (geB c.Y a.H))))).bind fun a1 =>
  some a1
def b_slices_IndexFunc_api_Pattern_api_Cell_unroll_Bits_1_1 (s : List Cell) (c : Problem) (stt : Int) : Option (Lp (Int) (Int ⊕ Unit)) := match stt with
  | a =>
    (bif (ltB a (lenL s)) then
      (idx s a).bind fun x =>
      (m_unroll_Bits_1 x c).bind fun y =>
      (bif y then
        some (.out (.inl a))
      else
        some (.next (iadd .i64 a 1)))
    else
      some (.out (.inr ())))
def m_slices_IndexFunc_api_Pattern_api_Cell_unroll_Bits_1 (s : List Cell) (c : Problem) : Option (Int) :=
  (loopN (b_slices_IndexFunc_api_Pattern_api_Cell_unroll_Bits_1_1 s c) loopF 0).bind fun o => match o with
    | .inl r =>
      some r
    | .inr _u =>
      some (-1)
def m_slices_ContainsFunc_api_Pattern_api_Cell_unroll_Bits_1 (s : List Cell) (c : Problem) : Option (Bool) :=
  (m_slices_IndexFunc_api_Pattern_api_Cell_unroll_Bits_1 s c).bind fun y =>
  some (geB y 0)
def b_unroll_Bits_2 (x : Problem) (_p : List Cell) (y2 : Int) (_a1 : Int) (_out : List Bool) (x1 : Cell) (stt : Int × (List Bool)) : Option (Lp (Int × (List Bool)) ((List Bool))) := match stt with
  | (a2, out1) =>
    (bif (ltB a2 y2) then
      (ishr .i64 x1.S a2).bind fun n =>
      (idx out1 (iadd .i64 (imul .i64 (iadd .i64 (imul .i64 x1.Y x.W) x1.X) y2) a2)).bind fun _x2 =>
      some (.next ((iadd .i64 a2 1), (out1.set (iadd .i64 (imul .i64 (iadd .i64 (imul .i64 x1.Y x.W) x1.X) y2) a2).toNat (eqB (iand .i64 n 1) 1))))
    else
      some (.out out1))
def b_unroll_Bits_1 (x : Problem) (p : List Cell) (y2 : Int) (stt : Int × (List Bool)) : Option (Lp (Int × (List Bool)) ((List Bool))) := match stt with
  | (a1, out) =>
    (bif (ltB a1 (lenL p)) then
      (idx p a1).bind fun x1 =>
      (loopN (b_unroll_Bits_2 x p y2 a1 out x1) loopF (0, out)).bind fun out1 =>
      some (.next ((iadd .i64 a1 1), out1))
    else
      some (.out out))
def m_unroll_Bits (t : Tree) (x : Problem) (p : List Cell) : Option ((List Bool) × Int) :=
  (m_problem_Check t x).bind fun y =>
  (bif (neB y 0) then
    some ([], y)
  else
    ((m_pattern_Right p).bind fun y1 =>
    (bif (notB y1) then
      some true
    else
      (m_slices_ContainsFunc_api_Pattern_api_Cell_unroll_Bits_1 p x).bind fun y2 =>
      some y2)).bind fun a =>
    (bif a then
      some ([], 2)
    else
      (m_pattern_Top p).bind fun y1 =>
      (bif (geB y1 t.States) then
        some ([], 10)
      else
        (m_lower_Bits t.States).bind fun y2 =>
        (mkL 1 (imul .i64 (imul .i64 x.W x.H) y2) (imul .i64 (imul .i64 x.W x.H) y2) false).bind fun _l =>
        (loopN (b_unroll_Bits_1 x p y2) loopF (0, (List.replicate (imul .i64 (imul .i64 x.W x.H) y2).toNat false))).bind fun out =>
        some (out, 0))))
def b_R17_SameBools_1 (a : List Bool) (b : List Bool) (stt : Int) : Option (Lp (Int) (Bool ⊕ Unit)) := match stt with
  | i =>
    (bif (ltB i (lenL a)) then
      (idx a i).bind fun x =>
      (idx b i).bind fun x1 =>
      (bif (notB (eqb x x1)) then
        some (.out (.inl false))
      else
        some (.next (iadd .i64 i 1)))
    else
      some (.out (.inr ())))
def m_R17_SameBools (a : List Bool) (b : List Bool) : Option (Bool) :=
  (bif (neB (lenL a) (lenL b)) then
    some false
  else
    (loopN (b_R17_SameBools_1 a b) loopF 0).bind fun o => match o with
      | .inl r =>
        some r
      | .inr _u =>
        some true)
def m_L45_UnrollPatterns (t : Tree) (x : Problem) (l : List Bool) : Option (Bool) :=
  ((m_L45_Small t x).bind fun y =>
  (bif (notB y) then
    some true
  else
    some (gtB (lenL l) 100))).bind fun a =>
  (bif a then
    (m_L45_alive).bind fun y =>
    some y
  else
    (m_unroll_Pattern t x l).bind fun y =>
    (m_R45_Pattern t x l).bind fun y1 =>
    ((m_R05_Same y.1 y1.1).bind fun y2 =>
    (bif (notB y2) then
      some true
    else
      some (neB y.2 y1.2))).bind fun a1 =>
    (bif a1 then
      some false
    else
      (bif (neB y.2 0) then
        (m_L45_alive).bind fun y2 =>
        some y2
      else
        (m_unroll_Bits t x y.1).bind fun y2 =>
        ((bif (eqB y2.2 0) then
          (m_R17_SameBools l y2.1).bind fun y3 =>
          (bif y3 then
            (m_L45_alive).bind fun y4 =>
            some y4
          else
            some false)
        else
          some false)).bind fun a2 =>
        some a2)))
def m_R05_Place (x : Int) (y : Int) : Option (Bool) :=
  ((bif (geB x (-1048576)) then
    (bif (leB x 1048576) then
      (bif (geB y (-1048576)) then
        some (leB y 1048576)
      else
        some false)
    else
      some false)
  else
    some false)).bind fun a =>
  some a
def m_R05_before (a : Cell) (b : Cell) : Option (Bool) :=
  ((bif (ltB a.Y b.Y) then
    some true
  else
    (bif (eqB a.Y b.Y) then
      some (ltB a.X b.X)
    else
      some false))).bind fun a1 =>
  some a1
def b_R05_Right_1 (p : List Cell) (stt : Int) : Option (Lp (Int) (Bool ⊕ Unit)) := match stt with
  | i =>
    (bif (ltB i (lenL p)) then
      ((idx p i).bind fun x =>
      (m_R05_Place x.X x.Y).bind fun y =>
      (bif (notB y) then
        some true
      else
        (bif (ltB x.S 1) then
          some true
        else
          (bif (geB x.S 8) then
            some true
          else
            (bif (gtB i 0) then
              (idx p (isub .i64 i 1)).bind fun x1 =>
              (m_R05_before x1 x).bind fun y1 =>
              some (notB y1)
            else
              some false))))).bind fun a =>
      (bif a then
        some (.out (.inl false))
      else
        some (.next (iadd .i64 i 1)))
    else
      some (.out (.inr ())))
def m_R05_Right (p : List Cell) : Option (Bool) :=
  (loopN (b_R05_Right_1 p) loopF 0).bind fun o => match o with
    | .inl r =>
      some r
    | .inr _u =>
      some (leB (lenL p) 5000)
def m_R45_bit (n : Int) (k : Int) : Option (Int) :=
  (ishr .i64 n (iconv .u64 k)).bind fun n1 =>
  some (iand .i64 n1 1)
def b_R45_Bits_2 (_t : Tree) (x : Problem) (p : List Cell) (y2 : Int) (i : Int) (_out : List Bool) (stt : Int × (List Bool)) : Option (Lp (Int × (List Bool)) ((List Bool))) := match stt with
  | (k, out1) =>
    (bif (ltB k y2) then
      (idx p i).bind fun x1 =>
      (m_R45_bit x1.S k).bind fun y3 =>
      (idx out1 (iadd .i64 (imul .i64 (iadd .i64 (imul .i64 x1.Y x.W) x1.X) y2) k)).bind fun _x2 =>
      some (.next ((iadd .i64 k 1), (out1.set (iadd .i64 (imul .i64 (iadd .i64 (imul .i64 x1.Y x.W) x1.X) y2) k).toNat (eqB y3 1))))
    else
      some (.out out1))
def b_R45_Bits_1 (t : Tree) (x : Problem) (p : List Cell) (y2 : Int) (stt : Int × (List Bool)) : Option (Lp (Int × (List Bool)) (((List Bool) × Int) ⊕ (List Bool))) := match stt with
  | (i, out) =>
    (bif (ltB i (lenL p)) then
      ((idx p i).bind fun x1 =>
      (bif (ltB x1.X 0) then
        some true
      else
        (bif (geB x1.X x.W) then
          some true
        else
          (bif (ltB x1.Y 0) then
            some true
          else
            some (geB x1.Y x.H))))).bind fun a =>
      (bif a then
        some (.out (.inl ([], 2)))
      else
        (loopN (b_R45_Bits_2 t x p y2 i out) loopF (0, out)).bind fun out1 =>
        some (.next ((iadd .i64 i 1), out1)))
    else
      some (.out (.inr out)))
def b_R45_Bits_3 (t : Tree) (p : List Cell) (_out : List Bool) (stt : Int) : Option (Lp (Int) (((List Bool) × Int) ⊕ Unit)) := match stt with
  | i =>
    (bif (ltB i (lenL p)) then
      (idx p i).bind fun x1 =>
      (bif (geB x1.S t.States) then
        some (.out (.inl ([], 10)))
      else
        some (.next (iadd .i64 i 1)))
    else
      some (.out (.inr ())))
def m_R45_Bits (t : Tree) (x : Problem) (p : List Cell) : Option ((List Bool) × Int) :=
  (m_R44_Check t x).bind fun y =>
  (bif (neB y 0) then
    some ([], y)
  else
    (m_R05_Right p).bind fun y1 =>
    (bif (notB y1) then
      some ([], 2)
    else
      (m_R18_Bits t.States).bind fun y2 =>
      (mkL 1 (imul .i64 (imul .i64 x.W x.H) y2) (imul .i64 (imul .i64 x.W x.H) y2) false).bind fun _l =>
      (loopN (b_R45_Bits_1 t x p y2) loopF (0, (List.replicate (imul .i64 (imul .i64 x.W x.H) y2).toNat false))).bind fun o => match o with
        | .inl r =>
          some r
        | .inr out =>
          (loopN (b_R45_Bits_3 t p out) loopF 0).bind fun o => match o with
            | .inl r =>
              some r
            | .inr _u =>
              some (out, 0)))
def m_L45_UnrollBits (t : Tree) (x : Problem) (p : List Cell) : Option (Bool) :=
  ((m_L45_Small t x).bind fun y =>
  (bif (notB y) then
    some true
  else
    some (gtB (lenL p) 100))).bind fun a =>
  (bif a then
    (m_L45_alive).bind fun y =>
    some y
  else
    (m_unroll_Bits t x p).bind fun y =>
    (m_R45_Bits t x p).bind fun y1 =>
    ((m_R17_SameBools y.1 y1.1).bind fun y2 =>
    (bif (notB y2) then
      some true
    else
      some (neB y.2 y1.2))).bind fun a1 =>
    (bif a1 then
      some false
    else
      (bif (neB y.2 0) then
        (m_L45_alive).bind fun y2 =>
        some y2
      else
        (m_unroll_Pattern t x y.1).bind fun y2 =>
        ((bif (eqB y2.2 0) then
          (m_R05_Same p y2.1).bind fun y3 =>
          (bif y3 then
            (m_L45_alive).bind fun y4 =>
            some y4
          else
            some false)
        else
          some false)).bind fun a2 =>
        some a2)))
end Go.Proofs.YtgfhhbjnjccomaaGreatDoor
