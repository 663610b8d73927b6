/-
  The functions, as functions of lists and numbers (made by cc.py).
-/
import Derived.Test.YtdjclgfbggfpaaaGreatDoorCf
import Derived.Test.YtdjclgfbggfpaaaGreatDoorMxL1
namespace Go.Proofs.YtdjclgfbggfpaaaGreatDoor
open Go.AM Go.Proofs
def m_period_proper (n : Int) : Option (Bool) :=
  ((bif (geB n 1) then
    some (leB n 64)
  else
    some false)).bind fun a =>
  some a
def m_period_After (m : Motion) (n : Int) : Option (Motion × Int) :=
  ((m_period_proper m.Period).bind fun y =>
  (bif (notB y) then
    some true
  else
    (bif (gtB (imax m.DX m.DY) 1048576) then
      some true
    else
      (bif (ltB (imin m.DX m.DY) (-1048576)) then
        some true
      else
        (bif (ltB n 1) then
          some true
        else
          some (gtB n 10000)))))).bind fun a =>
  (bif a then
    some ((⟨0, 0, 0⟩ : Motion), 2)
  else
    ((bif (gtB (imul .i64 m.Period n) 10000) then
      some true
    else
      (bif (gtB (imax (imul .i64 m.DX n) (imul .i64 m.DY n)) 1048576) then
        some true
      else
        some (ltB (imin (imul .i64 m.DX n) (imul .i64 m.DY n)) (-1048576))))).bind fun a1 =>
    (bif a1 then
      some ((⟨0, 0, 0⟩ : Motion), 5)
    else
      some ((⟨(imul .i64 m.Period n), (imul .i64 m.DX n), (imul .i64 m.DY n)⟩ : Motion), 0)))
def m_R34_near (n : Int) : Option (Bool) :=
  ((bif (geB n (-1048576)) then
    some (leB n 1048576)
  else
    some false)).bind fun a =>
  some a
def m_R34_After (m : Motion) (n : Int) : Option (Motion × Int) :=
  ((bif (ltB m.Period 1) then
    some true
  else
    (bif (gtB m.Period 64) then
      some true
    else
      (m_R34_near m.DX).bind fun y =>
      (bif (notB y) then
        some true
      else
        (m_R34_near m.DY).bind fun y1 =>
        (bif (notB y1) then
          some true
        else
          (bif (ltB n 1) then
            some true
          else
            some (gtB n 10000))))))).bind fun a =>
  (bif a then
    some ((⟨0, 0, 0⟩ : Motion), 2)
  else
    ((bif (gtB (imul .i64 n m.Period) 10000) then
      some true
    else
      (m_R34_near (imul .i64 n m.DX)).bind fun y =>
      (bif (notB y) then
        some true
      else
        (m_R34_near (imul .i64 n m.DY)).bind fun y1 =>
        some (notB y1)))).bind fun a1 =>
    (bif a1 then
      some ((⟨0, 0, 0⟩ : Motion), 5)
    else
      some ((⟨(imul .i64 n m.Period), (imul .i64 n m.DX), (imul .i64 n m.DY)⟩ : Motion), 0)))
def m_period_Kind (m : Motion) : Option (Int) :=
  (m_period_proper m.Period).bind fun y =>
  (bif (notB y) then
    some 0
  else
    ((bif (neB m.DX 0) then
      some true
    else
      some (neB m.DY 0))).bind fun a =>
    (bif a then
      some 3
    else
      (bif (gtB m.Period 1) then
        some 2
      else
        some 1)))
def m_R34_Kind (m : Motion) : Option (Int) :=
  ((bif (ltB m.Period 1) then
    some true
  else
    some (gtB m.Period 64))).bind fun a =>
  (bif a then
    some 0
  else
    ((bif (neB m.DX 0) then
      some true
    else
      some (neB m.DY 0))).bind fun a1 =>
    (bif a1 then
      some 3
    else
      some (imin m.Period 2)))
def m_notation_Parse : Option (Tree × Int) := some (parse_life, 0)
def m_cmp_isNaN_int (x : Int) : Option (Bool) :=
  some (neB x x)
def m_cmp_Compare_int (x : Int) (y : Int) : Option (Int) :=
  (m_cmp_isNaN_int x).bind fun y1 =>
  (m_cmp_isNaN_int y).bind fun y2 =>
  (bif y1 then
    (bif y2 then
      some 0
    else
      some (-1))
  else
    (bif y2 then
      some 1
    else
      (bif (ltB x y) then
        some (-1)
      else
        (bif (gtB x y) then
          some 1
        else
          some 0))))
def b_cmp_Or_int_1 (vals : List Int) (stt : Int) : Option (Lp (Int) (Int ⊕ Unit)) := match stt with
  | a =>
    (bif (ltB a (lenL vals)) then
      (idx vals a).bind fun x =>
      (bif (neB x 0) then
        some (.out (.inl x))
      else
        some (.next (iadd .i64 a 1)))
    else
      some (.out (.inr ())))
def m_cmp_Or_int (vals : List Int) : Option (Int) :=
  (loopN (b_cmp_Or_int_1 vals) loopF 0).bind fun o => match o with
    | .inl r =>
      some r
    | .inr _u =>
      some 0
def m_point_Compare (a : Point) (b : Point) : Option (Int) :=
  (m_cmp_Compare_int a.Y b.Y).bind fun y =>
  (m_cmp_Compare_int a.X b.X).bind fun y1 =>
  (m_cmp_Or_int [y, y1]).bind fun y2 =>
  some y2
def b_hood_Right_1 (l : List Point) (stt : Int) : Option (Lp (Int) (Bool ⊕ Unit)) := match stt with
  | a1 =>
    (bif (ltB a1 (lenL l)) then
      (idx l a1).bind fun x =>
      ((bif (ltB x.X (-2)) then
        some true
      else
        (bif (gtB x.X 2) then
          some true
        else
          (bif (ltB x.Y (-2)) then
            some true
          else
            (bif (gtB x.Y 2) then
              some true
            else
              (bif (gtB a1 0) then
                (idx l (isub .i64 a1 1)).bind fun x1 =>
                (m_point_Compare x1 x).bind fun y =>
                some (geB y 0)
              else
                some false)))))).bind fun a2 =>
      (bif a2 then
        some (.out (.inl false))
      else
        some (.next (iadd .i64 a1 1)))
    else
      some (.out (.inr ())))
def m_hood_Right (l : List Point) : Option (Bool) :=
  ((bif (ltB (lenL l) 1) then
    some true
  else
    some (gtB (lenL l) 25))).bind fun a =>
  (bif a then
    some false
  else
    (loopN (b_hood_Right_1 l) loopF 0).bind fun o => match o with
      | .inl r =>
        some r
      | .inr _u =>
        some true)
def b_tree_Right_2 (t : Tree) (a1 : Int) (x : Node) (stt : Int) : Option (Lp (Int) (Bool ⊕ Unit)) := match stt with
  | a3 =>
    (bif (ltB a3 (lenL x.Next)) then
      (idx x.Next a3).bind fun x1 =>
      ((bif (ltB x1 0) then
        some true
      else
        (bif (eqB x.Level 1) then
          (bif (geB x1 t.States) then
            some true
          else
            (bif (gtB x.Level 1) then
              (bif (geB x1 a1) then
                some true
              else
                (idx t.Nodes x1).bind fun x2 =>
                some (neB x2.Level (isub .i64 x.Level 1)))
            else
              some false))
        else
          (bif (gtB x.Level 1) then
            (bif (geB x1 a1) then
              some true
            else
              (idx t.Nodes x1).bind fun x2 =>
              some (neB x2.Level (isub .i64 x.Level 1)))
          else
            some false)))).bind fun a4 =>
      (bif a4 then
        some (.out (.inl false))
      else
        some (.next (iadd .i64 a3 1)))
    else
      some (.out (.inr ())))
def b_tree_Right_1 (t : Tree) (stt : Int) : Option (Lp (Int) (Bool ⊕ Unit)) := match stt with
  | a1 =>
    (bif (ltB a1 (lenL t.Nodes)) then
      (idx t.Nodes a1).bind fun x =>
      ((bif (ltB x.Level 1) then
        some true
      else
        (bif (gtB x.Level (lenL t.Hood)) then
          some true
        else
          some (neB (lenL x.Next) t.States)))).bind fun a2 =>
      (bif a2 then
        some (.out (.inl false))
      else
        (loopN (b_tree_Right_2 t a1 x) loopF 0).bind fun o => match o with
          | .inl r =>
            some (.out (.inl r))
          | .inr _u =>
            some (.next (iadd .i64 a1 1)))
    else
      some (.out (.inr ())))
def m_tree_Right (t : Tree) : Option (Bool) :=
  ((bif (ltB t.States 2) then
    some true
  else
    (bif (gtB t.States 8) then
      some true
    else
      (m_hood_Right t.Hood).bind fun y =>
      (bif (notB y) then
        some true
      else
        (bif (ltB (lenL t.Nodes) 1) then
          some true
        else
          (bif (gtB (lenL t.Nodes) 4096) then
            some true
          else
            (idx t.Nodes (isub .i64 (lenL t.Nodes) 1)).bind fun x =>
            some (neB x.Level (lenL t.Hood)))))))).bind fun a =>
  (bif a then
    some false
  else
    (loopN (b_tree_Right_1 t) loopF 0).bind fun o => match o with
      | .inl r =>
        some r
      | .inr _u =>
        some true)
def b_tree_value_1 (t : Tree) (in_ : List Int) (stt : Int × Int) : Option (Lp (Int × Int) (Int)) := match stt with
  | (k, a) =>
    (bif (ltB a (lenL in_)) then
      (idx in_ a).bind fun x =>
      (idx t.Nodes k).bind fun x1 =>
      (idx x1.Next x).bind fun x2 =>
      some (.next (x2, (iadd .i64 a 1)))
    else
      some (.out k))
def m_tree_value (t : Tree) (in_ : List Int) : Option (Int) :=
  (loopN (b_tree_value_1 t in_) loopF ((isub .i64 (lenL t.Nodes) 1), 0)).bind fun k =>
  some k
def m_tree_Quiet (t : Tree) : Option (Bool) :=
  ((m_tree_Right t).bind fun y =>
  (bif y then
    (mkL 8 (lenL t.Hood) (lenL t.Hood) 0).bind fun _l =>
    (m_tree_value t (List.replicate (lenL t.Hood).toNat 0)).bind fun y1 =>
    some (eqB y1 0)
  else
    some false)).bind fun a =>
  some a
def m_pattern_at (c : Cell) : Option (Point) :=
  some (⟨c.X, c.Y⟩ : Point)
def m_pattern_placed (p : Point) : Option (Bool) :=
  ((bif (leB (imax p.X p.Y) 1048576) then
    some (geB (imin p.X p.Y) (-1048576))
  else
    some false)).bind fun a =>
  some a
def m_pattern_order (a : Cell) (b : Cell) : Option (Int) :=
  (m_pattern_at a).bind fun y =>
  (m_pattern_at b).bind fun y1 =>
  (m_point_Compare y y1).bind fun y2 =>
  some y2
def b_pattern_Right_1 (p : List Cell) (stt : Int) : Option (Lp (Int) (Bool ⊕ Unit)) := match stt with
  | a =>
    (bif (ltB a (lenL p)) then
      (idx p a).bind fun x =>
      ((m_pattern_at x).bind fun y =>
      (m_pattern_placed y).bind fun y1 =>
      (bif (notB y1) then
        some true
      else
        (bif (ltB x.S 1) then
          some true
        else
          (bif (geB x.S 8) then
            some true
          else
            (bif (gtB a 0) then
              (idx p (isub .i64 a 1)).bind fun x1 =>
              (m_pattern_order x1 x).bind fun y2 =>
              some (geB y2 0)
            else
              some false))))).bind fun a1 =>
      (bif a1 then
        some (.out (.inl false))
      else
        some (.next (iadd .i64 a 1)))
    else
      some (.out (.inr ())))
def m_pattern_Right (p : List Cell) : Option (Bool) :=
  (bif (gtB (lenL p) 5000) then
    some false
  else
    (loopN (b_pattern_Right_1 p) loopF 0).bind fun o => match o with
      | .inl r =>
        some r
      | .inr _u =>
        some true)
def b_pattern_Top_1 (p : List Cell) (stt : Int × Int) : Option (Lp (Int × Int) (Int)) := match stt with
  | (n, a) =>
    (bif (ltB a (lenL p)) then
      (idx p a).bind fun x =>
      some (.next ((imax n x.S), (iadd .i64 a 1)))
    else
      some (.out n))
def m_pattern_Top (p : List Cell) : Option (Int) :=
  (loopN (b_pattern_Top_1 p) loopF (0, 0)).bind fun n =>
  some n
def m_direct_check (t : Tree) (p : List Cell) : Option (Int) :=
  (m_tree_Quiet t).bind fun y =>
  (bif (notB y) then
    some 11
  else
    (m_pattern_Right p).bind fun y1 =>
    (bif (notB y1) then
      some 2
    else
      (m_pattern_Top p).bind fun y2 =>
      (bif (geB y2 t.States) then
        some 10
      else
        some 0)))
def b_direct_of_1 (p : List Cell) (stt : Int × (List (Point × Int))) : Option (Lp (Int × (List (Point × Int))) ((List (Point × Int)))) := match stt with
  | (a, m) =>
    (bif (ltB a (lenL p)) then
      (idx p a).bind fun x =>
      (kckL [x.X, x.Y]).bind fun _u =>
      some (.next ((iadd .i64 a 1), (msetL m (⟨x.X, x.Y⟩ : Point) x.S)))
    else
      some (.out m))
def m_direct_of (p : List Cell) : Option (List (Point × Int)) :=
  (loopN (b_direct_of_1 p) loopF (0, [])).bind fun m =>
  some m
def b_direct_cells_next_o_1 (m : List (Point × Int)) (t : Tree) (p : Point) (stt : Int × Int) : Option (Lp (Int × Int) (Int)) := match stt with
  | (k, a) =>
    (bif (ltB a (lenL t.Hood)) then
      (idx t.Hood a).bind fun x =>
      (idx t.Nodes k).bind fun x1 =>
      (kckL [(iadd .i64 p.X x.X), (iadd .i64 p.Y x.Y)]).bind fun _u =>
      (idx x1.Next (mgetD m (⟨(iadd .i64 p.X x.X), (iadd .i64 p.Y x.Y)⟩ : Point) 0)).bind fun x2 =>
      some (.next (x2, (iadd .i64 a 1)))
    else
      some (.out k))
def m_direct_cells_next_o (m : List (Point × Int)) (t : Tree) (p : Point) : Option (Int) :=
  (loopN (b_direct_cells_next_o_1 m t p) loopF ((isub .i64 (lenL t.Nodes) 1), 0)).bind fun k =>
  some k
def m_direct_place (p : Point) : Option (Bool) :=
  ((bif (leB (imax p.X p.Y) 1048576) then
    some (geB (imin p.X p.Y) (-1048576))
  else
    some false)).bind fun a =>
  some a
def m_slices_SortFunc_api_Pattern_api_Cell_o_pattern_order (l : List Cell) : Option (List Cell) := sortM cf_pattern_order l
def b_pattern_From_1 (l : List Cell) (stt : Int × (List Cell)) : Option (Lp (Int × (List Cell)) (((List Cell) × Int) ⊕ (List Cell))) := match stt with
  | (a, out) =>
    (bif (ltB a (lenL l)) then
      (idx l a).bind fun x =>
      (m_pattern_at x).bind fun y =>
      (m_pattern_placed y).bind fun y1 =>
      (bif (notB y1) then
        some (.out (.inl ([], 5)))
      else
        ((bif (ltB x.S 0) then
          some true
        else
          some (geB x.S 8))).bind fun a1 =>
        (bif a1 then
          some (.out (.inl ([], 10)))
        else
          (bif (gtB x.S 0) then
            (appL 24 out [x]).bind fun _l1 =>
            some (.next ((iadd .i64 a 1), (out ++ [x])))
          else
            some (.next ((iadd .i64 a 1), out)))))
    else
      some (.out (.inr out)))
def b_pattern_From_2 (_out : List Cell) (y : List Cell) (stt : Int) : Option (Lp (Int) (((List Cell) × Int) ⊕ Unit)) := match stt with
  | i =>
    (bif (ltB i (lenL y)) then
      (idx y (isub .i64 i 1)).bind fun x =>
      (m_pattern_at x).bind fun y1 =>
      (idx y i).bind fun x1 =>
      (m_pattern_at x1).bind fun y2 =>
      (bif (andB (eqB y1.X y2.X) (andB (eqB y1.Y y2.Y) true)) then
        some (.out (.inl ([], 8)))
      else
        some (.next (iadd .i64 i 1)))
    else
      some (.out (.inr ())))
def m_pattern_From (l : List Cell) : Option ((List Cell) × Int) :=
  (loopN (b_pattern_From_1 l) loopF (0, [])).bind fun o => match o with
    | .inl r =>
      some r
    | .inr out =>
      (m_slices_SortFunc_api_Pattern_api_Cell_o_pattern_order out).bind fun y =>
      (loopN (b_pattern_From_2 out y) loopF 1).bind fun o => match o with
        | .inl r =>
          some r
        | .inr _u =>
          (bif (gtB (lenL y) 5000) then
            some ([], 6)
          else
            some (y, 0))
def b_direct_step_2 (t : Tree) (_p : List Cell) (y : List (Point × Int)) (_a : Int) (x : Cell) (stt : Int × (List (Point × Bool)) × (List Cell)) : Option (Lp (Int × (List (Point × Bool)) × (List Cell)) (((List Cell) × Int) ⊕ ((List (Point × Bool)) × (List Cell)))) := match stt with
  | (a1, done1, l1) =>
    (bif (ltB a1 (lenL t.Hood)) then
      (idx t.Hood a1).bind fun x1 =>
      (kckL [(isub .i64 x.X x1.X), (isub .i64 x.Y x1.Y)]).bind fun _u =>
      (bif (mgetD done1 (⟨(isub .i64 x.X x1.X), (isub .i64 x.Y x1.Y)⟩ : Point) false) then
        some (.next ((iadd .i64 a1 1), done1, l1))
      else
        (m_direct_cells_next_o y t (⟨(isub .i64 x.X x1.X), (isub .i64 x.Y x1.Y)⟩ : Point)).bind fun y1 =>
        (bif (gtB y1 0) then
          (m_direct_place (⟨(isub .i64 x.X x1.X), (isub .i64 x.Y x1.Y)⟩ : Point)).bind fun y2 =>
          (bif (notB y2) then
            some (.out (.inl ([], 5)))
          else
            (appL 24 l1 [(⟨(isub .i64 x.X x1.X), (isub .i64 x.Y x1.Y), y1⟩ : Cell)]).bind fun _l2 =>
            some (.next ((iadd .i64 a1 1), (msetL done1 (⟨(isub .i64 x.X x1.X), (isub .i64 x.Y x1.Y)⟩ : Point) true), (l1 ++ [(⟨(isub .i64 x.X x1.X), (isub .i64 x.Y x1.Y), y1⟩ : Cell)]))))
        else
          some (.next ((iadd .i64 a1 1), (msetL done1 (⟨(isub .i64 x.X x1.X), (isub .i64 x.Y x1.Y)⟩ : Point) true), l1))))
    else
      some (.out (.inr (done1, l1))))
def b_direct_step_1 (t : Tree) (p : List Cell) (y : List (Point × Int)) (stt : Int × (List (Point × Bool)) × (List Cell)) : Option (Lp (Int × (List (Point × Bool)) × (List Cell)) (((List Cell) × Int) ⊕ (List Cell))) := match stt with
  | (a, done, l) =>
    (bif (ltB a (lenL p)) then
      (idx p a).bind fun x =>
      (loopN (b_direct_step_2 t p y a x) loopF (0, done, l)).bind fun o => match o with
        | .inl r =>
          some (.out (.inl r))
        | .inr (done1, l1) =>
          some (.next ((iadd .i64 a 1), done1, l1))
    else
      some (.out (.inr l)))
def m_direct_step (t : Tree) (p : List Cell) : Option ((List Cell) × Int) :=
  (m_direct_of p).bind fun y =>
  (loopN (b_direct_step_1 t p y) loopF (0, [], [])).bind fun o => match o with
    | .inl r =>
      some r
    | .inr l =>
      (m_pattern_From l).bind fun y1 =>
      some (y1.1, y1.2)
def b_direct_Run_1 (t : Tree) (n : Int) (stt : (List Cell) × Int) : Option (Lp ((List Cell) × Int) (((List Cell) × Int) ⊕ (List Cell))) := match stt with
  | (p1, a1) =>
    (bif (ltB a1 n) then
      (m_direct_step t p1).bind fun y1 =>
      (bif (neB y1.2 0) then
        some (.out (.inl ([], y1.2)))
      else
        some (.next (y1.1, (iadd .i64 a1 1))))
    else
      some (.out (.inr p1)))
def m_direct_Run (t : Tree) (p : List Cell) (n : Int) : Option ((List Cell) × Int) :=
  (m_direct_check t p).bind fun y =>
  (bif (neB y 0) then
    some ([], y)
  else
    ((bif (ltB n 0) then
      some true
    else
      some (gtB n 10000))).bind fun a =>
    (bif a then
      some ([], 2)
    else
      (loopN (b_direct_Run_1 t n) loopF (p, 0)).bind fun o => match o with
        | .inl r =>
          some r
        | .inr p1 =>
          some (p1, 0)))
def m_direct_Step (t : Tree) (p : List Cell) : Option ((List Cell) × Int) :=
  (m_direct_check t p).bind fun y =>
  (bif (neB y 0) then
    some ([], y)
  else
    (m_direct_step t p).bind fun y1 =>
    some (y1.1, y1.2))
def b_period_moved_1 (a : List Cell) (b : List Cell) (x : Cell) (x1 : Cell) (stt : Int) : Option (Lp (Int) ((Int × Int × Bool) ⊕ Unit)) := match stt with
  | a2 =>
    (bif (ltB a2 (lenL a)) then
      (idx b a2).bind fun x2 =>
      (idx a a2).bind fun x3 =>
      (bif (notB (andB (eqB x2.X (iadd .i64 x3.X (isub .i64 x.X x1.X))) (andB (eqB x2.Y (iadd .i64 x3.Y (isub .i64 x.Y x1.Y))) (andB (eqB x2.S x3.S) true)))) then
        some (.out (.inl (0, 0, false)))
      else
        some (.next (iadd .i64 a2 1)))
    else
      some (.out (.inr ())))
def m_period_moved (a : List Cell) (b : List Cell) : Option (Int × Int × Bool) :=
  ((bif (neB (lenL a) (lenL b)) then
    some true
  else
    some (eqB (lenL a) 0))).bind fun a1 =>
  (bif a1 then
    some (0, 0, false)
  else
    (idx b 0).bind fun x =>
    (idx a 0).bind fun x1 =>
    (loopN (b_period_moved_1 a b x x1) loopF 0).bind fun o => match o with
      | .inl r =>
        some r
      | .inr _u =>
        some ((isub .i64 x.X x1.X), (isub .i64 x.Y x1.Y), true))
def b_period_Find_1 (t : Tree) (p : List Cell) (most : Int) (stt : (List Cell) × Int) : Option (Lp ((List Cell) × Int) ((Motion × Bool × Int) ⊕ Unit)) := match stt with
  | (q, g) =>
    ((bif (leB g most) then
      some (gtB (lenL q) 0)
    else
      some false)).bind fun a =>
    (bif a then
      (m_direct_Step t q).bind fun y2 =>
      (bif (neB y2.2 0) then
        some (.out (.inl ((⟨0, 0, 0⟩ : Motion), false, y2.2)))
      else
        (m_period_moved p y2.1).bind fun y3 =>
        (bif y3.2.2 then
          some (.out (.inl ((⟨g, y3.1, y3.2.1⟩ : Motion), true, 0)))
        else
          some (.next (y2.1, (iadd .i64 g 1)))))
    else
      some (.out (.inr ())))
def m_period_Find (t : Tree) (p : List Cell) (most : Int) : Option (Motion × Bool × Int) :=
  (m_direct_Run t p 0).bind fun y =>
  (bif (neB y.2 0) then
    some ((⟨0, 0, 0⟩ : Motion), false, y.2)
  else
    (m_period_proper most).bind fun y1 =>
    (bif (notB y1) then
      some ((⟨0, 0, 0⟩ : Motion), false, 2)
    else
      (loopN (b_period_Find_1 t p most) loopF (p, 1)).bind fun o => match o with
        | .inl r =>
          some r
        | .inr _u =>
          some ((⟨0, 0, 0⟩ : Motion), false, 0)))
def m_period_Has (t : Tree) (p : List Cell) (m : Motion) : Option (Bool × Int) :=
  (m_period_Find t p m.Period).bind fun y =>
  ((bif y.2.1 then
    some (andB (eqB y.1.Period m.Period) (andB (eqB y.1.DX m.DX) (andB (eqB y.1.DY m.DY) true)))
  else
    some false)).bind fun a =>
  some (a, y.2.2)
def b_period_Settles_1 (t : Tree) (gens : Int) (most : Int) (stt : (List Cell) × Int) : Option (Lp ((List Cell) × Int) ((Int × Motion × Int) ⊕ Unit)) := match stt with
  | (p1, g) =>
    (bif (leB g gens) then
      (bif (eqB (lenL p1) 0) then
        some (.out (.inl (g, (⟨0, 0, 0⟩ : Motion), 0)))
      else
        (m_period_Find t p1 most).bind fun y1 =>
        (bif (neB y1.2.2 0) then
          some (.out (.inl (0, (⟨0, 0, 0⟩ : Motion), y1.2.2)))
        else
          (bif y1.2.1 then
            some (.out (.inl (g, y1.1, 0)))
          else
            (bif (ltB g gens) then
              (m_direct_Step t p1).bind fun y2 =>
              (bif (neB y2.2 0) then
                some (.out (.inl (0, (⟨0, 0, 0⟩ : Motion), y2.2)))
              else
                some (.next (y2.1, (iadd .i64 g 1))))
            else
              some (.next (p1, (iadd .i64 g 1)))))))
    else
      some (.out (.inr ())))
def m_period_Settles (t : Tree) (p : List Cell) (gens : Int) (most : Int) : Option (Int × Motion × Int) :=
  (m_direct_Run t p 0).bind fun y =>
  (bif (neB y.2 0) then
    some (0, (⟨0, 0, 0⟩ : Motion), y.2)
  else
    ((bif (ltB gens 0) then
      some true
    else
      (bif (gtB gens 10000) then
        some true
      else
        (m_period_proper most).bind fun y1 =>
        some (notB y1)))).bind fun a =>
    (bif a then
      some (0, (⟨0, 0, 0⟩ : Motion), 2)
    else
      (loopN (b_period_Settles_1 t gens most) loopF (p, 0)).bind fun o => match o with
        | .inl r =>
          some r
        | .inr _u =>
          some (0, (⟨0, 0, 0⟩ : Motion), 14)))
def m_L34_awake : Option (Bool) :=
  (m_notation_Parse).bind fun y =>
  (m_period_Find y.1 [(⟨1, 0, 1⟩ : Cell), (⟨2, 1, 1⟩ : Cell), (⟨0, 2, 1⟩ : Cell), (⟨1, 2, 1⟩ : Cell), (⟨2, 2, 1⟩ : Cell)] 8).bind fun y1 =>
  (m_period_Find y.1 [(⟨1, 0, 1⟩ : Cell), (⟨2, 1, 1⟩ : Cell), (⟨0, 2, 1⟩ : Cell), (⟨1, 2, 1⟩ : Cell), (⟨2, 2, 1⟩ : Cell)] 3).bind fun y2 =>
  (slc3 [(⟨1, 0, 1⟩ : Cell), (⟨2, 1, 1⟩ : Cell), (⟨0, 2, 1⟩ : Cell), (⟨1, 2, 1⟩ : Cell), (⟨2, 2, 1⟩ : Cell)] 0 0).bind fun l =>
  (m_period_Has y.1 l y1.1).bind fun y3 =>
  (m_period_Settles y.1 [(⟨0, 0, 1⟩ : Cell), (⟨1, 0, 1⟩ : Cell), (⟨0, 1, 1⟩ : Cell)] 5 2).bind fun y4 =>
  (m_period_Settles y.1 [(⟨0, 0, 1⟩ : Cell)] 5 2).bind fun y5 =>
  (m_period_After y1.1 3).bind fun y6 =>
  ((bif (neB y.2 0) then
    some true
  else
    (bif (neB y1.2.2 0) then
      some true
    else
      (bif (neB y2.2.2 0) then
        some true
      else
        (bif (neB y3.2 0) then
          some true
        else
          (bif (neB y4.2.2 0) then
            some true
          else
            (bif (neB y5.2.2 0) then
              some true
            else
              (bif (neB y6.2 0) then
                some true
              else
                (bif (notB y1.2.1) then
                  some true
                else
                  (bif y2.2.1 then
                    some true
                  else
                    some y3.1)))))))))).bind fun a =>
  (bif a then
    some false
  else
    ((bif (andB (eqB y1.1.Period 4) (andB (eqB y1.1.DX 1) (andB (eqB y1.1.DY 1) true))) then
      (bif (eqB y4.1 1) then
        (bif (andB (eqB y4.2.1.Period 1) (andB (eqB y4.2.1.DX 0) (andB (eqB y4.2.1.DY 0) true))) then
          (bif (eqB y5.1 1) then
            (bif (andB (eqB y5.2.1.Period 0) (andB (eqB y5.2.1.DX 0) (andB (eqB y5.2.1.DY 0) true))) then
              (bif (andB (eqB y6.1.Period 12) (andB (eqB y6.1.DX 3) (andB (eqB y6.1.DY 3) true))) then
                (m_period_Kind y1.1).bind fun y7 =>
                (bif (eqB y7 3) then
                  (m_period_Kind y4.2.1).bind fun y8 =>
                  some (eqB y8 1)
                else
                  some false)
              else
                some false)
            else
              some false)
          else
            some false)
        else
          some false)
      else
        some false)
    else
      some false)).bind fun a1 =>
    some a1)
def m_L34_PeriodKinds (m : Motion) (n : Int) : Option (Bool) :=
  (m_period_After m n).bind fun y =>
  (m_R34_After m n).bind fun y1 =>
  ((m_period_Kind m).bind fun y2 =>
  (m_R34_Kind m).bind fun y3 =>
  (bif (eqB y2 y3) then
    (bif (andB (eqB y.1.Period y1.1.Period) (andB (eqB y.1.DX y1.1.DX) (andB (eqB y.1.DY y1.1.DY) true))) then
      (bif (eqB y.2 y1.2) then
        (m_L34_awake).bind fun y4 =>
        some y4
      else
        some false)
    else
      some false)
  else
    some false)).bind fun a =>
  some a
end Go.Proofs.YtdjclgfbggfpaaaGreatDoor
