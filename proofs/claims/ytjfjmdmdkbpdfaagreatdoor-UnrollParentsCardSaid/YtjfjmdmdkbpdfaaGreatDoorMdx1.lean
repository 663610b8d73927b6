/- The types of the program, as lists and numbers. -/
import Derived.Test.YtjfjmdmdkbpdfaaGreatDoorAmAp
import Derived.Test.YtjfjmdmdkbpdfaaGreatDoorAmFz
import Derived.Test.YtjfjmdmdkbpdfaaGreatDoorAmPm
namespace Go.Proofs.YtjfjmdmdkbpdfaaGreatDoor
open Go.AM Go.Proofs
theorem rsetI (k : IntKind) (l : List Int) (i : Nat) (x : Int) : (List.map (rI k) l).set i [L.int k x] = List.map (rI k) (l.set i x) := by rw [List.map_set]; rfl
theorem rsetB (l : List Bool) (i : Nat) (x : Bool) : (List.map rB l).set i [L.bool x] = List.map rB (l.set i x) := by rw [List.map_set]; rfl
structure Point where
 X : Int
 Y : Int
 deriving DecidableEq, Inhabited
def Point.row (x : Point) : List L := [.int .i64 x.X, .int .i64 x.Y]
theorem Point.row_eq (x : Point) : x.row = [.int .i64 x.X, .int .i64 x.Y] := rfl
def Point.key (x : Point) : Key := .ints [x.X, x.Y]
def Point.ints (x : Point) : List Int := [x.X, x.Y]
instance : KeyF Point.key := ⟨fun a b h => by unfold Point.key at h; cases a; cases b; injection h with h; simp only [List.cons.injEq, and_true] at h; simp only [Point.mk.injEq]; exact h⟩
structure Node where
 Level : Int
 Next : List Int
 deriving DecidableEq, Inhabited
def Node.row (x : Node) : List L := [.int .i64 x.Level, .sl 1 (List.map (rI .i64) x.Next)]
theorem Node.row_eq (x : Node) : x.row = [.int .i64 x.Level, .sl 1 (List.map (rI .i64) x.Next)] := rfl
structure Tree where
 States : Int
 Hood : List Point
 Nodes : List Node
 deriving DecidableEq, Inhabited
def Tree.row (x : Tree) : List L := [.int .i64 x.States, .sl 2 (List.map Point.row x.Hood), .sl 2 (List.map Node.row x.Nodes)]
theorem Tree.row_eq (x : Tree) : x.row = [.int .i64 x.States, .sl 2 (List.map Point.row x.Hood), .sl 2 (List.map Node.row x.Nodes)] := rfl
structure Av where
 W : Int
 H : Int
 Gens : Int
 DX : Int
 DY : Int
 Syms : List Int
 deriving DecidableEq, Inhabited
def Av.row (x : Av) : List L := [.int .i64 x.W, .int .i64 x.H, .int .i64 x.Gens, .int .i64 x.DX, .int .i64 x.DY, .sl 1 (List.map (rI .i64) x.Syms)]
theorem Av.row_eq (x : Av) : x.row = [.int .i64 x.W, .int .i64 x.H, .int .i64 x.Gens, .int .i64 x.DX, .int .i64 x.DY, .sl 1 (List.map (rI .i64) x.Syms)] := rfl
structure Aw where
 Vars : Int
 Clauses : List (List Int)
 deriving DecidableEq, Inhabited
def Aw.row (x : Aw) : List L := [.int .i64 x.Vars, .sl 1 (List.map (rS 1 (rI .i64)) x.Clauses)]
theorem Aw.row_eq (x : Aw) : x.row = [.int .i64 x.Vars, .sl 1 (List.map (rS 1 (rI .i64)) x.Clauses)] := rfl
structure Grid where
 W : Int
 H : Int
 Edge : Int
 Cells : List Int
 deriving DecidableEq, Inhabited
def Grid.row (x : Grid) : List L := [.int .i64 x.W, .int .i64 x.H, .int .i64 x.Edge, .sl 1 (List.map (rI .i64) x.Cells)]
theorem Grid.row_eq (x : Grid) : x.row = [.int .i64 x.W, .int .i64 x.H, .int .i64 x.Edge, .sl 1 (List.map (rI .i64) x.Cells)] := rfl
structure Cell where
 X : Int
 Y : Int
 S : Int
 deriving DecidableEq, Inhabited
def Cell.row (x : Cell) : List L := [.int .i64 x.X, .int .i64 x.Y, .int .i64 x.S]
theorem Cell.row_eq (x : Cell) : x.row = [.int .i64 x.X, .int .i64 x.Y, .int .i64 x.S] := rfl
def Cell.key (x : Cell) : Key := .ints [x.X, x.Y, x.S]
def Cell.ints (x : Cell) : List Int := [x.X, x.Y, x.S]
instance : KeyF Cell.key := ⟨fun a b h => by unfold Cell.key at h; cases a; cases b; injection h with h; simp only [List.cons.injEq, and_true] at h; simp only [Cell.mk.injEq]; exact h⟩
structure Box where
 X : Int
 Y : Int
 W : Int
 H : Int
 deriving DecidableEq, Inhabited
def Box.row (x : Box) : List L := [.int .i64 x.X, .int .i64 x.Y, .int .i64 x.W, .int .i64 x.H]
theorem Box.row_eq (x : Box) : x.row = [.int .i64 x.X, .int .i64 x.Y, .int .i64 x.W, .int .i64 x.H] := rfl
def Box.key (x : Box) : Key := .ints [x.X, x.Y, x.W, x.H]
def Box.ints (x : Box) : List Int := [x.X, x.Y, x.W, x.H]
instance : KeyF Box.key := ⟨fun a b h => by unfold Box.key at h; cases a; cases b; injection h with h; simp only [List.cons.injEq, and_true] at h; simp only [Box.mk.injEq]; exact h⟩
structure Ax where
 constant : Int
 vars : List Int
 deriving DecidableEq, Inhabited
def Ax.row (x : Ax) : List L := [.int .i64 x.constant, pnil 1 (List.map (rI .i64) x.vars)]
theorem Ax.row_eq (x : Ax) : x.row = [.int .i64 x.constant, pnil 1 (List.map (rI .i64) x.vars)] := rfl
structure Ay where
 box : Box
 values : List Ax
 deriving DecidableEq, Inhabited
def Ay.row (x : Ay) : List L := [.int .i64 x.box.X, .int .i64 x.box.Y, .int .i64 x.box.W, .int .i64 x.box.H, .sl 2 (List.map Ax.row x.values)]
theorem Ay.row_eq (x : Ay) : x.row = [.int .i64 x.box.X, .int .i64 x.box.Y, .int .i64 x.box.W, .int .i64 x.box.H, .sl 2 (List.map Ax.row x.values)] := rfl
structure Az where
 State : Int
 Vars : List Int
 deriving DecidableEq, Inhabited
def Az.row (x : Az) : List L := [.int .i64 x.State, .sl 1 (List.map (rI .i64) x.Vars)]
theorem Az.row_eq (x : Az) : x.row = [.int .i64 x.State, .sl 1 (List.map (rI .i64) x.Vars)] := rfl
structure B0 where
 box : Box
 of_ : List Az
 deriving DecidableEq, Inhabited
def B0.row (x : B0) : List L := [.int .i64 x.box.X, .int .i64 x.box.Y, .int .i64 x.box.W, .int .i64 x.box.H, .sl 2 (List.map Az.row x.of_)]
theorem B0.row_eq (x : B0) : x.row = [.int .i64 x.box.X, .int .i64 x.box.Y, .int .i64 x.box.W, .int .i64 x.box.H, .sl 2 (List.map Az.row x.of_)] := rfl
structure B7 where
 flat : Bool
 box : Box
 cells : List Int
 list : List Cell
 deriving DecidableEq, Inhabited
def B7.row (x : B7) : List L := [.bool x.flat, .int .i64 x.box.X, .int .i64 x.box.Y, .int .i64 x.box.W, .int .i64 x.box.H, .sl 1 (List.map (rI .i64) x.cells), .sl 3 (List.map Cell.row x.list)]
theorem B7.row_eq (x : B7) : x.row = [.bool x.flat, .int .i64 x.box.X, .int .i64 x.box.Y, .int .i64 x.box.W, .int .i64 x.box.H, .sl 1 (List.map (rI .i64) x.cells), .sl 3 (List.map Cell.row x.list)] := rfl
attribute [simp] Point.row_eq Node.row_eq Tree.row_eq Av.row_eq Aw.row_eq Grid.row_eq Cell.row_eq Box.row_eq Ax.row_eq Ay.row_eq Az.row_eq B0.row_eq B7.row_eq
end Go.Proofs.YtjfjmdmdkbpdfaaGreatDoor
namespace Go.Proofs.YtjfjmdmdkbpdfaaGreatDoor
end Go.Proofs.YtjfjmdmdkbpdfaaGreatDoor
namespace Go.Proofs.YtjfjmdmdkbpdfaaGreatDoor
open Go.AM Go.Proofs
def b_L45_Small_1 (t : Tree) (_x : Av) (stt : Int) : Option (Lp (Int) (Bool ⊕ Unit)) := match stt with
 | a1 =>
  (bif (ltB a1 (aY t.Nodes)) then
   (idx t.Nodes a1).bind fun x1 =>
   (bif (gtB (aY x1.Next) 20) then
    some (.out (.inl false))
   else
    some (.next (bf .i64 a1 1)))
  else
   some (.out (.inr ())))
def m_L45_Small (t : Tree) (x : Av) : Option (Bool) :=
 ((bif (gtB (aY t.Nodes) 150) then
  some true
 else
  (bif (gtB (aY t.Hood) 9) then
   some true
  else
   (bif (gtB (aY x.Syms) 20) then
    some true
   else
    (bif (gtB x.Gens 3) then
     some (leB x.Gens 6)
    else
     some false))))).bind fun a =>
 (bif a then
  some false
 else
  (b0 (b_L45_Small_1 t x) bl 0).bind fun o => match o with
   | .inl r =>
    some r
   | .inr _u =>
    ((bif (ltB x.W 1) then
     some true
    else
     (bif (ltB x.H 1) then
      some true
     else
      (bif (gtB x.W 16) then
       some true
      else
       (bif (gtB x.H 16) then
        some true
       else
        (bif (leB (bq .i64 x.W x.H) 9) then
         some true
        else
         some (gtB (bq .i64 x.W x.H) 16))))))).bind fun a1 =>
    some a1)
def m_L45_keep : Option (Tree) :=
 some (⟨2, [(⟨0, 0⟩ : Point)], [(⟨1, [0, 1]⟩ : Node)]⟩ : Tree)
def m_cmp_isNaN_int (x : Int) : Option (Bool) :=
 some (neB x x)
def m_cmp_Compare_int (x y : Int) : Option (Int) :=
 (m_cmp_isNaN_int x).bind fun y1 =>
 (m_cmp_isNaN_int y).bind fun y2 =>
 (bif y1 then
  (bif y2 then
   some 0
  else
   some (-1))
 else
  (bif y2 then
   some 1
  else
   (bif (ltB x y) then
    some (-1)
   else
    (bif (gtB x y) then
     some 1
    else
     some 0))))
def b_cmp_Or_int_1 (vals : List Int) (stt : Int) : Option (Lp (Int) (Int ⊕ Unit)) := match stt with
 | a =>
  (bif (ltB a (aY vals)) then
   (idx vals a).bind fun x =>
   (bif (neB x 0) then
    some (.out (.inl x))
   else
    some (.next (bf .i64 a 1)))
  else
   some (.out (.inr ())))
def m_cmp_Or_int (vals : List Int) : Option (Int) :=
 (b0 (b_cmp_Or_int_1 vals) bl 0).bind fun o => match o with
  | .inl r =>
   some r
  | .inr _u =>
   some 0
def m_point_Compare (a b : Point) : Option (Int) :=
 (m_cmp_Compare_int a.Y b.Y).bind fun y =>
 (m_cmp_Compare_int a.X b.X).bind fun y1 =>
 (m_cmp_Or_int [y, y1]).bind fun y2 =>
 some y2
def b_hood_Right_1 (l : List Point) (stt : Int) : Option (Lp (Int) (Bool ⊕ Unit)) := match stt with
 | a1 =>
  (bif (ltB a1 (aY l)) then
   (idx l a1).bind fun x =>
   ((bif (ltB x.X (-2)) then
    some true
   else
    (bif (gtB x.X 2) then
     some true
    else
     (bif (ltB x.Y (-2)) then
      some true
     else
      (bif (gtB x.Y 2) then
       some true
      else
       (bif (gtB a1 0) then
        (idx l (bF .i64 a1 1)).bind fun x1 =>
        (m_point_Compare x1 x).bind fun y =>
        some (geB y 0)
       else
        some false)))))).bind fun a2 =>
   (bif a2 then
    some (.out (.inl false))
   else
    some (.next (bf .i64 a1 1)))
  else
   some (.out (.inr ())))
def m_hood_Right (l : List Point) : Option (Bool) :=
 ((bif (ltB (aY l) 1) then
  some true
 else
  some (gtB (aY l) 25))).bind fun a =>
 (bif a then
  some false
 else
  (b0 (b_hood_Right_1 l) bl 0).bind fun o => match o with
   | .inl r =>
    some r
   | .inr _u =>
    some true)
def b_tree_Right_2 (t : Tree) (a1 : Int) (x : Node) (stt : Int) : Option (Lp (Int) (Bool ⊕ Unit)) := match stt with
 | a3 =>
  (bif (ltB a3 (aY x.Next)) then
   (idx x.Next a3).bind fun x1 =>
   ((bif (ltB x1 0) then
    some true
   else
    (bif (eqB x.Level 1) then
     (bif (geB x1 t.States) then
      some true
     else
      (bif (gtB x.Level 1) then
       (bif (geB x1 a1) then
        some true
       else
        (idx t.Nodes x1).bind fun x2 =>
        some (neB x2.Level (bF .i64 x.Level 1)))
      else
       some false))
    else
     (bif (gtB x.Level 1) then
      (bif (geB x1 a1) then
       some true
      else
       (idx t.Nodes x1).bind fun x2 =>
       some (neB x2.Level (bF .i64 x.Level 1)))
     else
      some false)))).bind fun a4 =>
   (bif a4 then
    some (.out (.inl false))
   else
    some (.next (bf .i64 a3 1)))
  else
   some (.out (.inr ())))
def b_tree_Right_1 (t : Tree) (stt : Int) : Option (Lp (Int) (Bool ⊕ Unit)) := match stt with
 | a1 =>
  (bif (ltB a1 (aY t.Nodes)) then
   (idx t.Nodes a1).bind fun x =>
   ((bif (ltB x.Level 1) then
    some true
   else
    (bif (gtB x.Level (aY t.Hood)) then
     some true
    else
     some (neB (aY x.Next) t.States)))).bind fun a2 =>
   (bif a2 then
    some (.out (.inl false))
   else
    (b0 (b_tree_Right_2 t a1 x) bl 0).bind fun o => match o with
     | .inl r =>
      some (.out (.inl r))
     | .inr _u =>
      some (.next (bf .i64 a1 1)))
  else
   some (.out (.inr ())))
def m_tree_Right (t : Tree) : Option (Bool) :=
 ((bif (ltB t.States 2) then
  some true
 else
  (bif (gtB t.States 8) then
   some true
  else
   (m_hood_Right t.Hood).bind fun y =>
   (bif (cr y) then
    some true
   else
    (bif (ltB (aY t.Nodes) 1) then
     some true
    else
     (bif (gtB (aY t.Nodes) 4096) then
      some true
     else
      (idx t.Nodes (bF .i64 (aY t.Nodes) 1)).bind fun x =>
      some (neB x.Level (aY t.Hood)))))))).bind fun a =>
 (bif a then
  some false
 else
  (b0 (b_tree_Right_1 t) bl 0).bind fun o => match o with
   | .inl r =>
    some r
   | .inr _u =>
    some true)
def b_tree_value_1 (t : Tree) (in_ : List Int) (stt : Int × Int) : Option (Lp (Int × Int) (Int)) := match stt with
 | (k, a) =>
  (bif (ltB a (aY in_)) then
   (idx in_ a).bind fun x =>
   (idx t.Nodes k).bind fun x1 =>
   (idx x1.Next x).bind fun x2 =>
   some (.next (x2, (bf .i64 a 1)))
  else
   some (.out k))
def m_tree_value (t : Tree) (in_ : List Int) : Option (Int) :=
 (b0 (b_tree_value_1 t in_) bl ((bF .i64 (aY t.Nodes) 1), 0)).bind fun k =>
 some k
def m_tree_Quiet (t : Tree) : Option (Bool) :=
 ((m_tree_Right t).bind fun y =>
 (bif y then
  (mkL 8 (aY t.Hood) (aY t.Hood) 0).bind fun _l =>
  (m_tree_value t (List.replicate (aY t.Hood).toNat 0)).bind fun y1 =>
  some (eqB y1 0)
 else
  some false)).bind fun a =>
 some a
def m_pattern_at (cv : Cell) : Option (Point) :=
 some (⟨cv.X, cv.Y⟩ : Point)
def m_pattern_placed (p : Point) : Option (Bool) :=
 ((bif (leB (dt p.X p.Y) 1048576) then
  some (geB (imin p.X p.Y) (-1048576))
 else
  some false)).bind fun a =>
 some a
def m_pattern_order (a b : Cell) : Option (Int) :=
 (m_pattern_at a).bind fun y =>
 (m_pattern_at b).bind fun y1 =>
 (m_point_Compare y y1).bind fun y2 =>
 some y2
def b_pattern_Right_1 (p : List Cell) (stt : Int) : Option (Lp (Int) (Bool ⊕ Unit)) := match stt with
 | a =>
  (bif (ltB a (aY p)) then
   (idx p a).bind fun x =>
   ((m_pattern_at x).bind fun y =>
   (m_pattern_placed y).bind fun y1 =>
   (bif (cr y1) then
    some true
   else
    (bif (ltB x.S 1) then
     some true
    else
     (bif (geB x.S 8) then
      some true
     else
      (bif (gtB a 0) then
       (idx p (bF .i64 a 1)).bind fun x1 =>
       (m_pattern_order x1 x).bind fun y2 =>
       some (geB y2 0)
      else
       some false))))).bind fun a1 =>
   (bif a1 then
    some (.out (.inl false))
   else
    some (.next (bf .i64 a 1)))
  else
   some (.out (.inr ())))
def m_pattern_Right (p : List Cell) : Option (Bool) :=
 (bif (gtB (aY p) 5000) then
  some false
 else
  (b0 (b_pattern_Right_1 p) bl 0).bind fun o => match o with
   | .inl r =>
    some r
   | .inr _u =>
    some true)
def b_pattern_Top_1 (p : List Cell) (stt : Int × Int) : Option (Lp (Int × Int) (Int)) := match stt with
 | (n, a) =>
  (bif (ltB a (aY p)) then
   (idx p a).bind fun x =>
   some (.next ((dt n x.S), (bf .i64 a 1)))
  else
   some (.out n))
def m_pattern_Top (p : List Cell) : Option (Int) :=
 (b0 (b_pattern_Top_1 p) bl (0, 0)).bind fun n =>
 some n
def m_direct_check (t : Tree) (p : List Cell) : Option (Int) :=
 (m_tree_Quiet t).bind fun y =>
 (bif (cr y) then
  some 11
 else
  (m_pattern_Right p).bind fun y1 =>
  (bif (cr y1) then
   some 2
  else
   (m_pattern_Top p).bind fun y2 =>
   (bif (geB y2 t.States) then
    some 10
   else
    some 0)))
def b_direct_Run_1 (_t : Tree) (_p : List Cell) (n : Int) (stt : Unit) : Option (Lp (Unit) (Unit)) := match stt with
 | _u =>
  (bif (ltB 0 n) then
   none
  else
   some (.out ()))
def m_direct_Run (t : Tree) (p : List Cell) (n : Int) : Option ((List Cell) × Int) :=
 (m_direct_check t p).bind fun y =>
 (bif (neB y 0) then
  some ([], y)
 else
  ((bif (ltB n 0) then
   some true
  else
   some (gtB n 10000))).bind fun a =>
  (bif a then
   some ([], 2)
  else
   (b0 (b_direct_Run_1 t p n) bl ()).bind fun _u =>
   some (p, 0)))
def b_problem_fits_1 (x : Av) (stt : Int × (List Bool)) : Option (Lp (Int × (List Bool)) (Bool ⊕ Unit)) := match stt with
 | (a, seen) =>
  (bif (ltB a (aY x.Syms)) then
   (idx x.Syms a).bind fun x1 =>
   ((bif (ltB x1 0) then
    some true
   else
    (bif (geB x1 8) then
     some true
    else
     (aidx 8 seen x1).bind fun x2 =>
     (bif x2 then
      some true
     else
      (irem x1 2).bind fun n =>
      (bif (eqB n 1) then
       some (neB x.W x.H)
      else
       some false))))).bind fun a1 =>
   (bif a1 then
    some (.out (.inl false))
   else
    (aidx 8 seen x1).bind fun _x2 =>
    some (.next ((bf .i64 a 1), (seen.set x1.toNat true))))
  else
   some (.out (.inr ())))
def m_problem_fits (x : Av) : Option (Bool) :=
 (b0 (b_problem_fits_1 x) bl (0, [false, false, false, false, false, false, false, false])).bind fun o => match o with
  | .inl r =>
   some r
  | .inr _u =>
   some true
def m_problem_first (x : Av) : Option (Int) :=
 (bif (ltB (imin x.W x.H) 1) then
  some 2
 else
  ((bif (gtB (dt x.W x.H) 16) then
   some true
  else
   some (gtB (bq .i64 x.W x.H) 16))).bind fun a =>
  (bif a then
   some 6
  else
   ((bif (ltB x.Gens 1) then
    some true
   else
    (bif (gtB x.Gens 6) then
     some true
    else
     (bif (gtB (dt x.DX x.DY) 24) then
      some true
     else
      (bif (ltB (imin x.DX x.DY) (-24)) then
       some true
      else
       (m_problem_fits x).bind fun y =>
       some (cr y)))))).bind fun a1 =>
   (bif a1 then
    some 2
   else
    some 0)))
def m_problem_Check (t : Tree) (x : Av) : Option (Int) :=
 (m_direct_Run t [] 0).bind fun y =>
 (bif (neB y.2 0) then
  some y.2
 else
  (m_problem_first x).bind fun y1 =>
  some y1)
def m_slices_Clone_int_int (l : List Int) : Option (List Int) := bR 8 [] l
def m_reduce_Reduce_1 (_x : Int) (next : List Int) : Option (List Int) :=
 some next
def m_internal_strconv_AppendUint_o (l : List Int) (n base : Int) : Option (List Int) := appUM l n base
def m_internal_strconv_AppendInt_N (i base : Int) : Option (List Int) :=
 ((bif (ltB i 0) then
  (bR 1 [] [45]).bind fun _l =>
  some ((bE .u64 (iconv .u64 i)), ([] ++ [45]))
 else
  some ((iconv .u64 i), []))).bind fun (u, dst) =>
 (m_internal_strconv_AppendUint_o dst u base).bind fun y =>
 some y
def m_strconv_AppendInt_N (i base : Int) : Option (List Int) :=
 (m_internal_strconv_AppendInt_N i base).bind fun y =>
 some y
def m_internal_strconv_AppendInt_o (dst : List Int) (i base : Int) : Option (List Int) :=
 ((bif (ltB i 0) then
  (bR 1 dst [45]).bind fun _l =>
  some ((bE .u64 (iconv .u64 i)), (dst ++ [45]))
 else
  some ((iconv .u64 i), dst))).bind fun (u, dst1) =>
 (m_internal_strconv_AppendUint_o dst1 u base).bind fun y =>
 some y
def m_strconv_AppendInt_o (dst : List Int) (i base : Int) : Option (List Int) :=
 (m_internal_strconv_AppendInt_o dst i base).bind fun y =>
 some y
def b_reduce_builder_node_o_1 (_aC : List Node) (_au : List (List UInt8 × Int)) (_level : Int) (next : List Int) (stt : Int × (List Int)) : Option (Lp (Int × (List Int)) ((List Int))) := match stt with
 | (a, keyv) =>
  (bif (ltB a (aY next)) then
   (idx next a).bind fun x =>
   (bR 1 keyv [32]).bind fun _l =>
   (m_strconv_AppendInt_o (keyv ++ [32]) x 10).bind fun y1 =>
   some (.next ((bf .i64 a 1), y1))
  else
   some (.out keyv))
def m_reduce_builder_node_o (aC : List Node) (au : List (List UInt8 × Int)) (level : Int) (next : List Int) : Option (Int × (List (List UInt8 × Int)) × (List Node)) :=
 (m_strconv_AppendInt_N level 10).bind fun y =>
 (b0 (b_reduce_builder_node_o_1 aC au level next) bl (0, y)).bind fun keyv =>
 (kckS (ofBytes keyv)).bind fun _u =>
 (bif (fb au (ofBytes keyv)) then
  some ((mgetD au (ofBytes keyv) 0), au, aC)
 else
  (bR 32 aC [(⟨level, next⟩ : Node)]).bind fun _l =>
  some ((bF .i64 ((aY aC) + 1) 1), (msetL au (ofBytes keyv) (bF .i64 ((aY aC) + 1) 1)), (aC ++ [(⟨level, next⟩ : Node)])))
def m_slices_Clone_api_Point_api_Point (l : List Point) : Option (List Point) := bR 16 [] l
def b_reduce_ordered_1_o_o_o_o_1 (rcv : (Int -> (List Int) -> (List Node) -> (List Node) -> Option (Int × (List Int) × (List Node)))) (_k : Int) (a1 : List Node) (x1 : Node) (y : List Int) (stt : Int × (List Int) × (List Node) × (List Int)) : Option (Lp (Int × (List Int) × (List Node) × (List Int)) (((List Int) × (List Node) × (List Int)))) := match stt with
 | (a2, l, l2, l1) =>
  (bif (ltB a2 (aY y)) then
   ((idx l a2).bind fun x2 =>
   (bif (gtB x1.Level 1) then
    (rcv x2 l1 a1 l2).bind fun y1 =>
    some ((l.set a2.toNat y1.1), y1.2.1, y1.2.2)
   else
    some (l, l1, l2))).bind fun (l3, l4, l5) =>
   some (.next ((bf .i64 a2 1), l3, l5, l4))
  else
   some (.out (l, l2, l1)))
def mb_reduce_ordered_1_o_o_o_o (rcv : (Int -> (List Int) -> (List Node) -> (List Node) -> Option (Int × (List Int) × (List Node)))) (k : Int) (a : List Int) (a1 cv : List Node) : Option (Int × (List Int) × (List Node)) :=
 (idx a k).bind fun x =>
 (bif (gtB x 0) then
  some ((bF .i64 x 1), a, cv)
 else
  (idx a1 k).bind fun x1 =>
  (m_slices_Clone_int_int x1.Next).bind fun y =>
  (b0 (b_reduce_ordered_1_o_o_o_o_1 rcv k a1 x1 y) bl (0, y, cv, a)).bind fun (l, l1, l2) =>
  (bR 32 l1 [(⟨x1.Level, l⟩ : Node)]).bind fun _l3 =>
  (idx l2 k).bind fun _x2 =>
  some ((bF .i64 ((aY l1) + 1) 1), (l2.set k.toNat ((aY l1) + 1)), (l1 ++ [(⟨x1.Level, l⟩ : Node)])))
def m_reduce_ordered_1_o_o_o_o (k : Int) (a : List Int) (a1 cv : List Node) : Option (Int × (List Int) × (List Node)) := recN mb_reduce_ordered_1_o_o_o_o (fun _ _ _ _ => none) recF k a a1 cv
def m_reduce_ordered (nodes : List Node) (root : Int) : Option (List Node) :=
 (mkL 8 (aY nodes) (aY nodes) 0).bind fun _l =>
 (m_reduce_ordered_1_o_o_o_o root (List.replicate (aY nodes).toNat 0) nodes []).bind fun y =>
 some y.2.2
def b_reduce_rebuilt_reduce_Reduce_1_2 (_t : Tree) (_a : Int) (_mp : List (List UInt8 × Int)) (_l : List Node) (to_ : List Int) (x : Node) (y : List Int) (stt : Int × (List Int)) : Option (Lp (Int × (List Int)) ((List Int))) := match stt with
 | (a1, next) =>
  (bif (ltB a1 (aY y)) then
   ((idx next a1).bind fun x1 =>
   (bif (gtB x.Level 1) then
    (idx to_ x1).bind fun x2 =>
    some (next.set a1.toNat x2)
   else
    some next)).bind fun next1 =>
   some (.next ((bf .i64 a1 1), next1))
  else
   some (.out next))
def b_reduce_rebuilt_reduce_Reduce_1_1 (t : Tree) (stt : Int × (List (List UInt8 × Int)) × (List Node) × (List Int)) : Option (Lp (Int × (List (List UInt8 × Int)) × (List Node) × (List Int)) (((List (List UInt8 × Int)) × (List Node) × (List Int)))) := match stt with
 | (a, mp, l, to_) =>
  (bif (ltB a (aY t.Nodes)) then
   (idx t.Nodes a).bind fun x =>
   (m_slices_Clone_int_int x.Next).bind fun y =>
   (b0 (b_reduce_rebuilt_reduce_Reduce_1_2 t a mp l to_ x y) bl (0, y)).bind fun next =>
   (m_reduce_Reduce_1 x.Level next).bind fun y1 =>
   (m_reduce_builder_node_o l mp x.Level y1).bind fun y2 =>
   (bR 8 to_ [y2.1]).bind fun _l1 =>
   some (.next ((bf .i64 a 1), y2.2.1, y2.2.2, (to_ ++ [y2.1])))
  else
   some (.out (mp, l, to_)))
def m_reduce_rebuilt_reduce_Reduce_1 (t : Tree) : Option (Tree) :=
 (b0 (b_reduce_rebuilt_reduce_Reduce_1_1 t) bl (0, [], [], [])).bind fun (_mp, l, to_) =>
 (m_slices_Clone_api_Point_api_Point t.Hood).bind fun y =>
 (idx to_ (bF .i64 (aY to_) 1)).bind fun x =>
 (m_reduce_ordered l x).bind fun y1 =>
 some (⟨t.States, y, y1⟩ : Tree)
def m_reduce_Reduce (t : Tree) : Option (Tree) :=
 (m_tree_Right t).bind fun y =>
 (bif (cr y) then
  some (⟨0, [], []⟩ : Tree)
 else
  (m_reduce_rebuilt_reduce_Reduce_1 t).bind fun y1 =>
  some y1)
def m_lower_Bits (states : Int) : Option (Int) :=
 (bif (eqB states 2) then
  some 1
 else
  ((bif (eqB states 3) then
   some (eqB states 3)
  else
   some (eqB states 4))).bind fun a =>
  (bif a then
   some 2
  else
   ((bif (gtB states 4) then
    some (leB states 8)
   else
    some false)).bind fun a1 =>
   (bif a1 then
    some 3
   else
    some 0)))
def m_unroll_start (t : Tree) : Option (Int × (List Point) × (List Node) × Int) :=
 (m_reduce_Reduce t).bind fun y =>
 (m_lower_Bits t.States).bind fun y1 =>
 some (y.States, y.Hood, y.Nodes, y1)
def b_hood_Radius_1 (l : List Point) (stt : Int × Int) : Option (Lp (Int × Int) (Int)) := match stt with
 | (r_, a) =>
  (bif (ltB a (aY l)) then
   (idx l a).bind fun x =>
   some (.next ((dt (dt (dt (dt r_ x.X) (bE .i64 x.X)) x.Y) (bE .i64 x.Y)), (bf .i64 a 1)))
  else
   some (.out r_))
def m_hood_Radius (l : List Point) : Option (Int) :=
 ((m_hood_Right l).bind fun y =>
 (bif y then
  (b0 (b_hood_Radius_1 l) bl (0, 0)).bind fun r_ =>
  some r_
 else
  some 0)).bind fun r_ =>
 some r_
def b_unroll_builder_fresh_o_1 (_ag : List (List Int)) (_a8 : Int) (_ae : List Point) (_aa : List Node) (aj : Int) (_ah : List (List UInt8 × Tree)) (stt : Int × (List Int) × Int) : Option (Lp (Int × (List Int) × Int) (((List Int) × Int))) := match stt with
 | (a, l, ai) =>
  (bif (ltB a aj) then
   (bR 8 l [(bf .i64 ai 1)]).bind fun _l1 =>
   some (.next ((bf .i64 a 1), (l ++ [(bf .i64 ai 1)]), (bf .i64 ai 1)))
  else
   some (.out (l, ai)))
def m_unroll_builder_fresh_o (ab : Int) (ag : List (List Int)) (a8 : Int) (ae : List Point) (aa : List Node) (aj : Int) (ah : List (List UInt8 × Tree)) : Option ((List Int) × Int) :=
 (b0 (b_unroll_builder_fresh_o_1 ag a8 ae aa aj ah) bl (0, [], ab)).bind fun (l, ai) =>
 some (l, ai)
def b_unroll_against_1 (cv : Int) (y : List Int) (stt : Int × (List Int)) : Option (Lp (Int × (List Int)) ((List Int))) := match stt with
 | (a, l) =>
  (bif (ltB a (aY y)) then
   ((ishr .i64 cv a).bind fun n =>
   (bif (eqB (iand .i64 n 1) 1) then
    (idx l a).bind fun x =>
    some (l.set a.toNat (bE .i64 x))
   else
    some l)).bind fun l1 =>
   some (.next ((bf .i64 a 1), l1))
  else
   some (.out l))
def m_unroll_against (vars : List Int) (cv : Int) : Option (List Int) :=
 (m_slices_Clone_int_int vars).bind fun y =>
 (b0 (b_unroll_against_1 cv y) bl (0, y)).bind fun l =>
 some l
def m_unroll_builder_clause_o (_ab : Int) (ag : List (List Int)) (_a8 : Int) (_ae : List Point) (_aa : List Node) (_aj : Int) (_ah : List (List UInt8 × Tree)) (l : List Int) : Option (Unit) :=
 (bR 24 ag [l]).bind fun _l1 =>
 some ()
def b_unroll_builder_free_o_1 (ag : List (List Int)) (a8 : Int) (ae : List Point) (aa : List Node) (aj : Int) (ah : List (List UInt8 × Tree)) (box : Box) (stt : Int × (List Ax) × Int) : Option (Lp (Int × (List Ax) × Int) (((List Ax) × Int))) := match stt with
 | (a, l, ai) =>
  (bif (ltB a (bq .i64 box.W box.H)) then
   (m_unroll_builder_fresh_o ai ag a8 ae aa aj ah).bind fun y =>
   (neE y.1).bind fun _u =>
   (bR 32 l [(⟨0, y.1⟩ : Ax)]).bind fun _l1 =>
   some (.next ((bf .i64 a 1), (l ++ [(⟨0, y.1⟩ : Ax)]), y.2))
  else
   some (.out (l, ai)))
def b_unroll_builder_free_o_3 (a8 : Int) (ae : List Point) (aa : List Node) (aj : Int) (ah : List (List UInt8 × Tree)) (_box : Box) (_l : List Ax) (ai _a : Int) (x : Ax) (stt : Int × (List (List Int))) : Option (Lp (Int × (List (List Int))) ((List (List Int)))) := match stt with
 | (cv, l2) =>
  (ishl .i64 1 aj).bind fun n =>
  (bif (ltB cv n) then
   (neE x.vars).bind fun _u =>
   (m_unroll_against x.vars cv).bind fun y =>
   (m_unroll_builder_clause_o ai l2 a8 ae aa aj ah y).bind fun _y1 =>
   some (.next ((bf .i64 cv 1), (l2 ++ [y])))
  else
   some (.out l2))
def b_unroll_builder_free_o_2 (a8 : Int) (ae : List Point) (aa : List Node) (aj : Int) (ah : List (List UInt8 × Tree)) (box : Box) (l : List Ax) (ai : Int) (stt : Int × (List (List Int))) : Option (Lp (Int × (List (List Int))) ((List (List Int)))) := match stt with
 | (a, l1) =>
  (bif (ltB a (aY l)) then
   (idx l a).bind fun x =>
   (b0 (b_unroll_builder_free_o_3 a8 ae aa aj ah box l ai a x) bl (a8, l1)).bind fun l2 =>
   some (.next ((bf .i64 a 1), l2))
  else
   some (.out l1))
def m_unroll_builder_free_o (ab : Int) (ag : List (List Int)) (a8 : Int) (ae : List Point) (aa : List Node) (aj : Int) (ah : List (List UInt8 × Tree)) (box : Box) : Option ((List Ax) × (List (List Int)) × Int) :=
 (b0 (b_unroll_builder_free_o_1 ag a8 ae aa aj ah box) bl (0, [], ab)).bind fun (l, ai) =>
 (b0 (b_unroll_builder_free_o_2 a8 ae aa aj ah box l ai) bl (0, ag)).bind fun l1 =>
 some (l, l1, ai)
def m_unroll_field_at (f : Ay) (x y : Int) : Option (Ax) :=
 ((bif (ltB (bF .i64 x f.box.X) 0) then
  some true
 else
  (bif (geB (bF .i64 x f.box.X) f.box.W) then
   some true
  else
   (bif (ltB (bF .i64 y f.box.Y) 0) then
    some true
   else
    some (geB (bF .i64 y f.box.Y) f.box.H))))).bind fun a =>
 (bif a then
  some (⟨0, []⟩ : Ax)
 else
  (idx f.values (bf .i64 (bq .i64 (bF .i64 y f.box.Y) f.box.W) (bF .i64 x f.box.X))).bind fun x1 =>
  some x1)
def b_unroll_builder_fixed_o_o_1 (_ab : Int) (_ag : List (List Int)) (_a8 : Int) (_ae : List Point) (_aa : List Node) (_aj : Int) (_ah : List (List UInt8 × Tree)) (in_ : List Ax) (stt : Int × (List Int)) : Option (Lp (Int × (List Int)) ((List Int))) := match stt with
 | (a, keyv) =>
  (bif (ltB a (aY in_)) then
   (idx in_ a).bind fun x =>
   ((bif (cr (isE x.vars)) then
    some 255
   else
    some (iconv .u8 x.constant))).bind fun k =>
   (bR 1 keyv [k]).bind fun _l =>
   some (.next ((bf .i64 a 1), (keyv ++ [k])))
  else
   some (.out keyv))
def b_unroll_builder_fixed_o_o_2 (_ab : Int) (_ag : List (List Int)) (_a8 : Int) (_ae : List Point) (_aa : List Node) (_aj : Int) (_ah : List (List UInt8 × Tree)) (in_ : List Ax) (_keyv : List Int) (_u : Unit) (stt : Int) : Option (Lp (Int) (Unit)) := match stt with
 | a =>
  (bif (ltB a (aY in_)) then
   (idx in_ a).bind fun x =>
   (bif (isE x.vars) then
    none
   else
    some (.next (bf .i64 a 1)))
  else
   some (.out ()))
def m_unroll_builder_fixed_o_o (ab : Int) (ag : List (List Int)) (a8 : Int) (ae : List Point) (aa : List Node) (aj : Int) (ah : List (List UInt8 × Tree)) (in_ : List Ax) : Option (Int × (List Point) × (List Node) × (List (List UInt8 × Tree))) :=
 (b0 (b_unroll_builder_fixed_o_o_1 ab ag a8 ae aa aj ah in_) bl (0, [])).bind fun keyv =>
 (kckS (ofBytes keyv)).bind fun u =>
 (bif (fb ah (ofBytes keyv)) then
  (dX ah (ofBytes keyv)).bind fun v =>
  some (v.States, v.Hood, v.Nodes, ah)
 else
  (b0 (b_unroll_builder_fixed_o_o_2 ab ag a8 ae aa aj ah in_ keyv u) bl 0).bind fun _u =>
  some (a8, ae, aa, (msetL ah (ofBytes keyv) (⟨a8, ae, aa⟩ : Tree))))
def m_unroll_builder_tree_2 (n : Int) (a : Node) : Option (Bool) :=
 (idx a.Next 0).bind fun x =>
 some (neB n x)
def b_slices_IndexFunc_int_int_unroll_builder_tree_2_1 (s : List Int) (cv : Node) (stt : Int) : Option (Lp (Int) (Int ⊕ Unit)) := match stt with
 | a =>
  (bif (ltB a (aY s)) then
   (idx s a).bind fun x =>
   (m_unroll_builder_tree_2 x cv).bind fun y =>
   (bif y then
    some (.out (.inl a))
   else
    some (.next (bf .i64 a 1)))
  else
   some (.out (.inr ())))
def m_slices_IndexFunc_int_int_unroll_builder_tree_2 (s : List Int) (cv : Node) : Option (Int) :=
 (b0 (b_slices_IndexFunc_int_int_unroll_builder_tree_2_1 s cv) bl 0).bind fun o => match o with
  | .inl r =>
   some r
  | .inr _u =>
   some (-1)
def m_slices_ContainsFunc_int_int_unroll_builder_tree_2 (s : List Int) (cv : Node) : Option (Bool) :=
 (m_slices_IndexFunc_int_int_unroll_builder_tree_2 s cv).bind fun y =>
 some (geB y 0)
def m_unroll_builder_tree_1_o_o (s aN : Int) (aNext : List Int) (a : List Ax) : Option (Int × (List Int)) :=
 (bif (eqB aN 1) then
  (idx aNext s).bind fun x =>
  some (x, [])
 else
  (idx aNext s).bind fun x =>
  (idx a x).bind fun x1 =>
  some (x1.constant, x1.vars))
def m_unroll_builder_clause_o_o (_ab : Int) (ag : List (List Int)) (_a8 : Int) (_ae : List Point) (_aa : List Node) (_aj : Int) (_ah : List (List UInt8 × Tree)) (l : List Int) : Option (Unit) :=
 (bR 24 ag [l]).bind fun _l1 =>
 some ()
def m_unroll_builder_select1_1_o_o (l : List Int) (aG : Int) (aE : List (List Int)) (aH : Int) (aJ : List Point) (aI : List Node) (abits : Int) (aK : List (List UInt8 × Tree)) (a : List Int) : Option (List (List Int)) :=
 (m_slices_Clone_int_int a).bind fun y =>
 (bR 8 y l).bind fun _l1 =>
 (m_unroll_builder_clause_o_o aG aE aH aJ aI abits aK (y ++ l)).bind fun _y1 =>
 some (aE ++ [(y ++ l)])
def b_unroll_builder_select1_o_1 (ab a8 : Int) (ae : List Point) (aa : List Node) (aj : Int) (ah : List (List UInt8 × Tree)) (aD own : List Int) (v : Ax) (stt : Int × (List (List Int))) : Option (Lp (Int × (List (List Int))) ((List (List Int)))) := match stt with
 | (a, l) =>
  (bif (ltB a (aY own)) then
   ((idx own a).bind fun x =>
   (bif (cr (isE v.vars)) then
    (neE v.vars).bind fun _u =>
    (idx v.vars a).bind fun x1 =>
    (m_unroll_builder_select1_1_o_o [(bE .i64 x), x1] ab l a8 ae aa aj ah aD).bind fun y =>
    (m_unroll_builder_select1_1_o_o [x, (bE .i64 x1)] ab y a8 ae aa aj ah aD).bind fun y1 =>
    some y1
   else
    (ishr .i64 v.constant a).bind fun n =>
    (bif (eqB (iand .i64 n 1) 1) then
     (m_unroll_builder_select1_1_o_o [x] ab l a8 ae aa aj ah aD).bind fun y =>
     some y
    else
     (m_unroll_builder_select1_1_o_o [(bE .i64 x)] ab l a8 ae aa aj ah aD).bind fun y =>
     some y))).bind fun l1 =>
   some (.next ((bf .i64 a 1), l1))
  else
   some (.out l))
def m_unroll_builder_select1_o (ab : Int) (ag : List (List Int)) (a8 : Int) (ae : List Point) (aa : List Node) (aj : Int) (ah : List (List UInt8 × Tree)) (aD own : List Int) (v : Ax) : Option (List (List Int)) :=
 (b0 (b_unroll_builder_select1_o_1 ab a8 ae aa aj ah aD own v) bl (0, ag)).bind fun l =>
 some l
def b_unroll_builder_tree_o_o_2 (a8 : Int) (ae : List Point) (aa : List Node) (aj : Int) (ah : List (List UInt8 × Tree)) (_t : Tree) (_in_ : List Ax) (a : Int) (l1 : List Ax) (x : Node) (x1 : Ax) (y1 : (List Int) × Int) (x2 : Ax) (_u : Unit) (stt : Int × (List (List Int))) : Option (Lp (Int × (List (List Int))) ((List (List Int)))) := match stt with
 | (a1, l3) =>
  (bif (ltB a1 (aY x.Next)) then
   (neE x1.vars).bind fun _u1 =>
   (m_unroll_against x1.vars a1).bind fun y2 =>
   (m_unroll_builder_tree_1_o_o a1 x.Level x.Next (l1.set a.toNat (⟨x2.constant, y1.1⟩ : Ax))).bind fun y3 =>
   (m_unroll_builder_select1_o y1.2 l3 a8 ae aa aj ah y2 y1.1 (⟨y3.1, y3.2⟩ : Ax)).bind fun y4 =>
   some (.next ((bf .i64 a1 1), y4))
  else
   some (.out l3))
def b_unroll_builder_tree_o_o_1 (a8 : Int) (ae : List Point) (aa : List Node) (aj : Int) (ah : List (List UInt8 × Tree)) (t : Tree) (in_ : List Ax) (stt : Int × (List Ax) × (List (List Int)) × Int) : Option (Lp (Int × (List Ax) × (List (List Int)) × Int) (((List Ax) × (List (List Int)) × Int))) := match stt with
 | (a, l1, l2, ai) =>
  (bif (ltB a (aY t.Nodes)) then
   (idx t.Nodes a).bind fun x =>
   (m_slices_ContainsFunc_int_int_unroll_builder_tree_2 x.Next x).bind fun y =>
   (bif (cr y) then
    (m_unroll_builder_tree_1_o_o 0 x.Level x.Next l1).bind fun y1 =>
    (idx l1 a).bind fun _x1 =>
    some (.next ((bf .i64 a 1), (l1.set a.toNat (⟨y1.1, y1.2⟩ : Ax)), l2, ai))
   else
    (idx in_ (bF .i64 (aY t.Hood) x.Level)).bind fun x1 =>
    (m_unroll_builder_fresh_o ai l2 a8 ae aa aj ah).bind fun y1 =>
    (idx l1 a).bind fun x2 =>
    (neE y1.1).bind fun u =>
    (b0 (b_unroll_builder_tree_o_o_2 a8 ae aa aj ah t in_ a l1 x x1 y1 x2 u) bl (0, l2)).bind fun l3 =>
    some (.next ((bf .i64 a 1), (l1.set a.toNat (⟨x2.constant, y1.1⟩ : Ax)), l3, y1.2)))
  else
   some (.out (l1, l2, ai)))
def m_unroll_builder_tree_o_o (ab : Int) (ag : List (List Int)) (a8 : Int) (ae : List Point) (aa : List Node) (aj : Int) (ah : List (List UInt8 × Tree)) (t : Tree) (in_ : List Ax) : Option (Int × (List Int) × (List (List Int)) × Int) :=
 (mkL 32 (aY t.Nodes) (aY t.Nodes) (⟨0, []⟩ : Ax)).bind fun _l =>
 (b0 (b_unroll_builder_tree_o_o_1 a8 ae aa aj ah t in_) bl (0, (List.replicate (aY t.Nodes).toNat (⟨0, []⟩ : Ax)), ag, ab)).bind fun (l1, l2, ai) =>
 (idx l1 (bF .i64 (aY l1) 1)).bind fun x =>
 some (x.constant, x.vars, l2, ai)
def m_unroll_builder_large_o (ab : Int) (ag : List (List Int)) (_a8 : Int) (_ae : List Point) (_aa : List Node) (_aj : Int) (_ah : List (List UInt8 × Tree)) : Option (Bool) :=
 ((bif (gtB ab 65536) then
  some true
 else
  some (gtB (aY ag) 262144))).bind fun a =>
 some a
def b_unroll_builder_next_o_3 (_a8 : Int) (ae : List Point) (_aa : List Node) (_aj : Int) (f : Ay) (_box : Box) (_fixed : Bool) (y x : Int) (_l2 : List Ax) (_l3 : List (List Int)) (_am : Int) (_mp1 : List (List UInt8 × Tree)) (stt : Int × (List Ax)) : Option (Lp (Int × (List Ax)) ((List Ax))) := match stt with
 | (a, in_) =>
  (bif (ltB a (aY ae)) then
   (idx ae a).bind fun x1 =>
   (m_unroll_field_at f (bf .i64 x x1.X) (bf .i64 y x1.Y)).bind fun y1 =>
   (bR 32 in_ [y1]).bind fun _l4 =>
   some (.next ((bf .i64 a 1), (in_ ++ [y1])))
  else
   some (.out in_))
def b_unroll_builder_next_o_2 (a8 : Int) (ae : List Point) (aa : List Node) (aj : Int) (f : Ay) (box : Box) (fixed : Bool) (y : Int) (stt : Int × (List Ax) × (List (List Int)) × Int × (List (List UInt8 × Tree))) : Option (Lp (Int × (List Ax) × (List (List Int)) × Int × (List (List UInt8 × Tree))) ((Int × Int × Int × Int × (List Ax) × Bool × Int × (List (List UInt8 × Tree)) × (List (List Int))) ⊕ ((List Ax) × (List (List Int)) × Int × (List (List UInt8 × Tree))))) := match stt with
 | (x, l2, l3, am, mp1) =>
  (bif (ltB x (bf .i64 box.X box.W)) then
   (b0 (b_unroll_builder_next_o_3 a8 ae aa aj f box fixed y x l2 l3 am mp1) bl (0, [])).bind fun in_ =>
   ((bif fixed then
    (m_unroll_builder_fixed_o_o am l3 a8 ae aa aj mp1 in_).bind fun y1 =>
    some (y1.1, y1.2.1, y1.2.2.1, y1.2.2.2)
   else
    some (a8, ae, aa, mp1))).bind fun (aL, tHood, tNodes, mp2) =>
   (m_unroll_builder_tree_o_o am l3 a8 ae aa aj mp2 (⟨aL, tHood, tNodes⟩ : Tree) in_).bind fun y1 =>
   (bR 32 l2 [(⟨y1.1, y1.2.1⟩ : Ax)]).bind fun _l4 =>
   (m_unroll_builder_large_o y1.2.2.2 y1.2.2.1 a8 ae aa aj mp2).bind fun y2 =>
   (bif y2 then
    some (.out (.inl (0, 0, 0, 0, [], false, y1.2.2.2, mp2, y1.2.2.1)))
   else
    some (.next ((bf .i64 x 1), (l2 ++ [(⟨y1.1, y1.2.1⟩ : Ax)]), y1.2.2.1, y1.2.2.2, mp2)))
  else
   some (.out (.inr (l2, l3, am, mp1))))
def b_unroll_builder_next_o_1 (a8 : Int) (ae : List Point) (aa : List Node) (aj : Int) (f : Ay) (box : Box) (fixed : Bool) (stt : Int × (List Ax) × (List (List Int)) × Int × (List (List UInt8 × Tree))) : Option (Lp (Int × (List Ax) × (List (List Int)) × Int × (List (List UInt8 × Tree))) ((Int × Int × Int × Int × (List Ax) × Bool × Int × (List (List UInt8 × Tree)) × (List (List Int))) ⊕ ((List Ax) × (List (List Int)) × Int × (List (List UInt8 × Tree))))) := match stt with
 | (y, l, l1, ai, mp) =>
  (bif (ltB y (bf .i64 box.Y box.H)) then
   (b0 (b_unroll_builder_next_o_2 a8 ae aa aj f box fixed y) bl (box.X, l, l1, ai, mp)).bind fun o => match o with
    | .inl r =>
     some (.out (.inl r))
    | .inr (l2, l3, am, mp1) =>
     some (.next ((bf .i64 y 1), l2, l3, am, mp1))
  else
   some (.out (.inr (l, l1, ai, mp))))
def m_unroll_builder_next_o (ab : Int) (ag : List (List Int)) (a8 : Int) (ae : List Point) (aa : List Node) (aj : Int) (ah : List (List UInt8 × Tree)) (f : Ay) (box : Box) (fixed : Bool) : Option (Int × Int × Int × Int × (List Ax) × Bool × Int × (List (List UInt8 × Tree)) × (List (List Int))) :=
 (b0 (b_unroll_builder_next_o_1 a8 ae aa aj f box fixed) bl (box.Y, [], ag, ab, ah)).bind fun o => match o with
  | .inl r =>
   some r
  | .inr (l, l1, ai, mp) =>
   some (box.X, box.Y, box.W, box.H, l, true, ai, mp, l1)
def m_unroll_field_in (f : Ay) (x y : Int) : Option (Bool) :=
 ((bif (geB x f.box.X) then
  (bif (ltB x (bf .i64 f.box.X f.box.W)) then
   (bif (geB y f.box.Y) then
    some (ltB y (bf .i64 f.box.Y f.box.H))
   else
    some false)
  else
   some false)
 else
  some false)).bind fun a =>
 some a
def b_unroll_builder_same_o_1 (ab a8 : Int) (ae : List Point) (aa : List Node) (aj : Int) (ah : List (List UInt8 × Tree)) (x y : List Int) (stt : Int × (List (List Int))) : Option (Lp (Int × (List (List Int))) ((List (List Int)))) := match stt with
 | (a, l) =>
  (bif (ltB a (aY x)) then
   (idx x a).bind fun x1 =>
   (idx y a).bind fun x2 =>
   (m_unroll_builder_clause_o ab l a8 ae aa aj ah [(bE .i64 x1), x2]).bind fun _y1 =>
   (m_unroll_builder_clause_o ab (l ++ [[(bE .i64 x1), x2]]) a8 ae aa aj ah [x1, (bE .i64 x2)]).bind fun _y2 =>
   some (.next ((bf .i64 a 1), ((l ++ [[(bE .i64 x1), x2]]) ++ [[x1, (bE .i64 x2)]])))
  else
   some (.out l))
def m_unroll_builder_same_o (ab : Int) (ag : List (List Int)) (a8 : Int) (ae : List Point) (aa : List Node) (aj : Int) (ah : List (List UInt8 × Tree)) (x y : List Int) : Option (List (List Int)) :=
 (b0 (b_unroll_builder_same_o_1 ab a8 ae aa aj ah x y) bl (0, ag)).bind fun l =>
 some l
def b_unroll_builder_fix_o_1 (ab a8 : Int) (ae : List Point) (aa : List Node) (aj : Int) (ah : List (List UInt8 × Tree)) (vars : List Int) (cv : Int) (stt : Int × (List (List Int))) : Option (Lp (Int × (List (List Int))) ((List (List Int)))) := match stt with
 | (a, l) =>
  (bif (ltB a (aY vars)) then
   (idx vars a).bind fun x =>
   ((ishr .i64 cv a).bind fun n =>
   (bif (eqB (iand .i64 n 1) 0) then
    some (bE .i64 x)
   else
    some x)).bind fun v =>
   (m_unroll_builder_clause_o ab l a8 ae aa aj ah [v]).bind fun _y =>
   some (.next ((bf .i64 a 1), (l ++ [[v]])))
  else
   some (.out l))
def m_unroll_builder_fix_o (ab : Int) (ag : List (List Int)) (a8 : Int) (ae : List Point) (aa : List Node) (aj : Int) (ah : List (List UInt8 × Tree)) (vars : List Int) (cv : Int) : Option (List (List Int)) :=
 (b0 (b_unroll_builder_fix_o_1 ab a8 ae aa aj ah vars cv) bl (0, ag)).bind fun l =>
 some l
def b_unroll_Formula_2 (x : Av) (_y1 : Int × (List Point) × (List Node) × Int) (_y2 : Int) (y3 : (List Ax) × (List (List Int)) × Int) (_a _x1 : Int) (stt : Unit) : Option (Lp (Unit) (Unit)) := match stt with
 | _u =>
  (bif (ltB 0 (aY y3.1)) then
   (idx y3.1 0).bind fun _x2 =>
   (irem 0 x.W).bind fun _n =>
   (iquo .i64 0 x.W).bind fun _n1 =>
   none
  else
   some (.out ()))
def b_unroll_Formula_1 (x : Av) (y1 : Int × (List Point) × (List Node) × Int) (y2 : Int) (y3 : (List Ax) × (List (List Int)) × Int) (stt : Int) : Option (Lp (Int) (Unit)) := match stt with
 | a =>
  (bif (ltB a (aY x.Syms)) then
   (idx x.Syms a).bind fun x1 =>
   (b0 (b_unroll_Formula_2 x y1 y2 y3 a x1) bl ()).bind fun _u =>
   some (.next (bf .i64 a 1))
  else
   some (.out ()))
def b_unroll_Formula_3 (x : Av) (y1 : Int × (List Point) × (List Node) × Int) (y2 : Int) (_y3 : (List Ax) × (List (List Int)) × Int) (stt : Int × Int × Int × Int × Int × (List Ax) × (List (List UInt8 × Tree)) × Int × (List (List Int))) : Option (Lp (Int × Int × Int × Int × Int × (List Ax) × (List (List UInt8 × Tree)) × Int × (List (List Int))) ((Aw × Int × Int) ⊕ (Int × Int × Int × Int × (List Ax) × (List (List UInt8 × Tree)) × Int × (List (List Int))))) := match stt with
 | (gv, aq, ar, av, ax, al, mp, ab, l) =>
  (bif (leB gv x.Gens) then
   (m_unroll_builder_next_o ab l y1.1 y1.2.1 y1.2.2.1 y1.2.2.2 mp (⟨⟨aq, ar, av, ax⟩, al⟩ : Ay) (⟨(bq .i64 (bE .i64 gv) y2), (bq .i64 (bE .i64 gv) y2), (bf .i64 x.W (bq .i64 (bq .i64 2 gv) y2)), (bf .i64 x.H (bq .i64 (bq .i64 2 gv) y2))⟩ : Box) true).bind fun y4 =>
   (bif (cr y4.2.2.2.2.2.1) then
    some (.out (.inl ((⟨0, []⟩ : Aw), 0, 6)))
   else
    some (.next ((bf .i64 gv 1), y4.1, y4.2.1, y4.2.2.1, y4.2.2.2.1, y4.2.2.2.2.1, y4.2.2.2.2.2.2.2.1, y4.2.2.2.2.2.2.1, y4.2.2.2.2.2.2.2.2)))
  else
   some (.out (.inr (aq, ar, av, ax, al, mp, ab, l))))
def b_unroll_Formula_4 (x : Av) (y1 : Int × (List Point) × (List Node) × Int) (y3 : (List Ax) × (List (List Int)) × Int) (aq ar av _ax : Int) (al : List Ax) (mp : List (List UInt8 × Tree)) (ab : Int) (stt : Int × (List (List Int))) : Option (Lp (Int × (List (List Int))) ((List (List Int)))) := match stt with
 | (a, l1) =>
  (bif (ltB a (aY al)) then
   ((idx al a).bind fun x1 =>
   (irem a av).bind fun n =>
   (iquo .i64 a av).bind fun n1 =>
   (m_unroll_field_in (⟨⟨(⟨0, 0, x.W, x.H⟩ : Box).X, (⟨0, 0, x.W, x.H⟩ : Box).Y, (⟨0, 0, x.W, x.H⟩ : Box).W, (⟨0, 0, x.W, x.H⟩ : Box).H⟩, y3.1⟩ : Ay) (bF .i64 (bf .i64 aq n) x.DX) (bF .i64 (bf .i64 ar n1) x.DY)).bind fun y4 =>
   ((bif (cr (isE x1.vars)) then
    some y4
   else
    some false)).bind fun a1 =>
   (bif a1 then
    (m_unroll_field_at (⟨⟨(⟨0, 0, x.W, x.H⟩ : Box).X, (⟨0, 0, x.W, x.H⟩ : Box).Y, (⟨0, 0, x.W, x.H⟩ : Box).W, (⟨0, 0, x.W, x.H⟩ : Box).H⟩, y3.1⟩ : Ay) (bF .i64 (bf .i64 aq n) x.DX) (bF .i64 (bf .i64 ar n1) x.DY)).bind fun y5 =>
    (neE x1.vars).bind fun _u =>
    (neE y5.vars).bind fun _u1 =>
    (m_unroll_builder_same_o ab l1 y1.1 y1.2.1 y1.2.2.1 y1.2.2.2 mp x1.vars y5.vars).bind fun y6 =>
    some y6
   else
    (bif (cr (isE x1.vars)) then
     (neE x1.vars).bind fun _u =>
     (m_unroll_builder_fix_o ab l1 y1.1 y1.2.1 y1.2.2.1 y1.2.2.2 mp x1.vars 0).bind fun y5 =>
     some y5
    else
     (bif y4 then
      (m_unroll_field_at (⟨⟨(⟨0, 0, x.W, x.H⟩ : Box).X, (⟨0, 0, x.W, x.H⟩ : Box).Y, (⟨0, 0, x.W, x.H⟩ : Box).W, (⟨0, 0, x.W, x.H⟩ : Box).H⟩, y3.1⟩ : Ay) (bF .i64 (bf .i64 aq n) x.DX) (bF .i64 (bf .i64 ar n1) x.DY)).bind fun y5 =>
      (neE y5.vars).bind fun _u =>
      (m_unroll_builder_fix_o ab l1 y1.1 y1.2.1 y1.2.2.1 y1.2.2.2 mp y5.vars 0).bind fun y6 =>
      some y6
     else
      some l1)))).bind fun l2 =>
   some (.next ((bf .i64 a 1), l2))
  else
   some (.out l1))
def b_unroll_Formula_5 (x : Av) (y1 : Int × (List Point) × (List Node) × Int) (y3 : (List Ax) × (List (List Int)) × Int) (aq ar av ax : Int) (al : List Ax) (mp : List (List UInt8 × Tree)) (ab : Int) (stt : Int × (List (List Int))) : Option (Lp (Int × (List (List Int))) ((List (List Int)))) := match stt with
 | (a, l2) =>
  (bif (ltB a (aY y3.1)) then
   ((idx y3.1 a).bind fun x1 =>
   (irem a x.W).bind fun n =>
   (iquo .i64 a x.W).bind fun n1 =>
   (m_unroll_field_in (⟨⟨aq, ar, av, ax⟩, al⟩ : Ay) (bf .i64 n x.DX) (bf .i64 n1 x.DY)).bind fun y4 =>
   (bif (cr y4) then
    (neE x1.vars).bind fun _u =>
    (m_unroll_builder_fix_o ab l2 y1.1 y1.2.1 y1.2.2.1 y1.2.2.2 mp x1.vars 0).bind fun y5 =>
    some y5
   else
    some l2)).bind fun l3 =>
   some (.next ((bf .i64 a 1), l3))
  else
   some (.out l2))
def m_unroll_Formula (t : Tree) (x : Av) : Option (Aw × Int × Int) :=
 (m_problem_Check t x).bind fun y =>
 (bif (neB y 0) then
  some ((⟨0, []⟩ : Aw), 0, y)
 else
  (m_unroll_start t).bind fun y1 =>
  (m_hood_Radius t.Hood).bind fun y2 =>
  (m_unroll_builder_free_o 0 [] y1.1 y1.2.1 y1.2.2.1 y1.2.2.2 [] (⟨0, 0, x.W, x.H⟩ : Box)).bind fun y3 =>
  (b0 (b_unroll_Formula_1 x y1 y2 y3) bl 0).bind fun _u =>
  (b0 (b_unroll_Formula_3 x y1 y2 y3) bl (1, (⟨0, 0, x.W, x.H⟩ : Box).X, (⟨0, 0, x.W, x.H⟩ : Box).Y, (⟨0, 0, x.W, x.H⟩ : Box).W, (⟨0, 0, x.W, x.H⟩ : Box).H, y3.1, [], y3.2.2, y3.2.1)).bind fun o => match o with
   | .inl r =>
    some r
   | .inr (aq, ar, av, ax, al, mp, ab, l) =>
    (b0 (b_unroll_Formula_4 x y1 y3 aq ar av ax al mp ab) bl (0, l)).bind fun l1 =>
    (b0 (b_unroll_Formula_5 x y1 y3 aq ar av ax al mp ab) bl (0, l1)).bind fun l2 =>
    (m_unroll_builder_large_o ab l2 y1.1 y1.2.1 y1.2.2.1 y1.2.2.2 mp).bind fun y4 =>
    (bif y4 then
     some ((⟨0, []⟩ : Aw), 0, 6)
    else
     some ((⟨ab, l2⟩ : Aw), y3.2.2, 0)))
def m_grid_sized (w hv aO : Int) : Option (Bool) :=
 ((bif (geB w 1) then
  (bif (leB w 256) then
   (bif (geB hv 1) then
    (bif (leB hv 256) then
     (bif (leB (bq .i64 w hv) 4096) then
      (bif (geB aO 0) then
       some (leB aO 2)
      else
       some false)
     else
      some false)
    else
     some false)
   else
    some false)
  else
   some false)
 else
  some false)).bind fun a =>
 some a
def m_grid_Right_1 (s : Int) : Option (Bool) :=
 ((bif (ltB s 0) then
  some true
 else
  some (geB s 8))).bind fun a =>
 some a
def b_slices_IndexFunc_int_int_grid_Right_1_1 (s : List Int) (stt : Int) : Option (Lp (Int) (Int ⊕ Unit)) := match stt with
 | a =>
  (bif (ltB a (aY s)) then
   (idx s a).bind fun x =>
   (m_grid_Right_1 x).bind fun y =>
   (bif y then
    some (.out (.inl a))
   else
    some (.next (bf .i64 a 1)))
  else
   some (.out (.inr ())))
def m_slices_IndexFunc_int_int_grid_Right_1 (s : List Int) : Option (Int) :=
 (b0 (b_slices_IndexFunc_int_int_grid_Right_1_1 s) bl 0).bind fun o => match o with
  | .inl r =>
   some r
  | .inr _u =>
   some (-1)
def m_slices_ContainsFunc_int_int_grid_Right_1 (s : List Int) : Option (Bool) :=
 (m_slices_IndexFunc_int_int_grid_Right_1 s).bind fun y =>
 some (geB y 0)
def m_grid_Right (gv : Grid) : Option (Bool) :=
 ((m_grid_sized gv.W gv.H gv.Edge).bind fun y =>
 (bif y then
  (bif (eqB (aY gv.Cells) (bq .i64 gv.W gv.H)) then
   (m_slices_ContainsFunc_int_int_grid_Right_1 gv.Cells).bind fun y1 =>
   some (cr y1)
  else
   some false)
 else
  some false)).bind fun a =>
 some a
def m_unroll_Parents_1 (s : Int) (a : Tree) : Option (Bool) :=
 some (geB s a.States)
def b_slices_IndexFunc_int_int_unroll_Parents_1_1 (s : List Int) (cv : Tree) (stt : Int) : Option (Lp (Int) (Int ⊕ Unit)) := match stt with
 | a =>
  (bif (ltB a (aY s)) then
   (idx s a).bind fun x =>
   (m_unroll_Parents_1 x cv).bind fun y =>
   (bif y then
    some (.out (.inl a))
   else
    some (.next (bf .i64 a 1)))
  else
   some (.out (.inr ())))
def m_slices_IndexFunc_int_int_unroll_Parents_1 (s : List Int) (cv : Tree) : Option (Int) :=
 (b0 (b_slices_IndexFunc_int_int_unroll_Parents_1_1 s cv) bl 0).bind fun o => match o with
  | .inl r =>
   some r
  | .inr _u =>
   some (-1)
def m_slices_ContainsFunc_int_int_unroll_Parents_1 (s : List Int) (cv : Tree) : Option (Bool) :=
 (m_slices_IndexFunc_int_int_unroll_Parents_1 s cv).bind fun y =>
 some (geB y 0)
def m_unroll_builder_clause_o_N (_ab : Int) (ag : List (List Int)) (_a8 : Int) (_ae : List Point) (_aa : List Node) (_aj : Int) (_ah : List (List UInt8 × Tree)) : Option (Unit) :=
 (bR 24 ag [[]]).bind fun _l =>
 some ()
def b_unroll_Parents_1 (gv : Grid) (y3 : Int) (y4 : Int × (List Point) × (List Node) × Int) (y5 : (List Ax) × (List (List Int)) × Int) (stt : Int × (List (List UInt8 × Tree)) × Int × (List (List Int))) : Option (Lp (Int × (List (List UInt8 × Tree)) × Int × (List (List Int))) ((Aw × Int × Int) ⊕ ((List (List UInt8 × Tree)) × Int × (List (List Int))))) := match stt with
 | (a, mp, ab, l) =>
  (bif (ltB a (aY gv.Cells)) then
   (idx gv.Cells a).bind fun x =>
   (irem a gv.W).bind fun n =>
   (iquo .i64 a gv.W).bind fun n1 =>
   (m_unroll_builder_next_o ab l y4.1 y4.2.1 y4.2.2.1 y4.2.2.2 mp (⟨⟨(⟨(bE .i64 y3), (bE .i64 y3), (bf .i64 gv.W (bq .i64 2 y3)), (bf .i64 gv.H (bq .i64 2 y3))⟩ : Box).X, (⟨(bE .i64 y3), (bE .i64 y3), (bf .i64 gv.W (bq .i64 2 y3)), (bf .i64 gv.H (bq .i64 2 y3))⟩ : Box).Y, (⟨(bE .i64 y3), (bE .i64 y3), (bf .i64 gv.W (bq .i64 2 y3)), (bf .i64 gv.H (bq .i64 2 y3))⟩ : Box).W, (⟨(bE .i64 y3), (bE .i64 y3), (bf .i64 gv.W (bq .i64 2 y3)), (bf .i64 gv.H (bq .i64 2 y3))⟩ : Box).H⟩, y5.1⟩ : Ay) (⟨n, n1, 1, 1⟩ : Box) false).bind fun y6 =>
   (bif (cr y6.2.2.2.2.2.1) then
    some (.out (.inl ((⟨0, []⟩ : Aw), 0, 6)))
   else
    (idx y6.2.2.2.2.1 0).bind fun x1 =>
    (bif (cr (isE x1.vars)) then
     (neE x1.vars).bind fun _u =>
     (m_unroll_builder_fix_o y6.2.2.2.2.2.2.1 y6.2.2.2.2.2.2.2.2 y4.1 y4.2.1 y4.2.2.1 y4.2.2.2 y6.2.2.2.2.2.2.2.1 x1.vars x).bind fun y7 =>
     some (.next ((bf .i64 a 1), y6.2.2.2.2.2.2.2.1, y6.2.2.2.2.2.2.1, y7))
    else
     (bif (neB x1.constant x) then
      (m_unroll_builder_clause_o_N y6.2.2.2.2.2.2.1 y6.2.2.2.2.2.2.2.2 y4.1 y4.2.1 y4.2.2.1 y4.2.2.2 y6.2.2.2.2.2.2.2.1).bind fun _y7 =>
      some (.next ((bf .i64 a 1), y6.2.2.2.2.2.2.2.1, y6.2.2.2.2.2.2.1, (y6.2.2.2.2.2.2.2.2 ++ [[]])))
     else
      some (.next ((bf .i64 a 1), y6.2.2.2.2.2.2.2.1, y6.2.2.2.2.2.2.1, y6.2.2.2.2.2.2.2.2)))))
  else
   some (.out (.inr (mp, ab, l))))
def m_unroll_Parents (t : Tree) (gv : Grid) : Option (Aw × Int × Int) :=
 (m_tree_Right t).bind fun y =>
 (bif (cr y) then
  some ((⟨0, []⟩ : Aw), 0, 11)
 else
  (m_grid_Right gv).bind fun y1 =>
  (bif (cr y1) then
   some ((⟨0, []⟩ : Aw), 0, 2)
  else
   (m_slices_ContainsFunc_int_int_unroll_Parents_1 gv.Cells t).bind fun y2 =>
   (bif y2 then
    some ((⟨0, []⟩ : Aw), 0, 10)
   else
    (m_hood_Radius t.Hood).bind fun y3 =>
    (bif (gtB (bq .i64 (bf .i64 gv.W (bq .i64 2 y3)) (bf .i64 gv.H (bq .i64 2 y3))) 16) then
     some ((⟨0, []⟩ : Aw), 0, 6)
    else
     (m_unroll_start t).bind fun y4 =>
     (m_unroll_builder_free_o 0 [] y4.1 y4.2.1 y4.2.2.1 y4.2.2.2 [] (⟨(bE .i64 y3), (bE .i64 y3), (bf .i64 gv.W (bq .i64 2 y3)), (bf .i64 gv.H (bq .i64 2 y3))⟩ : Box)).bind fun y5 =>
     (b0 (b_unroll_Parents_1 gv y3 y4 y5) bl (0, [], y5.2.2, y5.2.1)).bind fun o => match o with
      | .inl r =>
       some r
      | .inr (mp, ab, l) =>
       (m_unroll_builder_large_o ab l y4.1 y4.2.1 y4.2.2.1 y4.2.2.2 mp).bind fun y6 =>
       (bif y6 then
        some ((⟨0, []⟩ : Aw), 0, 6)
       else
        some ((⟨ab, l⟩ : Aw), y5.2.2, 0))))))
def m_unroll_Bits_1 (cv : Cell) (a : Av) : Option (Bool) :=
 ((bif (ltB cv.X 0) then
  some true
 else
  (bif (geB cv.X a.W) then
   some true
  else
   (bif (ltB cv.Y 0) then
    some true
   else
    some (geB cv.Y a.H))))).bind fun a1 =>
 some a1
def b_slices_IndexFunc_api_Pattern_api_Cell_unroll_Bits_1_1 (s : List Cell) (cv : Av) (stt : Int) : Option (Lp (Int) (Int ⊕ Unit)) := match stt with
 | a =>
  (bif (ltB a (aY s)) then
   (idx s a).bind fun x =>
   (m_unroll_Bits_1 x cv).bind fun y =>
   (bif y then
    some (.out (.inl a))
   else
    some (.next (bf .i64 a 1)))
  else
   some (.out (.inr ())))
def m_slices_IndexFunc_api_Pattern_api_Cell_unroll_Bits_1 (s : List Cell) (cv : Av) : Option (Int) :=
 (b0 (b_slices_IndexFunc_api_Pattern_api_Cell_unroll_Bits_1_1 s cv) bl 0).bind fun o => match o with
  | .inl r =>
   some r
  | .inr _u =>
   some (-1)
def m_slices_ContainsFunc_api_Pattern_api_Cell_unroll_Bits_1 (s : List Cell) (cv : Av) : Option (Bool) :=
 (m_slices_IndexFunc_api_Pattern_api_Cell_unroll_Bits_1 s cv).bind fun y =>
 some (geB y 0)
def b_unroll_Bits_2 (x : Av) (_p : List Cell) (y2 _a1 : Int) (_out : List Bool) (x1 : Cell) (stt : Int × (List Bool)) : Option (Lp (Int × (List Bool)) ((List Bool))) := match stt with
 | (a2, aF) =>
  (bif (ltB a2 y2) then
   (ishr .i64 x1.S a2).bind fun n =>
   (idx aF (bf .i64 (bq .i64 (bf .i64 (bq .i64 x1.Y x.W) x1.X) y2) a2)).bind fun _x2 =>
   some (.next ((bf .i64 a2 1), (aF.set (bf .i64 (bq .i64 (bf .i64 (bq .i64 x1.Y x.W) x1.X) y2) a2).toNat (eqB (iand .i64 n 1) 1))))
  else
   some (.out aF))
def b_unroll_Bits_1 (x : Av) (p : List Cell) (y2 : Int) (stt : Int × (List Bool)) : Option (Lp (Int × (List Bool)) ((List Bool))) := match stt with
 | (a1, out) =>
  (bif (ltB a1 (aY p)) then
   (idx p a1).bind fun x1 =>
   (b0 (b_unroll_Bits_2 x p y2 a1 out x1) bl (0, out)).bind fun aF =>
   some (.next ((bf .i64 a1 1), aF))
  else
   some (.out out))
def m_unroll_Bits (t : Tree) (x : Av) (p : List Cell) : Option ((List Bool) × Int) :=
 (m_problem_Check t x).bind fun y =>
 (bif (neB y 0) then
  some ([], y)
 else
  ((m_pattern_Right p).bind fun y1 =>
  (bif (cr y1) then
   some true
  else
   (m_slices_ContainsFunc_api_Pattern_api_Cell_unroll_Bits_1 p x).bind fun y2 =>
   some y2)).bind fun a =>
  (bif a then
   some ([], 2)
  else
   (m_pattern_Top p).bind fun y1 =>
   (bif (geB y1 t.States) then
    some ([], 10)
   else
    (m_lower_Bits t.States).bind fun y2 =>
    (mkL 1 (bq .i64 (bq .i64 x.W x.H) y2) (bq .i64 (bq .i64 x.W x.H) y2) false).bind fun _l =>
    (b0 (b_unroll_Bits_1 x p y2) bl (0, (List.replicate (bq .i64 (bq .i64 x.W x.H) y2).toNat false))).bind fun out =>
    some (out, 0))))
def b_lower_State_1 (l : List Bool) (stt : Int × Int) : Option (Lp (Int × Int) (Int)) := match stt with
 | (n, a) =>
  (bif (ltB a (aY l)) then
   ((idx l a).bind fun x =>
   (bif x then
    (ishl .i64 1 a).bind fun n1 =>
    some (ior .i64 n n1)
   else
    some n)).bind fun n1 =>
   some (.next (n1, (bf .i64 a 1)))
  else
   some (.out n))
def m_lower_State (l : List Bool) : Option (Int) :=
 (bif (gtB (aY l) 8) then
  some 0
 else
  (b0 (b_lower_State_1 l) bl (0, 0)).bind fun n =>
  some n)
def b_unroll_Pattern_1 (t : Tree) (x : Av) (l : List Bool) (y1 : Int) (stt : Int × (List Cell)) : Option (Lp (Int × (List Cell)) (((List Cell) × Int) ⊕ (List Cell))) := match stt with
 | (a, out) =>
  (bif (ltB a (bq .i64 x.W x.H)) then
   (slcL l (bq .i64 a y1) (bq .i64 (bf .i64 a 1) y1)).bind fun l1 =>
   (m_lower_State l1).bind fun y2 =>
   (bif (geB y2 t.States) then
    some (.out (.inl ([], 10)))
   else
    (bif (gtB y2 0) then
     (irem a x.W).bind fun n =>
     (iquo .i64 a x.W).bind fun n1 =>
     (bR 24 out [(⟨n, n1, y2⟩ : Cell)]).bind fun _l2 =>
     some (.next ((bf .i64 a 1), (out ++ [(⟨n, n1, y2⟩ : Cell)])))
    else
     some (.next ((bf .i64 a 1), out))))
  else
   some (.out (.inr out)))
def m_unroll_Pattern (t : Tree) (x : Av) (l : List Bool) : Option ((List Cell) × Int) :=
 (m_problem_Check t x).bind fun y =>
 (bif (neB y 0) then
  some ([], y)
 else
  (m_lower_Bits t.States).bind fun y1 =>
  (bif (neB (aY l) (bq .i64 (bq .i64 x.W x.H) y1)) then
   some ([], 2)
  else
   (b0 (b_unroll_Pattern_1 t x l y1) bl (0, [])).bind fun o => match o with
    | .inl r =>
     some r
    | .inr out =>
     some (out, 0)))
def b_R41_Equal_2 (_a _b : Aw) (_i : Int) (x x1 : List Int) (stt : Int) : Option (Lp (Int) (Bool ⊕ Unit)) := match stt with
 | k =>
  (bif (ltB k (aY x)) then
   (idx x k).bind fun x2 =>
   (idx x1 k).bind fun x3 =>
   (bif (neB x2 x3) then
    some (.out (.inl false))
   else
    some (.next (bf .i64 k 1)))
  else
   some (.out (.inr ())))
def b_R41_Equal_1 (a b : Aw) (stt : Int) : Option (Lp (Int) (Bool ⊕ Unit)) := match stt with
 | i =>
  (bif (ltB i (aY a.Clauses)) then
   (idx a.Clauses i).bind fun x =>
   (idx b.Clauses i).bind fun x1 =>
   (bif (neB (aY x) (aY x1)) then
    some (.out (.inl false))
   else
    (b0 (b_R41_Equal_2 a b i x x1) bl 0).bind fun o => match o with
     | .inl r =>
      some (.out (.inl r))
     | .inr _u =>
      some (.next (bf .i64 i 1)))
  else
   some (.out (.inr ())))
def m_R41_Equal (a b : Aw) : Option (Bool) :=
 ((bif (neB a.Vars b.Vars) then
  some true
 else
  some (neB (aY a.Clauses) (aY b.Clauses)))).bind fun a1 =>
 (bif a1 then
  some false
 else
  (b0 (b_R41_Equal_1 a b) bl 0).bind fun o => match o with
   | .inl r =>
    some r
   | .inr _u =>
    some true)
def m_R05_order (a b : Int) : Option (Int) :=
 (bif (ltB a b) then
  some (-1)
 else
  (bif (gtB a b) then
   some 1
  else
   some 0))
def b_R05_Compare_1 (a b : List Cell) (stt : Int) : Option (Lp (Int) (Int ⊕ Unit)) := match stt with
 | i =>
  ((bif (ltB i (aY a)) then
   some (ltB i (aY b))
  else
   some false)).bind fun a1 =>
  (bif a1 then
   (idx a i).bind fun x =>
   (idx b i).bind fun x1 =>
   (bif (neB x.Y x1.Y) then
    (m_R05_order x.Y x1.Y).bind fun y =>
    some (.out (.inl y))
   else
    (bif (neB x.X x1.X) then
     (m_R05_order x.X x1.X).bind fun y =>
     some (.out (.inl y))
    else
     (bif (neB x.S x1.S) then
      (m_R05_order x.S x1.S).bind fun y =>
      some (.out (.inl y))
     else
      some (.next (bf .i64 i 1)))))
  else
   some (.out (.inr ())))
def m_R05_Compare (a b : List Cell) : Option (Int) :=
 (b0 (b_R05_Compare_1 a b) bl 0).bind fun o => match o with
  | .inl r =>
   some r
  | .inr _u =>
   (m_R05_order (aY a) (aY b)).bind fun y =>
   some y
def m_R05_Same (a b : List Cell) : Option (Bool) :=
 (m_R05_Compare a b).bind fun y =>
 some (eqB y 0)
def m_L45_alive : Option (Bool) :=
 (m_L45_keep).bind fun y =>
 (m_unroll_Formula y (⟨1, 1, 1, 0, 0, []⟩ : Av)).bind fun y1 =>
 (m_unroll_Parents y (⟨1, 1, 0, [1]⟩ : Grid)).bind fun y2 =>
 (m_unroll_Bits y (⟨1, 1, 1, 0, 0, []⟩ : Av) [(⟨0, 0, 1⟩ : Cell)]).bind fun y3 =>
 (m_unroll_Pattern y (⟨1, 1, 1, 0, 0, []⟩ : Av) [true]).bind fun y4 =>
 (m_unroll_Formula (⟨0, [], []⟩ : Tree) (⟨1, 1, 1, 0, 0, []⟩ : Av)).bind fun y5 =>
 ((bif (eqB y1.2.2 0) then
  (bif (eqB y1.2.1 1) then
   (m_R41_Equal y1.1 (⟨2, [[1, (-2)], [(-1), 2], [(-2), 1], [2, (-1)]]⟩ : Aw)).bind fun y6 =>
   (bif y6 then
    (bif (eqB y2.2.2 0) then
     (bif (eqB y2.2.1 1) then
      (m_R41_Equal y2.1 (⟨2, [[1, (-2)], [(-1), 2], [2]]⟩ : Aw)).bind fun y7 =>
      (bif y7 then
       (bif (eqB y3.2 0) then
        (bif (eqB (aY y3.1) 1) then
         (idx y3.1 0).bind fun x =>
         (bif x then
          (bif (eqB y4.2 0) then
           (m_R05_Same y4.1 [(⟨0, 0, 1⟩ : Cell)]).bind fun y8 =>
           (bif y8 then
            some (eqB y5.2.2 11)
           else
            some false)
          else
           some false)
         else
          some false)
        else
         some false)
       else
        some false)
      else
       some false)
     else
      some false)
    else
     some false)
   else
    some false)
  else
   some false)
 else
  some false)).bind fun a =>
 some a
def m_R07_before (a b : Point) : Option (Bool) :=
 ((bif (ltB a.Y b.Y) then
  some true
 else
  (bif (eqB a.Y b.Y) then
   some (ltB a.X b.X)
  else
   some false))).bind fun a1 =>
 some a1
def b_R07_Right_1 (l : List Point) (stt : Int) : Option (Lp (Int) (Bool ⊕ Unit)) := match stt with
 | i =>
  (bif (ltB i (aY l)) then
   (idx l i).bind fun x =>
   ((bif (ltB x.X (-2)) then
    some true
   else
    (bif (gtB x.X 2) then
     some true
    else
     (bif (ltB x.Y (-2)) then
      some true
     else
      (bif (gtB x.Y 2) then
       some true
      else
       (bif (gtB i 0) then
        (idx l (bF .i64 i 1)).bind fun x1 =>
        (m_R07_before x1 x).bind fun y =>
        some (cr y)
       else
        some false)))))).bind fun a1 =>
   (bif a1 then
    some (.out (.inl false))
   else
    some (.next (bf .i64 i 1)))
  else
   some (.out (.inr ())))
def m_R07_Right (l : List Point) : Option (Bool) :=
 ((bif (ltB (aY l) 1) then
  some true
 else
  some (gtB (aY l) 25))).bind fun a =>
 (bif a then
  some false
 else
  (b0 (b_R07_Right_1 l) bl 0).bind fun o => match o with
   | .inl r =>
    some r
   | .inr _u =>
    some true)
def b_R12_Right_2 (t : Tree) (i : Int) (x : Node) (stt : Int) : Option (Lp (Int) (Bool ⊕ Unit)) := match stt with
 | s =>
  (bif (ltB s t.States) then
   (idx x.Next s).bind fun x1 =>
   (bif (ltB x1 0) then
    some (.out (.inl false))
   else
    ((bif (eqB x.Level 1) then
     some (geB x1 t.States)
    else
     some false)).bind fun a2 =>
    (bif a2 then
     some (.out (.inl false))
    else
     ((bif (gtB x.Level 1) then
      (bif (geB x1 i) then
       some true
      else
       (idx t.Nodes x1).bind fun x2 =>
       some (neB x2.Level (bF .i64 x.Level 1)))
     else
      some false)).bind fun a3 =>
     (bif a3 then
      some (.out (.inl false))
     else
      some (.next (bf .i64 s 1)))))
  else
   some (.out (.inr ())))
def b_R12_Right_1 (t : Tree) (stt : Int) : Option (Lp (Int) (Bool ⊕ Unit)) := match stt with
 | i =>
  (bif (ltB i (aY t.Nodes)) then
   (idx t.Nodes i).bind fun x =>
   ((bif (ltB x.Level 1) then
    some true
   else
    (bif (gtB x.Level (aY t.Hood)) then
     some true
    else
     some (neB (aY x.Next) t.States)))).bind fun a1 =>
   (bif a1 then
    some (.out (.inl false))
   else
    (b0 (b_R12_Right_2 t i x) bl 0).bind fun o => match o with
     | .inl r =>
      some (.out (.inl r))
     | .inr _u =>
      some (.next (bf .i64 i 1)))
  else
   some (.out (.inr ())))
def m_R12_Right (t : Tree) : Option (Bool) :=
 ((bif (ltB t.States 2) then
  some true
 else
  (bif (gtB t.States 8) then
   some true
  else
   (m_R07_Right t.Hood).bind fun y =>
   (bif (cr y) then
    some true
   else
    (bif (ltB (aY t.Nodes) 1) then
     some true
    else
     some (gtB (aY t.Nodes) 4096)))))).bind fun a =>
 (bif a then
  some false
 else
  (b0 (b_R12_Right_1 t) bl 0).bind fun o => match o with
   | .inl r =>
    some r
   | .inr _u =>
    (idx t.Nodes (bF .i64 (aY t.Nodes) 1)).bind fun x =>
    some (eqB x.Level (aY t.Hood)))
def m_R21_Size (w hv aO : Int) : Option (Bool) :=
 ((bif (geB w 1) then
  (bif (leB w 256) then
   (bif (geB hv 1) then
    (bif (leB hv 256) then
     (bif (leB (bq .i64 w hv) 4096) then
      (bif (geB aO 0) then
       some (leB aO 2)
      else
       some false)
     else
      some false)
    else
     some false)
   else
    some false)
  else
   some false)
 else
  some false)).bind fun a =>
 some a
def b_R21_Right_1 (gv : Grid) (stt : Int) : Option (Lp (Int) (Bool ⊕ Unit)) := match stt with
 | i =>
  (bif (ltB i (aY gv.Cells)) then
   ((idx gv.Cells i).bind fun x =>
   (bif (ltB x 0) then
    some true
   else
    some (geB x 8))).bind fun a1 =>
   (bif a1 then
    some (.out (.inl false))
   else
    some (.next (bf .i64 i 1)))
  else
   some (.out (.inr ())))
def m_R21_Right (gv : Grid) : Option (Bool) :=
 ((m_R21_Size gv.W gv.H gv.Edge).bind fun y =>
 (bif (cr y) then
  some true
 else
  some (neB (aY gv.Cells) (bq .i64 gv.W gv.H)))).bind fun a =>
 (bif a then
  some false
 else
  (b0 (b_R21_Right_1 gv) bl 0).bind fun o => match o with
   | .inl r =>
    some r
   | .inr _u =>
    some true)
def m_R07_Abs (n : Int) : Option (Int) :=
 some (dt n (bE .i64 n))
def b_R07_Radius_1 (l : List Point) (stt : Int × Int) : Option (Lp (Int × Int) (Int)) := match stt with
 | (n, i) =>
  (bif (ltB i (aY l)) then
   (idx l i).bind fun x =>
   (m_R07_Abs x.X).bind fun y1 =>
   (m_R07_Abs x.Y).bind fun y2 =>
   some (.next ((dt (dt n y1) y2), (bf .i64 i 1)))
  else
   some (.out n))
def m_R07_Radius (l : List Point) : Option (Int) :=
 (m_R07_Right l).bind fun y =>
 (bif (cr y) then
  some 0
 else
  (b0 (b_R07_Radius_1 l) bl (0, 0)).bind fun n =>
  some n)
def b_R45_Check_1 (t : Tree) (gv : Grid) (stt : Int) : Option (Lp (Int) (Int ⊕ Unit)) := match stt with
 | i =>
  (bif (ltB i (aY gv.Cells)) then
   (idx gv.Cells i).bind fun x =>
   (bif (geB x t.States) then
    some (.out (.inl 10))
   else
    some (.next (bf .i64 i 1)))
  else
   some (.out (.inr ())))
def m_R45_Check (t : Tree) (gv : Grid) : Option (Int) :=
 (m_R12_Right t).bind fun y =>
 (bif (cr y) then
  some 11
 else
  (m_R21_Right gv).bind fun y1 =>
  (bif (cr y1) then
   some 2
  else
   (b0 (b_R45_Check_1 t gv) bl 0).bind fun o => match o with
    | .inl r =>
     some r
    | .inr _u =>
     (m_R07_Radius t.Hood).bind fun y2 =>
     (bif (gtB (bq .i64 (bf .i64 gv.W (bq .i64 2 y2)) (bf .i64 gv.H (bq .i64 2 y2))) 16) then
      some 6
     else
      some 0)))
def m_R18_Bits (states : Int) : Option (Int) :=
 (bif (eqB states 2) then
  some 1
 else
  ((bif (eqB states 3) then
   some true
  else
   some (eqB states 4))).bind fun a =>
  (bif a then
   some 2
  else
   ((bif (geB states 5) then
    some (leB states 8)
   else
    some false)).bind fun a1 =>
   (bif a1 then
    some 3
   else
    some 0)))
def m_R45_bit (n k : Int) : Option (Int) :=
 (ishr .i64 n (iconv .u64 k)).bind fun n1 =>
 some (iand .i64 n1 1)
def b_R45_against_1 (p : List Int) (cv : Int) (stt : Int × (List Int)) : Option (Lp (Int × (List Int)) ((List Int))) := match stt with
 | (jv, out) =>
  (bif (ltB jv (aY p)) then
   ((m_R45_bit cv jv).bind fun y =>
   (bif (eqB y 1) then
    (idx p jv).bind fun x =>
    (bR 8 out [(bE .i64 x)]).bind fun _l =>
    some (out ++ [(bE .i64 x)])
   else
    (idx p jv).bind fun x =>
    (bR 8 out [x]).bind fun _l =>
    some (out ++ [x]))).bind fun aF =>
   some (.next ((bf .i64 jv 1), aF))
  else
   some (.out out))
def m_R45_against (p : List Int) (cv : Int) : Option (List Int) :=
 (b0 (b_R45_against_1 p cv) bl (0, [])).bind fun out =>
 some out
def m_R45_clause_o_N (_aw : Int) (az : List (List Int)) (l : List Int) : Option (Unit) :=
 (bR 8 [] l).bind fun _l1 =>
 (bR 8 ([] ++ l) []).bind fun _l2 =>
 (bR 24 az [(([] ++ l) ++ [])]).bind fun _l3 =>
 some ()
def b_R45_cells_2 (_n _states y i : Int) (_l : List (List Int)) (_out : List Az) (stt : Int × (List Int)) : Option (Lp (Int × (List Int)) ((List Int))) := match stt with
 | (k, l1) =>
  (bif (leB k y) then
   (bR 8 l1 [(bf .i64 (bq .i64 i y) k)]).bind fun _l2 =>
   some (.next ((bf .i64 k 1), (l1 ++ [(bf .i64 (bq .i64 i y) k)])))
  else
   some (.out l1))
def b_R45_cells_3 (n _states y _i : Int) (_out : List Az) (l1 : List Int) (stt : Int × (List (List Int))) : Option (Lp (Int × (List (List Int))) ((List (List Int)))) := match stt with
 | (cv, l2) =>
  (ishl .i64 1 (iconv .u64 y)).bind fun n1 =>
  (bif (ltB cv n1) then
   (m_R45_against l1 cv).bind fun y1 =>
   (m_R45_clause_o_N (bq .i64 n y) l2 y1).bind fun _y2 =>
   some (.next ((bf .i64 cv 1), (l2 ++ [(([] ++ y1) ++ [])])))
  else
   some (.out l2))
def b_R45_cells_1 (n states y : Int) (stt : Int × (List (List Int)) × (List Az)) : Option (Lp (Int × (List (List Int)) × (List Az)) (((List (List Int)) × (List Az)))) := match stt with
 | (i, l, out) =>
  (bif (ltB i n) then
   (b0 (b_R45_cells_2 n states y i l out) bl (1, [])).bind fun l1 =>
   (b0 (b_R45_cells_3 n states y i out l1) bl (states, l)).bind fun l2 =>
   (bR 32 out [(⟨0, l1⟩ : Az)]).bind fun _l3 =>
   some (.next ((bf .i64 i 1), l2, (out ++ [(⟨0, l1⟩ : Az)])))
  else
   some (.out (l, out)))
def m_R45_cells (n states : Int) : Option (Int × (List Az) × (List (List Int))) :=
 (m_R18_Bits states).bind fun y =>
 (b0 (b_R45_cells_1 n states y) bl (0, [], [])).bind fun (l, out) =>
 some ((bq .i64 n y), out, l)
def b_R13_same_1 (a b : List Int) (stt : Int) : Option (Lp (Int) (Bool ⊕ Unit)) := match stt with
 | i =>
  (bif (ltB i (aY a)) then
   (idx a i).bind fun x =>
   (idx b i).bind fun x1 =>
   (bif (neB x x1) then
    some (.out (.inl false))
   else
    some (.next (bf .i64 i 1)))
  else
   some (.out (.inr ())))
def m_R13_same (a b : List Int) : Option (Bool) :=
 (bif (neB (aY a) (aY b)) then
  some false
 else
  (b0 (b_R13_same_1 a b) bl 0).bind fun o => match o with
   | .inl r =>
    some r
   | .inr _u =>
    some true)
def b_R13_classes_2 (l : List Node) (i : Int) (ak : List Int) (_nexts : List (List Int)) (stt : Int × (List Int)) : Option (Lp (Int × (List Int)) ((List Int))) := match stt with
 | (s, next) =>
  (idx l i).bind fun x =>
  (bif (ltB s (aY x.Next)) then
   (idx x.Next s).bind fun x1 =>
   ((bif (gtB x.Level 1) then
    (idx ak x1).bind fun x2 =>
    some x2
   else
    some x1)).bind fun k =>
   (bR 8 next [k]).bind fun _l1 =>
   some (.next ((bf .i64 s 1), (next ++ [k])))
  else
   some (.out next))
def b_R13_classes_3 (l : List Node) (i : Int) (_ak : List Int) (nexts : List (List Int)) (next : List Int) (stt : Int × Int) : Option (Lp (Int × Int) (Int)) := match stt with
 | (first, jv) =>
  (bif (geB jv 0) then
   (((idx l jv).bind fun x =>
   (idx l i).bind fun x1 =>
   (bif (eqB x.Level x1.Level) then
    (idx nexts jv).bind fun x2 =>
    (m_R13_same x2 next).bind fun y =>
    some y
   else
    some false)).bind fun a =>
   (bif a then
    some jv
   else
    some first)).bind fun first1 =>
   some (.next (first1, (bF .i64 jv 1)))
  else
   some (.out first))
def b_R13_classes_1 (l : List Node) (stt : Int × (List Int) × (List (List Int))) : Option (Lp (Int × (List Int) × (List (List Int))) ((List Int))) := match stt with
 | (i, ak, nexts) =>
  (bif (ltB i (aY l)) then
   (b0 (b_R13_classes_2 l i ak nexts) bl (0, [])).bind fun next =>
   (b0 (b_R13_classes_3 l i ak nexts next) bl (i, (bF .i64 i 1))).bind fun first =>
   (bR 8 ak [first]).bind fun _l1 =>
   (bR 24 nexts [next]).bind fun _l2 =>
   some (.next ((bf .i64 i 1), (ak ++ [first]), (nexts ++ [next])))
  else
   some (.out ak))
def m_R13_classes (l : List Node) : Option (List Int) :=
 (b0 (b_R13_classes_1 l) bl (0, [], [])).bind fun ak =>
 some ak
def b_R13_walk_o_o_1 (rcv : ((List Node) -> (List Int) -> Int -> (List Int) -> (List Node) -> Option ((List Int) × (List Node)))) (l : List Node) (ak : List Int) (i : Int) (_out : List Node) (x1 : Node) (stt : Int × (List Int) × (List Node) × (List Int)) : Option (Lp (Int × (List Int) × (List Node) × (List Int)) (((List Int) × (List Node) × (List Int)))) := match stt with
 | (s, l1, aF, aB) =>
  (idx l i).bind fun x2 =>
  (bif (ltB s (aY x2.Next)) then
   (idx x2.Next s).bind fun x3 =>
   ((bif (gtB x1.Level 1) then
    (idx ak x3).bind fun x4 =>
    (rcv l ak x4 aB aF).bind fun y =>
    (idx y.1 x4).bind fun x5 =>
    some (x5, y.2, y.1)
   else
    some (x3, aF, aB))).bind fun (k, out2, aM) =>
   (bR 8 l1 [k]).bind fun _l2 =>
   some (.next ((bf .i64 s 1), (l1 ++ [k]), out2, aM))
  else
   some (.out (l1, aF, aB)))
def mb_R13_walk_o_o (rcv : ((List Node) -> (List Int) -> Int -> (List Int) -> (List Node) -> Option ((List Int) × (List Node)))) (l : List Node) (ak : List Int) (i : Int) (done : List Int) (out : List Node) : Option ((List Int) × (List Node)) :=
 (idx done i).bind fun x =>
 (bif (geB x 0) then
  some (done, out)
 else
  (idx l i).bind fun x1 =>
  (b0 (b_R13_walk_o_o_1 rcv l ak i out x1) bl (0, [], out, done)).bind fun (l1, aF, aB) =>
  (idx aB i).bind fun _x2 =>
  (bR 32 aF [(⟨x1.Level, l1⟩ : Node)]).bind fun _l2 =>
  some ((aB.set i.toNat (aY aF)), (aF ++ [(⟨x1.Level, l1⟩ : Node)])))
def m_R13_walk_o_o (l : List Node) (ak : List Int) (i : Int) (done : List Int) (out : List Node) : Option ((List Int) × (List Node)) := recN mb_R13_walk_o_o (fun _ _ _ _ _ => none) recF l ak i done out
def b_R13_walk_o_N_1 (l : List Node) (ak : List Int) (i : Int) (x1 : Node) (stt : Int × (List Int) × (List Node) × (List Int)) : Option (Lp (Int × (List Int) × (List Node) × (List Int)) (((List Int) × (List Node) × (List Int)))) := match stt with
 | (s, l1, out, aB) =>
  (idx l i).bind fun x2 =>
  (bif (ltB s (aY x2.Next)) then
   (idx x2.Next s).bind fun x3 =>
   ((bif (gtB x1.Level 1) then
    (idx ak x3).bind fun x4 =>
    (m_R13_walk_o_o l ak x4 aB out).bind fun y =>
    (idx y.1 x4).bind fun x5 =>
    some (x5, y.2, y.1)
   else
    some (x3, out, aB))).bind fun (k, aF, aM) =>
   (bR 8 l1 [k]).bind fun _l2 =>
   some (.next ((bf .i64 s 1), (l1 ++ [k]), aF, aM))
  else
   some (.out (l1, out, aB)))
def mb_R13_walk_o_N (_rcv : ((List Node) -> (List Int) -> Int -> (List Int) -> Option ((List Int) × (List Node)))) (l : List Node) (ak : List Int) (i : Int) (done : List Int) : Option ((List Int) × (List Node)) :=
 (idx done i).bind fun x =>
 (bif (geB x 0) then
  some (done, [])
 else
  (idx l i).bind fun x1 =>
  (b0 (b_R13_walk_o_N_1 l ak i x1) bl (0, [], [], done)).bind fun (l1, out, aB) =>
  (idx aB i).bind fun _x2 =>
  (bR 32 out [(⟨x1.Level, l1⟩ : Node)]).bind fun _l2 =>
  some ((aB.set i.toNat (aY out)), (out ++ [(⟨x1.Level, l1⟩ : Node)])))
def m_R13_walk_o_N (l : List Node) (ak : List Int) (i : Int) (done : List Int) : Option ((List Int) × (List Node)) := recN mb_R13_walk_o_N (fun _ _ _ _ => none) recF l ak i done
def b_R13_reduced_1 (l : List Node) (_y : List Int) (stt : Int × (List Int)) : Option (Lp (Int × (List Int)) ((List Int))) := match stt with
 | (i, done) =>
  (bif (ltB i (aY l)) then
   (bR 8 done [(-1)]).bind fun _l1 =>
   some (.next ((bf .i64 i 1), (done ++ [(-1)])))
  else
   some (.out done))
def m_R13_reduced (l : List Node) : Option (List Node) :=
 (m_R13_classes l).bind fun y =>
 (b0 (b_R13_reduced_1 l y) bl (0, [])).bind fun done =>
 (idx y (bF .i64 (aY l) 1)).bind fun x =>
 (m_R13_walk_o_N l y x done).bind fun y1 =>
 some y1.2
def m_R13_Reduce (t : Tree) : Option (Tree) :=
 (m_R12_Right t).bind fun y =>
 (bif (cr y) then
  some (⟨0, [], []⟩ : Tree)
 else
  (m_R13_reduced t.Nodes).bind fun y1 =>
  some (⟨t.States, t.Hood, y1⟩ : Tree))
def m_R45_fits (f : Aw) : Option (Bool) :=
 ((bif (leB f.Vars 65536) then
  some (leB (aY f.Clauses) 262144)
 else
  some false)).bind fun a =>
 some a
def b_R45_equal_1 (l : List Int) (stt : Int) : Option (Lp (Int) (Bool ⊕ Unit)) := match stt with
 | i =>
  (bif (ltB i (aY l)) then
   (idx l i).bind fun x =>
   (idx l 0).bind fun x1 =>
   (bif (neB x x1) then
    some (.out (.inl false))
   else
    some (.next (bf .i64 i 1)))
  else
   some (.out (.inr ())))
def m_R45_equal (l : List Int) : Option (Bool) :=
 (b0 (b_R45_equal_1 l) bl 1).bind fun o => match o with
  | .inl r =>
   some r
  | .inr _u =>
   some true
def m_R45_clause_o (_aw : Int) (az : List (List Int)) (l more : List Int) : Option (Unit) :=
 (bR 8 [] l).bind fun _l1 =>
 (bR 8 ([] ++ l) more).bind fun _l2 =>
 (bR 24 az [(([] ++ l) ++ more)]).bind fun _l3 =>
 some ()
def b_R45_tree_o_o_2 (t : Tree) (_in_ : List Az) (_y _i _aA : Int) (_l : List (List Int)) (of_ : List Az) (x : Node) (stt : Int × (List Az)) : Option (Lp (Int × (List Az)) ((List Az))) := match stt with
 | (s, kids) =>
  (bif (ltB s t.States) then
   ((bif (eqB x.Level 1) then
    (idx x.Next s).bind fun x1 =>
    (bR 32 kids [(⟨x1, []⟩ : Az)]).bind fun _l1 =>
    some (kids ++ [(⟨x1, []⟩ : Az)])
   else
    (idx x.Next s).bind fun x1 =>
    (idx of_ x1).bind fun x2 =>
    (bR 32 kids [x2]).bind fun _l1 =>
    some (kids ++ [x2]))).bind fun kids1 =>
   some (.next ((bf .i64 s 1), kids1))
  else
   some (.out kids))
def b_R45_tree_o_o_3 (_t : Tree) (_in_ : List Az) (y _i : Int) (_l : List (List Int)) (_of_ : List Az) (_x : Node) (_kids : List Az) (stt : Int × Int × (List Int)) : Option (Lp (Int × Int × (List Int)) ((Int × (List Int)))) := match stt with
 | (k, ay, l1) =>
  (bif (ltB k y) then
   (bR 8 l1 [(bf .i64 ay 1)]).bind fun _l2 =>
   some (.next ((bf .i64 k 1), (bf .i64 ay 1), (l1 ++ [(bf .i64 ay 1)])))
  else
   some (.out (ay, l1)))
def b_R45_tree_o_o_5 (_t : Tree) (_in_ : List Az) (y _i : Int) (_of_ : List Az) (_x : Node) (kids : List Az) (ay : Int) (l1 : List Int) (s : Int) (y2 : List Int) (stt : Int × (List (List Int))) : Option (Lp (Int × (List (List Int))) ((List (List Int)))) := match stt with
 | (k, l4) =>
  (bif (ltB k y) then
   ((idx kids s).bind fun x2 =>
   (bif (gtB (aY x2.Vars) 0) then
    (idx l1 k).bind fun x3 =>
    (idx x2.Vars k).bind fun x4 =>
    (m_R45_clause_o ay l4 y2 [(bE .i64 x3), x4]).bind fun _y3 =>
    (m_R45_clause_o ay (l4 ++ [(([] ++ y2) ++ [(bE .i64 x3), x4])]) y2 [x3, (bE .i64 x4)]).bind fun _y4 =>
    some ((l4 ++ [(([] ++ y2) ++ [(bE .i64 x3), x4])]) ++ [(([] ++ y2) ++ [x3, (bE .i64 x4)])])
   else
    (m_R45_bit x2.State k).bind fun y3 =>
    (bif (eqB y3 1) then
     (idx l1 k).bind fun x3 =>
     (m_R45_clause_o ay l4 y2 [x3]).bind fun _y4 =>
     some (l4 ++ [(([] ++ y2) ++ [x3])])
    else
     (idx l1 k).bind fun x3 =>
     (m_R45_clause_o ay l4 y2 [(bE .i64 x3)]).bind fun _y4 =>
     some (l4 ++ [(([] ++ y2) ++ [(bE .i64 x3)])])))).bind fun l5 =>
   some (.next ((bf .i64 k 1), l5))
  else
   some (.out l4))
def b_R45_tree_o_o_4 (t : Tree) (in_ : List Az) (y i : Int) (of_ : List Az) (x : Node) (kids : List Az) (ay : Int) (l1 : List Int) (stt : Int × (List (List Int))) : Option (Lp (Int × (List (List Int))) ((List (List Int)))) := match stt with
 | (s, l3) =>
  (bif (ltB s t.States) then
   (idx in_ (bF .i64 (aY t.Hood) x.Level)).bind fun x1 =>
   (m_R45_against x1.Vars s).bind fun y2 =>
   (b0 (b_R45_tree_o_o_5 t in_ y i of_ x kids ay l1 s y2) bl (0, l3)).bind fun l4 =>
   some (.next ((bf .i64 s 1), l4))
  else
   some (.out l3))
def b_R45_tree_o_o_1 (t : Tree) (in_ : List Az) (y : Int) (stt : Int × Int × (List (List Int)) × (List Az)) : Option (Lp (Int × Int × (List (List Int)) × (List Az)) ((Int × (List (List Int)) × (List Az)))) := match stt with
 | (i, aA, l, of_) =>
  ((bif (ltB i (aY t.Nodes)) then
   (m_R45_fits (⟨aA, l⟩ : Aw)).bind fun y1 =>
   some y1
  else
   some false)).bind fun a =>
  (bif a then
   (idx t.Nodes i).bind fun x =>
   (b0 (b_R45_tree_o_o_2 t in_ y i aA l of_ x) bl (0, [])).bind fun kids =>
   (m_R45_equal x.Next).bind fun y1 =>
   (bif y1 then
    (idx kids 0).bind fun x1 =>
    (bR 32 of_ [x1]).bind fun _l1 =>
    some (.next ((bf .i64 i 1), aA, l, (of_ ++ [x1])))
   else
    (b0 (b_R45_tree_o_o_3 t in_ y i l of_ x kids) bl (0, aA, [])).bind fun (ay, l1) =>
    (bR 32 of_ [(⟨0, l1⟩ : Az)]).bind fun _l2 =>
    (b0 (b_R45_tree_o_o_4 t in_ y i of_ x kids ay l1) bl (0, l)).bind fun l3 =>
    some (.next ((bf .i64 i 1), ay, l3, (of_ ++ [(⟨0, l1⟩ : Az)]))))
  else
   some (.out (aA, l, of_)))
def m_R45_tree_o_o (aw : Int) (az : List (List Int)) (t : Tree) (in_ : List Az) : Option (Int × Int × (List Int) × (List (List Int))) :=
 (m_R18_Bits t.States).bind fun y =>
 (b0 (b_R45_tree_o_o_1 t in_ y) bl (0, aw, az, [])).bind fun (aA, l, of_) =>
 (m_R45_fits (⟨aA, l⟩ : Aw)).bind fun y1 =>
 (bif (cr y1) then
  some (aA, 0, [], l)
 else
  (idx of_ (bF .i64 (aY of_) 1)).bind fun x =>
  some (aA, x.State, x.Vars, l))
def b_R45_fix_o_1 (aw : Int) (l : List Int) (n : Int) (stt : Int × (List (List Int))) : Option (Lp (Int × (List (List Int))) ((List (List Int)))) := match stt with
 | (k, l1) =>
  (bif (ltB k (aY l)) then
   ((m_R45_bit n k).bind fun y =>
   (bif (eqB y 1) then
    (idx l k).bind fun x =>
    (m_R45_clause_o_N aw l1 [x]).bind fun _y1 =>
    some (l1 ++ [(([] ++ [x]) ++ [])])
   else
    (idx l k).bind fun x =>
    (m_R45_clause_o_N aw l1 [(bE .i64 x)]).bind fun _y1 =>
    some (l1 ++ [(([] ++ [(bE .i64 x)]) ++ [])]))).bind fun l2 =>
   some (.next ((bf .i64 k 1), l2))
  else
   some (.out l1))
def m_R45_fix_o (aw : Int) (az : List (List Int)) (l : List Int) (n : Int) : Option (List (List Int)) :=
 (b0 (b_R45_fix_o_1 aw l n) bl (0, az)).bind fun l1 =>
 some l1
def m_R45_clause_o_N_N (_aw : Int) (az : List (List Int)) : Option (Unit) :=
 (bR 8 ([] : List Int) []).bind fun _l =>
 (bR 8 (([] : List Int) ++ []) []).bind fun _l1 =>
 (bR 24 az [((([] : List Int) ++ []) ++ [])]).bind fun _l2 =>
 some ()
def b_R45_Parents_2 (gv : Grid) (y1 : Int) (y2 : Int × (List Az) × (List (List Int))) (y3 : Tree) (_i _aw : Int) (_l : List (List Int)) (n n1 : Int) (stt : Int × (List Az)) : Option (Lp (Int × (List Az)) ((List Az))) := match stt with
 | (k, in_) =>
  (bif (ltB k (aY y3.Hood)) then
   (idx y3.Hood k).bind fun x =>
   (idx y2.2.1 (bf .i64 (bf .i64 (bq .i64 (bf .i64 (bf .i64 n1 y1) x.Y) (bf .i64 gv.W (bq .i64 2 y1))) (bf .i64 n y1)) x.X)).bind fun x1 =>
   (bR 32 in_ [x1]).bind fun _l1 =>
   some (.next ((bf .i64 k 1), (in_ ++ [x1])))
  else
   some (.out in_))
def b_R45_Parents_1 (gv : Grid) (y1 : Int) (y2 : Int × (List Az) × (List (List Int))) (y3 : Tree) (stt : Int × Int × (List (List Int))) : Option (Lp (Int × Int × (List (List Int))) ((Int × (List (List Int))))) := match stt with
 | (i, aw, l) =>
  ((bif (ltB i (aY gv.Cells)) then
   (m_R45_fits (⟨aw, l⟩ : Aw)).bind fun y4 =>
   some y4
  else
   some false)).bind fun a =>
  (bif a then
   (irem i gv.W).bind fun n =>
   (iquo .i64 i gv.W).bind fun n1 =>
   (b0 (b_R45_Parents_2 gv y1 y2 y3 i aw l n n1) bl (0, [])).bind fun in_ =>
   (m_R45_tree_o_o aw l y3 in_).bind fun y4 =>
   (bif (gtB (aY y4.2.2.1) 0) then
    (idx gv.Cells i).bind fun x =>
    (m_R45_fix_o y4.1 y4.2.2.2 y4.2.2.1 x).bind fun y5 =>
    some (.next ((bf .i64 i 1), y4.1, y5))
   else
    (idx gv.Cells i).bind fun x =>
    (bif (neB y4.2.1 x) then
     (m_R45_clause_o_N_N y4.1 y4.2.2.2).bind fun _y5 =>
     some (.next ((bf .i64 i 1), y4.1, (y4.2.2.2 ++ [((([] : List Int) ++ []) ++ [])])))
    else
     some (.next ((bf .i64 i 1), y4.1, y4.2.2.2))))
  else
   some (.out (aw, l)))
def m_R45_Parents (t : Tree) (gv : Grid) : Option (Aw × Int × Int) :=
 (m_R45_Check t gv).bind fun y =>
 (bif (neB y 0) then
  some ((⟨0, []⟩ : Aw), 0, y)
 else
  (m_R07_Radius t.Hood).bind fun y1 =>
  (m_R45_cells (bq .i64 (bf .i64 gv.W (bq .i64 2 y1)) (bf .i64 gv.H (bq .i64 2 y1))) t.States).bind fun y2 =>
  (m_R13_Reduce t).bind fun y3 =>
  (b0 (b_R45_Parents_1 gv y1 y2 y3) bl (0, y2.1, y2.2.2)).bind fun (aw, l) =>
  (m_R45_fits (⟨aw, l⟩ : Aw)).bind fun y4 =>
  (bif (cr y4) then
   some ((⟨0, []⟩ : Aw), 0, 6)
  else
   some ((⟨aw, l⟩ : Aw), y2.1, 0)))
def m_L45_UnrollParents (t : Tree) (gv : Grid) : Option (Bool) :=
 ((m_L45_Small t (⟨0, 0, 0, 0, 0, []⟩ : Av)).bind fun y =>
 (bif (cr y) then
  some true
 else
  some (gtB (aY gv.Cells) 5000))).bind fun a =>
 (bif a then
  (m_L45_alive).bind fun y =>
  some y
 else
  (m_unroll_Parents t gv).bind fun y =>
  (m_R45_Parents t gv).bind fun y1 =>
  ((m_R41_Equal y.1 y1.1).bind fun y2 =>
  (bif y2 then
   (bif (eqB y.2.1 y1.2.1) then
    (bif (eqB y.2.2 y1.2.2) then
     (m_L45_alive).bind fun y3 =>
     some y3
    else
     some false)
   else
    some false)
  else
   some false)).bind fun a1 =>
  some a1)
abbrev vI (n : Int) : V := .u (.one (.d (.int .i64 n)))
abbrev dI (n : Int) : C := .d (.int .i64 n)
abbrev vX (k : Nat) : V := .u (.one (.box k 0))
abbrev vO (k : Nat) : V := .u (.one (.own k))
abbrev dL (l : List Int) : C := .d (.sl 1 (List.map (rI .i64) l))
abbrev vT (b : Bool) : V := .u (.one (.d (.bool b)))
abbrev dR0 (l : List Cell) : C := .d (.sl 3 (List.map Cell.row l))
abbrev dR1 (l : List Node) : C := .d (.sl 2 (List.map Node.row l))
abbrev dR2 (l : List Point) : C := .d (.sl 2 (List.map Point.row l))
abbrev dR3 (l : List Az) : C := .d (.sl 2 (List.map Az.row l))
abbrev dR4 (l : List Ax) : C := .d (.sl 2 (List.map Ax.row l))
end Go.Proofs.YtjfjmdmdkbpdfaaGreatDoor
