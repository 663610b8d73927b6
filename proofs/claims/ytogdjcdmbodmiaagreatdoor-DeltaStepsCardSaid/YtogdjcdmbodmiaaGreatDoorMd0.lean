/- The types of the program, as lists and numbers. -/
import Derived.Test.YtogdjcdmbodmiaaGreatDoorAmSt
import Derived.Test.YtogdjcdmbodmiaaGreatDoorAmBs
namespace Go.Proofs.YtogdjcdmbodmiaaGreatDoor
open Go.AM Go.Proofs
structure Point where
 X : Int
 Y : Int
 deriving DecidableEq, Inhabited
def Point.row (x : Point) : List L := [.int .i64 x.X, .int .i64 x.Y]
theorem Point.row_eq (x : Point) : x.row = [.int .i64 x.X, .int .i64 x.Y] := rfl
theorem Point.rset (l : List Point) (i : Nat) (x0 : Int) (x1 : Int) : (List.map Point.row l).set i [.int .i64 x0, .int .i64 x1] = List.map Point.row (l.set i ⟨x0, x1⟩) := by rw [List.map_set]; rfl
def Point.key (x : Point) : Key := .ints [x.X, x.Y]
def Point.ints (x : Point) : List Int := [x.X, x.Y]
instance : KeyF Point.key := ⟨fun a b h => by unfold Point.key at h; cases a; cases b; injection h with h; simp only [List.cons.injEq, and_true] at h; simp only [Point.mk.injEq]; exact h⟩
structure Node where
 Level : Int
 Next : List Int
 deriving DecidableEq, Inhabited
def Node.row (x : Node) : List L := [.int .i64 x.Level, .sl 1 (List.map (rI .i64) x.Next)]
theorem Node.row_eq (x : Node) : x.row = [.int .i64 x.Level, .sl 1 (List.map (rI .i64) x.Next)] := rfl
structure Tree where
 States : Int
 Hood : List Point
 Nodes : List Node
 deriving DecidableEq, Inhabited
def Tree.row (x : Tree) : List L := [.int .i64 x.States, .sl 2 (List.map Point.row x.Hood), .sl 2 (List.map Node.row x.Nodes)]
theorem Tree.row_eq (x : Tree) : x.row = [.int .i64 x.States, .sl 2 (List.map Point.row x.Hood), .sl 2 (List.map Node.row x.Nodes)] := rfl
structure Totals where
 Hood : List Point
 States : Int
 Birth : List Int
 Survive : List Int
 deriving DecidableEq, Inhabited
def Totals.row (x : Totals) : List L := [.sl 2 (List.map Point.row x.Hood), .int .i64 x.States, .sl 1 (List.map (rI .i64) x.Birth), .sl 1 (List.map (rI .i64) x.Survive)]
theorem Totals.row_eq (x : Totals) : x.row = [.sl 2 (List.map Point.row x.Hood), .int .i64 x.States, .sl 1 (List.map (rI .i64) x.Birth), .sl 1 (List.map (rI .i64) x.Survive)] := rfl
structure Row where
 Ins : List Int
 Out : Int
 deriving DecidableEq, Inhabited
def Row.row (x : Row) : List L := [.sl 1 (List.map (rI .i64) x.Ins), .int .i64 x.Out]
theorem Row.row_eq (x : Row) : x.row = [.sl 1 (List.map (rI .i64) x.Ins), .int .i64 x.Out] := rfl
structure Table where
 States : Int
 Sym : Int
 Hood : List Point
 Vars : List (List Int)
 Rows : List Row
 deriving DecidableEq, Inhabited
def Table.row (x : Table) : List L := [.int .i64 x.States, .int .i64 x.Sym, .sl 2 (List.map Point.row x.Hood), .sl 1 (List.map (rS 1 (rI .i64)) x.Vars), .sl 2 (List.map Row.row x.Rows)]
theorem Table.row_eq (x : Table) : x.row = [.int .i64 x.States, .int .i64 x.Sym, .sl 2 (List.map Point.row x.Hood), .sl 1 (List.map (rS 1 (rI .i64)) x.Vars), .sl 2 (List.map Row.row x.Rows)] := rfl
structure Cell where
 X : Int
 Y : Int
 S : Int
 deriving DecidableEq, Inhabited
def Cell.row (x : Cell) : List L := [.int .i64 x.X, .int .i64 x.Y, .int .i64 x.S]
theorem Cell.row_eq (x : Cell) : x.row = [.int .i64 x.X, .int .i64 x.Y, .int .i64 x.S] := rfl
theorem Cell.rset (l : List Cell) (i : Nat) (x0 : Int) (x1 : Int) (x2 : Int) : (List.map Cell.row l).set i [.int .i64 x0, .int .i64 x1, .int .i64 x2] = List.map Cell.row (l.set i ⟨x0, x1, x2⟩) := by rw [List.map_set]; rfl
def Cell.key (x : Cell) : Key := .ints [x.X, x.Y, x.S]
def Cell.ints (x : Cell) : List Int := [x.X, x.Y, x.S]
instance : KeyF Cell.key := ⟨fun a b h => by unfold Cell.key at h; cases a; cases b; injection h with h; simp only [List.cons.injEq, and_true] at h; simp only [Cell.mk.injEq]; exact h⟩
structure Change where
 X : Int
 Y : Int
 From : Int
 To : Int
 deriving DecidableEq, Inhabited
def Change.row (x : Change) : List L := [.int .i64 x.X, .int .i64 x.Y, .int .i64 x.From, .int .i64 x.To]
theorem Change.row_eq (x : Change) : x.row = [.int .i64 x.X, .int .i64 x.Y, .int .i64 x.From, .int .i64 x.To] := rfl
theorem Change.rset (l : List Change) (i : Nat) (x0 : Int) (x1 : Int) (x2 : Int) (x3 : Int) : (List.map Change.row l).set i [.int .i64 x0, .int .i64 x1, .int .i64 x2, .int .i64 x3] = List.map Change.row (l.set i ⟨x0, x1, x2, x3⟩) := by rw [List.map_set]; rfl
def Change.key (x : Change) : Key := .ints [x.X, x.Y, x.From, x.To]
def Change.ints (x : Change) : List Int := [x.X, x.Y, x.From, x.To]
instance : KeyF Change.key := ⟨fun a b h => by unfold Change.key at h; cases a; cases b; injection h with h; simp only [List.cons.injEq, and_true] at h; simp only [Change.mk.injEq]; exact h⟩
structure totaltree_sum where
 ones : Int
 centre : Int
 deriving DecidableEq, Inhabited
def totaltree_sum.row (x : totaltree_sum) : List L := [.int .i64 x.ones, .int .i64 x.centre]
theorem totaltree_sum.row_eq (x : totaltree_sum) : x.row = [.int .i64 x.ones, .int .i64 x.centre] := rfl
theorem totaltree_sum.rset (l : List totaltree_sum) (i : Nat) (x0 : Int) (x1 : Int) : (List.map totaltree_sum.row l).set i [.int .i64 x0, .int .i64 x1] = List.map totaltree_sum.row (l.set i ⟨x0, x1⟩) := by rw [List.map_set]; rfl
def totaltree_sum.key (x : totaltree_sum) : Key := .ints [x.ones, x.centre]
def totaltree_sum.ints (x : totaltree_sum) : List Int := [x.ones, x.centre]
instance : KeyF totaltree_sum.key := ⟨fun a b h => by unfold totaltree_sum.key at h; cases a; cases b; injection h with h; simp only [List.cons.injEq, and_true] at h; simp only [totaltree_sum.mk.injEq]; exact h⟩
structure totaltree_place where
 at_ : Int
 s : totaltree_sum
 deriving DecidableEq, Inhabited
def totaltree_place.row (x : totaltree_place) : List L := [.int .i64 x.at_, .int .i64 x.s.ones, .int .i64 x.s.centre]
theorem totaltree_place.row_eq (x : totaltree_place) : x.row = [.int .i64 x.at_, .int .i64 x.s.ones, .int .i64 x.s.centre] := rfl
def totaltree_place.key (x : totaltree_place) : Key := .ints [x.at_, x.s.ones, x.s.centre]
def totaltree_place.ints (x : totaltree_place) : List Int := [x.at_, x.s.ones, x.s.centre]
instance : KeyF totaltree_place.key := ⟨fun a b h => by obtain ⟨a0, ⟨a1, a2⟩⟩ := a; obtain ⟨b0, ⟨b1, b2⟩⟩ := b; simp only [totaltree_place.key, Key.ints.injEq, List.cons.injEq, and_true] at h; obtain ⟨rfl, rfl, rfl⟩ := h; rfl⟩
structure totaltree_place190 where
 at_ : Int
 s : Int
 deriving DecidableEq, Inhabited
def totaltree_place190.row (x : totaltree_place190) : List L := [.int .i64 x.at_, .int .i64 x.s]
theorem totaltree_place190.row_eq (x : totaltree_place190) : x.row = [.int .i64 x.at_, .int .i64 x.s] := rfl
theorem totaltree_place190.rset (l : List totaltree_place190) (i : Nat) (x0 : Int) (x1 : Int) : (List.map totaltree_place190.row l).set i [.int .i64 x0, .int .i64 x1] = List.map totaltree_place190.row (l.set i ⟨x0, x1⟩) := by rw [List.map_set]; rfl
def totaltree_place190.key (x : totaltree_place190) : Key := .ints [x.at_, x.s]
def totaltree_place190.ints (x : totaltree_place190) : List Int := [x.at_, x.s]
instance : KeyF totaltree_place190.key := ⟨fun a b h => by unfold totaltree_place190.key at h; cases a; cases b; injection h with h; simp only [List.cons.injEq, and_true] at h; simp only [totaltree_place190.mk.injEq]; exact h⟩
attribute [simp] Point.row_eq Node.row_eq Tree.row_eq Totals.row_eq Row.row_eq Table.row_eq Cell.row_eq Change.row_eq totaltree_sum.row_eq totaltree_place.row_eq totaltree_place190.row_eq
end Go.Proofs.YtogdjcdmbodmiaaGreatDoor
