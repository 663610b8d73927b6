/-
  The types of the program, as lists and numbers.
-/
import Derived.Test.YtgfhhbjnjccomaaGreatDoorAmGf
namespace Go.Proofs.YtgfhhbjnjccomaaGreatDoor
open Go.AM Go.Proofs
structure Point where
  X : Int
  Y : Int
  deriving DecidableEq, Inhabited
def Point.row (x : Point) : List L := [.int .i64 x.X, .int .i64 x.Y]
theorem Point.row_eq (x : Point) : x.row = [.int .i64 x.X, .int .i64 x.Y] := rfl
structure Node where
  Level : Int
  Next : List Int
  deriving DecidableEq, Inhabited
def Node.row (x : Node) : List L := [.int .i64 x.Level, .sl 1 (List.map (rI .i64) x.Next)]
theorem Node.row_eq (x : Node) : x.row = [.int .i64 x.Level, .sl 1 (List.map (rI .i64) x.Next)] := rfl
structure Tree where
  States : Int
  Hood : List Point
  Nodes : List Node
  deriving DecidableEq, Inhabited
def Tree.row (x : Tree) : List L := [.int .i64 x.States, .sl 2 (List.map Point.row x.Hood), .sl 2 (List.map Node.row x.Nodes)]
theorem Tree.row_eq (x : Tree) : x.row = [.int .i64 x.States, .sl 2 (List.map Point.row x.Hood), .sl 2 (List.map Node.row x.Nodes)] := rfl
structure Problem where
  W : Int
  H : Int
  Gens : Int
  DX : Int
  DY : Int
  Syms : List Int
  deriving DecidableEq, Inhabited
def Problem.row (x : Problem) : List L := [.int .i64 x.W, .int .i64 x.H, .int .i64 x.Gens, .int .i64 x.DX, .int .i64 x.DY, .sl 1 (List.map (rI .i64) x.Syms)]
theorem Problem.row_eq (x : Problem) : x.row = [.int .i64 x.W, .int .i64 x.H, .int .i64 x.Gens, .int .i64 x.DX, .int .i64 x.DY, .sl 1 (List.map (rI .i64) x.Syms)] := rfl
structure Formula where
  Vars : Int
  Clauses : List (List Int)
  deriving DecidableEq, Inhabited
def Formula.row (x : Formula) : List L := [.int .i64 x.Vars, .sl 1 (List.map (rS 1 (rI .i64)) x.Clauses)]
theorem Formula.row_eq (x : Formula) : x.row = [.int .i64 x.Vars, .sl 1 (List.map (rS 1 (rI .i64)) x.Clauses)] := rfl
structure Grid where
  W : Int
  H : Int
  Edge : Int
  Cells : List Int
  deriving DecidableEq, Inhabited
def Grid.row (x : Grid) : List L := [.int .i64 x.W, .int .i64 x.H, .int .i64 x.Edge, .sl 1 (List.map (rI .i64) x.Cells)]
theorem Grid.row_eq (x : Grid) : x.row = [.int .i64 x.W, .int .i64 x.H, .int .i64 x.Edge, .sl 1 (List.map (rI .i64) x.Cells)] := rfl
structure Cell where
  X : Int
  Y : Int
  S : Int
  deriving DecidableEq, Inhabited
def Cell.row (x : Cell) : List L := [.int .i64 x.X, .int .i64 x.Y, .int .i64 x.S]
theorem Cell.row_eq (x : Cell) : x.row = [.int .i64 x.X, .int .i64 x.Y, .int .i64 x.S] := rfl
structure Box where
  X : Int
  Y : Int
  W : Int
  H : Int
  deriving DecidableEq, Inhabited
def Box.row (x : Box) : List L := [.int .i64 x.X, .int .i64 x.Y, .int .i64 x.W, .int .i64 x.H]
theorem Box.row_eq (x : Box) : x.row = [.int .i64 x.X, .int .i64 x.Y, .int .i64 x.W, .int .i64 x.H] := rfl
structure unroll_value where
  constant : Int
  vars : List Int
  deriving DecidableEq, Inhabited
def unroll_value.row (x : unroll_value) : List L := [.int .i64 x.constant, .sl 1 (List.map (rI .i64) x.vars)]
theorem unroll_value.row_eq (x : unroll_value) : x.row = [.int .i64 x.constant, .sl 1 (List.map (rI .i64) x.vars)] := rfl
structure unroll_field where
  box : Box
  values : List unroll_value
  deriving DecidableEq, Inhabited
def unroll_field.row (x : unroll_field) : List L := [.int .i64 x.box.X, .int .i64 x.box.Y, .int .i64 x.box.W, .int .i64 x.box.H, .sl 2 (List.map unroll_value.row x.values)]
theorem unroll_field.row_eq (x : unroll_field) : x.row = [.int .i64 x.box.X, .int .i64 x.box.Y, .int .i64 x.box.W, .int .i64 x.box.H, .sl 2 (List.map unroll_value.row x.values)] := rfl
structure cellularref45_Value where
  State : Int
  Vars : List Int
  deriving DecidableEq, Inhabited
def cellularref45_Value.row (x : cellularref45_Value) : List L := [.int .i64 x.State, .sl 1 (List.map (rI .i64) x.Vars)]
theorem cellularref45_Value.row_eq (x : cellularref45_Value) : x.row = [.int .i64 x.State, .sl 1 (List.map (rI .i64) x.Vars)] := rfl
structure cellularref45_region where
  box : Box
  of_ : List cellularref45_Value
  deriving DecidableEq, Inhabited
def cellularref45_region.row (x : cellularref45_region) : List L := [.int .i64 x.box.X, .int .i64 x.box.Y, .int .i64 x.box.W, .int .i64 x.box.H, .sl 2 (List.map cellularref45_Value.row x.of_)]
theorem cellularref45_region.row_eq (x : cellularref45_region) : x.row = [.int .i64 x.box.X, .int .i64 x.box.Y, .int .i64 x.box.W, .int .i64 x.box.H, .sl 2 (List.map cellularref45_Value.row x.of_)] := rfl
structure cellularref20_field where
  flat : Bool
  box : Box
  cells : List Int
  list : List Cell
  deriving DecidableEq, Inhabited
def cellularref20_field.row (x : cellularref20_field) : List L := [.bool x.flat, .int .i64 x.box.X, .int .i64 x.box.Y, .int .i64 x.box.W, .int .i64 x.box.H, .sl 1 (List.map (rI .i64) x.cells), .sl 3 (List.map Cell.row x.list)]
theorem cellularref20_field.row_eq (x : cellularref20_field) : x.row = [.bool x.flat, .int .i64 x.box.X, .int .i64 x.box.Y, .int .i64 x.box.W, .int .i64 x.box.H, .sl 1 (List.map (rI .i64) x.cells), .sl 3 (List.map Cell.row x.list)] := rfl
attribute [simp] Point.row_eq Node.row_eq Tree.row_eq Problem.row_eq Formula.row_eq Grid.row_eq Cell.row_eq Box.row_eq unroll_value.row_eq unroll_field.row_eq cellularref45_Value.row_eq cellularref45_region.row_eq cellularref20_field.row_eq
end Go.Proofs.YtgfhhbjnjccomaaGreatDoor
