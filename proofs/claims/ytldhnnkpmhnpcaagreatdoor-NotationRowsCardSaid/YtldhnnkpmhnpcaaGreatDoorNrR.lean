/- NrR -/
import Derived.Test.YtldhnnkpmhnpcaaGreatDoorMdx1
namespace Go.Proofs.YtldhnnkpmhnpcaaGreatDoor
open Go.AM Go.Proofs
set_option maxRecDepth 100000
def nrR (number : Int) : Option (Bool) :=
 (m_L16_decimal (be .i64 number)).bind fun y =>
 (catS ([87] : List UInt8) y).bind fun s =>
 (m_notation_Parse s).bind fun y1 =>
 (m_wolfram_Mirror (be .i64 number)).bind fun y2 =>
 (m_wolfram_Elementary (be .i64 number)).bind fun y3 =>
 ((bif (neB y1.2 0) then
  some true
 else
  (bif (neB y2.2 0) then
   some true
  else
   some (neB y3.2 0)))).bind fun a =>
 (bif a then
  some false
 else
  (ah (b_L16_NotationRows_1 number y1 y2 y3) ak 0).bind fun o => match o with
   | .inl r =>
    some r
   | .inr _u =>
    ((bif (eqB y2.1 (be .i64 number)) then
     some [0, 2, 4, 6]
    else
     some [0, 6])).bind fun want =>
    ((m_notation_Syms y1.1).bind fun y4 =>
    (m_L12_Ints y4 want).bind fun y5 =>
    (bif y5 then
     (some true : Option Bool).bind fun y6 =>
     some y6
    else
     some false)).bind fun a1 =>
    some a1)
def nrB (j : Nat) : Bool := (List.range' (8 * j) 8).all fun k => nrR (Int.ofNat k) == some true
end Go.Proofs.YtldhnnkpmhnpcaaGreatDoor
