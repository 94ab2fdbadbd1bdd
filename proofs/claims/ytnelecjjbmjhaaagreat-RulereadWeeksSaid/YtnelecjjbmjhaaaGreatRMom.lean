/- An instant, read: plain. -/
import Derived.Test.YtnelecjjbmjhaaaGreatWPs
import Derived.Test.YtnelecjjbmjhaaaGreatWMoB
import Derived.Test.YtnelecjjbmjhaaaGreatRCiv2
namespace Go.Proofs.YtnelecjjbmjhaaaGreat
open Go.RowKit
set_option linter.unusedSimpArgs false
set_option linter.unusedVariables false

/-- May a byte stand at a place of an instant's text? -/
def stemB (k : Nat) (c : UInt8) : Bool := if k = 8 then decide (c = 84) else digitP c
/-- The first place at which something is wrong, and what; k: where l begins. -/
def wrongL : Nat → List UInt8 → Int × Int
  | k, [] => if k < 15 then ((k : Int), 2) else (0, 0)
  | k, c :: l => if 15 ≤ k then (0, 0) else if stemB k c = true then wrongL (k + 1) l else ((k : Int), 3)
/-- A day's number, counted from March. -/
def numC (y m d : Int) : Int := (if m ≤ 2 then y - 1 else y) / 400 * 146097 + ((if m ≤ 2 then y - 1 else y) % 400 * 365 + (if m ≤ 2 then y - 1 else y) % 400 / 4 - (if m ≤ 2 then y - 1 else y) % 400 / 100) + ((153 * ((m + 9) % 12) + 2) / 5 + d - 1) - 719468
def todC (h m s : Int) : Bool := decide (h < 24 ∧ m < 60 ∧ s < 60)
/-- An instant's parts, as they are written. -/
def yMP (l : List UInt8) : Int := numOf (l.take 4)
def moMP (l : List UInt8) : Int := numOf ((l.drop 4).take 2)
def dMP (l : List UInt8) : Int := numOf ((l.drop 6).take 2)
def hMP (l : List UInt8) : Int := numOf ((l.drop 9).take 2)
def miMP (l : List UInt8) : Int := numOf ((l.drop 11).take 2)
def sMP (l : List UInt8) : Int := numOf ((l.drop 13).take 2)
def momB (y m d h mi s : Int) : Bool := mayC y m d && todC h mi s && decide (0 ≤ numC y m d ∧ numC y m d < 146097)
def momI (y m d h mi s : Int) : Int := numC y m d * 86400 + (h * 3600 + mi * 60 + s)
/-- The instant of a text; where, and what, is wrong. -/
def momP (l : List UInt8) : Int × Int × Int :=
  if (wrongL 0 l).2 ≠ 0 then (0, (wrongL 0 l).1, (wrongL 0 l).2)
  else if momB (yMP l) (moMP l) (dMP l) (hMP l) (miMP l) (sMP l) = false then (0, 0, 4)
  else if l[15]? ≠ some 90 then (0, 15, 7)
  else if 16 < l.length then (0, 16, 7)
  else (momI (yMP l) (moMP l) (dMP l) (hMP l) (miMP l) (sMP l), 16, 0)
end Go.Proofs.YtnelecjjbmjhaaaGreat
