/- What is read of the text of a rule: plain, in the order of the reader's text. -/
import Derived.Test.YtnelecjjbmjhaaaGreatDoorRGoes
import Derived.Test.YtnelecjjbmjhaaaGreatDoorWMoB
import Derived.Test.YtnelecjjbmjhaaaGreatDoorRCiv2
import Derived.Test.YtnelecjjbmjhaaaGreatDoorWRuB
/- An instant, read: plain. -/
namespace Go.Proofs.YtnelecjjbmjhaaaGreatDoor
open Go.RowKit
set_option linter.unusedSimpArgs false
set_option linter.unusedVariables false

/-- May a byte stand at a place of an instant's text? -/
def stemB (k : Nat) (c : UInt8) : Bool := if k = 8 then decide (c = 84) else digitP c
/-- The first place at which something is wrong, and what; k: where l begins. -/
def wrongL : Nat → List UInt8 → Int × Int
  | k, [] => if k < 15 then ((k : Int), 2) else (0, 0)
  | k, c :: l => if 15 ≤ k then (0, 0) else if stemB k c = true then wrongL (k + 1) l else ((k : Int), 3)
/-- A day's number, counted from March. -/
def numC (y m d : Int) : Int := (if m ≤ 2 then y - 1 else y) / 400 * 146097 + ((if m ≤ 2 then y - 1 else y) % 400 * 365 + (if m ≤ 2 then y - 1 else y) % 400 / 4 - (if m ≤ 2 then y - 1 else y) % 400 / 100) + ((153 * ((m + 9) % 12) + 2) / 5 + d - 1) - 719468
def todC (h m s : Int) : Bool := decide (h < 24 ∧ m < 60 ∧ s < 60)
/-- An instant's parts, as they are written. -/
def yMP (l : List UInt8) : Int := numOf (l.take 4)
def moMP (l : List UInt8) : Int := numOf ((l.drop 4).take 2)
def dMP (l : List UInt8) : Int := numOf ((l.drop 6).take 2)
def hMP (l : List UInt8) : Int := numOf ((l.drop 9).take 2)
def miMP (l : List UInt8) : Int := numOf ((l.drop 11).take 2)
def sMP (l : List UInt8) : Int := numOf ((l.drop 13).take 2)
def momB (y m d h mi s : Int) : Bool := mayC y m d && todC h mi s && decide (0 ≤ numC y m d ∧ numC y m d < 146097)
def momI (y m d h mi s : Int) : Int := numC y m d * 86400 + (h * 3600 + mi * 60 + s)
/-- The instant of a text; where, and what, is wrong. -/
def momP (l : List UInt8) : Int × Int × Int :=
  if (wrongL 0 l).2 ≠ 0 then (0, (wrongL 0 l).1, (wrongL 0 l).2)
  else if momB (yMP l) (moMP l) (dMP l) (hMP l) (miMP l) (sMP l) = false then (0, 0, 4)
  else if l[15]? ≠ some 90 then (0, 15, 7)
  else if 16 < l.length then (0, 16, 7)
  else (momI (yMP l) (moMP l) (dMP l) (hMP l) (miMP l) (sMP l), 16, 0)
end Go.Proofs.YtnelecjjbmjhaaaGreatDoor

namespace Go.Proofs.YtnelecjjbmjhaaaGreatDoor
open Go.RowKit
set_option linter.unusedSimpArgs false
set_option linter.unusedVariables false

/-- A text that must stand there as a whole. -/
def rmustP (N : Nat) (t : List UInt8) (σ : PS) : PS := if (textP t σ).2 = true then (textP t σ).1 else lackP N (textP t σ).1
def goonB (c : UInt8) : Bool := decide (c ≠ 10 ∧ c ≠ 59)
def instP (N : Nat) (σ : PS) : PS × Int :=
  if doneP σ = true then (lackP N σ, 0)
  else ((textP (σ.l.takeWhile goonB) (failP (atP N σ + (momP (σ.l.takeWhile goonB)).2.1) (momP (σ.l.takeWhile goonB)).2.2 σ)).1, (momP (σ.l.takeWhile goonB)).1)
def rnumP (N most : Nat) (lo hi : Int) (σ : PS) : PS × Int :=
  let r := numP N most σ
  if r.2.2 = true ∧ (r.2.1 < lo ∨ hi < r.2.1) then (failP (atP N σ) 4 r.1, r.2.1) else (r.1, r.2.1)
def signP (N : Nat) (hi : Int) (σ : PS) : PS × Int :=
  let u := isP [45] σ
  if u.2 = true then ((rnumP N 2 1 hi u.1).1, -(rnumP N 2 1 hi u.1).2) else rnumP N 2 1 hi u.1
/-- A word, one of some: its place. -/
def oneP (N : Nat) (ws : List (List UInt8)) (σ : PS) : PS × Int :=
  let w := someP letterP σ
  if w.2 = [] then (lackP N w.1, 0)
  else if wIdx w.2 ws < 0 then (failP (atP N σ) 6 w.1, 0) else (w.1, wIdx w.2 ws)
def wdN : List (List UInt8) := [[77,79],[84,85],[87,69],[84,72],[70,82],[83,65],[83,85]]
def unN : List (List UInt8) := [[83,69,67,79,78,68,76,89],[77,73,78,85,84,69,76,89],[72,79,85,82,76,89],[68,65,73,76,89],[87,69,69,75,76,89],[77,79,78,84,72,76,89],[89,69,65,82,76,89]]
def signedB (c : Int) : Bool := decide (c = 45 ∨ (48 ≤ c ∧ c ≤ 57))
def rnthP (N : Nat) (σ : PS) : PS × (Int × Int) :=
  let u : PS × Int := if signedB (peekP σ) = true then signP N 53 σ else (σ, 0)
  ((oneP N wdN u.1).1, (u.2, (oneP N wdN u.1).2 + 1))
/-- Items, at most q + 1 of them. -/
def rlistP {α : Type} (N : Nat) (one : PS → PS × α) : Nat → PS → PS × List α
  | 0, σ => (if (isP [44] (one σ).1).2 = true then failP (atP N (one σ).1) 5 (isP [44] (one σ).1).1 else (isP [44] (one σ).1).1, [(one σ).2])
  | q + 1, σ => if (isP [44] (one σ).1).2 = true then ((rlistP N one q (isP [44] (one σ).1).1).1, (one σ).2 :: (rlistP N one q (isP [44] (one σ).1).1).2) else ((isP [44] (one σ).1).1, [(one σ).2])
def numsP (N : Nat) (lo hi : Int) (σ : PS) : PS × List Int := rlistP N (rnumP N 2 lo hi) 63 σ
def startP (N : Nat) (σ : PS) : PS := if 0 < (oneP N wdN σ).2 then failP (atP N σ) 9 (oneP N wdN σ).1 else (oneP N wdN σ).1
/-- The parts' names, in the order in which they are written. -/
def paN : List (List UInt8) := [[70,82,69,81],[73,78,84,69,82,86,65,76],[67,79,85,78,84],[85,78,84,73,76],[66,89,77,79,78,84,72],[66,89,77,79,78,84,72,68,65,89],[66,89,68,65,89],[66,89,72,79,85,82],[66,89,77,73,78,85,84,69],[66,89,83,69,67,79,78,68],[87,75,83,84]]
def paLeft : List (List UInt8) := [[66,89,83,69,84,80,79,83],[66,89,89,69,65,82,68,65,89],[66,89,87,69,69,75,78,79]]
/-- Part k is read. -/
def partK (N k : Nat) (r : RuV) (σ : PS) : PS × RuV :=
  if k = 0 then ((oneP N unN σ).1, { r with fr := (oneP N unN σ).2 })
  else if k = 1 then ((rnumP N 15 1 999999999999999 σ).1, { r with iv := (rnumP N 15 1 999999999999999 σ).2 })
  else if k = 2 then ((rnumP N 15 1 999999999999999 σ).1, { r with ct := (rnumP N 15 1 999999999999999 σ).2 })
  else if k = 3 then ((instP N σ).1, { r with un := (instP N σ).2 })
  else if k = 4 then ((numsP N 1 12 σ).1, { r with mo := (numsP N 1 12 σ).2 })
  else if k = 5 then ((rlistP N (signP N 31) 63 σ).1, { r with da := (rlistP N (signP N 31) 63 σ).2 })
  else if k = 6 then ((rlistP N (rnthP N) 63 σ).1, { r with wk := (rlistP N (rnthP N) 63 σ).2 })
  else if k = 7 then ((numsP N 0 23 σ).1, { r with ho := (numsP N 0 23 σ).2 })
  else if k = 8 then ((numsP N 0 59 σ).1, { r with mi := (numsP N 0 59 σ).2 })
  else if k = 9 then ((numsP N 0 59 σ).1, { r with se := (numsP N 0 59 σ).2 })
  else (startP N σ, r)
/-- How a reader of parts stands: the reader; the rule; which parts are there. -/
structure RS where
  σ : PS
  r : RuV
  T : List (List UInt8)
def partP (N : Nat) (S : RS) : RS :=
  let w := someP letterP S.σ
  if w.2 = [] then ⟨lackP N w.1, S.r, S.T⟩
  else if w.2 ∈ paLeft then ⟨failP (atP N S.σ) 9 w.1, S.r, S.T⟩
  else if wIdx w.2 paN < 0 then ⟨failP (atP N S.σ) 6 w.1, S.r, S.T⟩
  else if w.2 ∈ S.T then ⟨failP (atP N S.σ) 10 w.1, S.r, S.T⟩
  else
    let u := partK N (wIdx w.2 paN).toNat S.r (mustP N [61] w.1).1
    ⟨u.1, u.2, w.2 :: S.T⟩
/-- Parts; q: how many more there may be. -/
def partsP (N : Nat) : Nat → RS → RS
  | 0, S => ⟨(isP [59] (partP N S).σ).1, (partP N S).r, (partP N S).T⟩
  | q + 1, S => if (isP [59] (partP N S).σ).2 = true then partsP N q ⟨(isP [59] (partP N S).σ).1, (partP N S).r, (partP N S).T⟩ else ⟨(isP [59] (partP N S).σ).1, (partP N S).r, (partP N S).T⟩
def rpsNew (l : List UInt8) : PS := ⟨l, if 8192 < l.length then 8192 else 0, if 8192 < l.length then 5 else 0⟩
def ruNil : RuV := ⟨0, 0, 0, 0, 0, [], [], [], [], [], []⟩
def ruOne : RuV := ⟨0, 0, 1, 0, -1, [], [], [], [], [], []⟩
/-- What stands ahead of the parts. -/
def rheadP (N : Nat) (σ : PS) : PS × Int :=
  let s1 := rmustP N [68,84,83,84,65,82,84] σ
  let s2 := if peekP s1 = 59 then failP (atP N s1) 7 s1 else s1
  let i := instP N (mustP N [58] s2).1
  ((mustP N [58] (rmustP N [82,82,85,76,69] (mustP N [10] i.1).1)).1, i.2)
def rallP (l : List UInt8) : RS :=
  let N := l.length
  let h := rheadP N (rpsNew l)
  let S := partsP N N ⟨h.1, { ruOne with st := h.2 }, []⟩
  let e := endP N S.σ
  ⟨if paN[0] ∈ S.T then e else failP (N : Int) 11 e, S.r, S.T⟩
/-- What is read of a text: the rule; or where, and what, is wrong. -/
def rread (l : List UInt8) : Except (Int × Int) RuV :=
  let S := rallP l
  if S.σ.e ≠ 0 then .error (S.σ.a, S.σ.e)
  else if chkR S.r ≠ 0 then .error ((l.length : Int), chkR S.r) else .ok S.r
end Go.Proofs.YtnelecjjbmjhaaaGreatDoor
