/- What is read of the text of an event: plain, in the order of the reader's text. -/
import Derived.Test.YtnelecjjbmjhaaaGreatDoorRGoes
namespace Go.Proofs.YtnelecjjbmjhaaaGreatDoor
open Go.RowKit
set_option linter.unusedSimpArgs false
set_option linter.unusedVariables false

/-- A calendar event: its lists, and from which end its days are counted. -/
structure CalV where
  week : List It
  year : List It
  month : List It
  day : List It
  back : Bool
  hour : List It
  minute : List It
  second : List It
def calNil : CalV := ⟨[], [], [], [], false, [], [], []⟩
def kLo (f : Int) : Int := if f = 0 then 1 else if f = 1 then 1970 else if f = 2 then 1 else if f = 3 then 1 else 0
def kHi (f : Int) : Int := if f = 0 then 7 else if f = 1 then 2369 else if f = 2 then 12 else if f = 3 then 31 else if f = 4 then 23 else if f = 5 then 59 else if f = 6 then 59 else 0
def wkN : List (List UInt8) := [[109,111,110],[116,117,101],[119,101,100],[116,104,117],[102,114,105],[115,97,116],[115,117,110]]
/-- The weekday of a name; 0: there is none. -/
def wkOf (w : List UInt8) : Int := wIdx (lowerL w) wkN + 1
def wkP (N : Nat) (σ : PS) : PS × Int :=
  if (someP letterP σ).2 = [] then ((mustP N [77] (someP letterP σ).1).1, 0)
  else if wkOf (someP letterP σ).2 = 0 then (failP (atP N σ) 6 (someP letterP σ).1, 0) else ((someP letterP σ).1, wkOf (someP letterP σ).2)
def dots : List UInt8 := [46, 46]
def daysP (N : Nat) (σ : PS) : PS × It :=
  let r1 := wkP N σ
  let t := textP dots r1.1
  if t.2 then
    let r3 := wkP N t.1
    (if r3.2 < r1.2 then failP (atP N t.1) 4 r3.1 else r3.1, ⟨2, r1.2, r3.2, 1⟩)
  else (t.1, ⟨1, r1.2, 0, 0⟩)
def digs (f : Int) : Nat := if f = 1 then 4 else 2
def knumP (N : Nat) (f : Int) (σ : PS) : PS × Int :=
  let r := numP N (digs f) σ
  if r.2.2 = true ∧ (r.2.1 < kLo f ∨ kHi f < r.2.1) then (failP (atP N σ) 4 r.1, r.2.1) else (r.1, r.2.1)
def subP (N : Nat) (f : Int) (σ : PS) : PS := if f = 6 ∧ peekP σ = 46 ∧ ¬ dots <+: σ.l then failP (atP N σ) 8 σ else σ
/-- An item, or a range of them. -/
def kheadP (N : Nat) (f : Int) (σ : PS) : PS × It :=
  let r1 := knumP N f σ
  let t := textP dots (subP N f r1.1)
  if t.2 then
    let r3 := knumP N f t.1
    (subP N f (if r3.2 < r1.2 then failP (atP N t.1) 4 r3.1 else r3.1), ⟨2, r1.2, r3.2, 1⟩)
  else (t.1, ⟨1, r1.2, 0, 0⟩)
def kitemP (N : Nat) (f : Int) (σ : PS) : PS × It :=
  let q := kheadP N f σ
  let u := isP [47] q.1
  if u.2 then
    let v := numP N 3 u.1
    (if v.2.2 = true ∧ v.2.1 = 0 then failP (atP N u.1) 4 v.1 else v.1, ⟨if q.2.k = 1 then 3 else q.2.k, q.2.f, q.2.t, v.2.1⟩)
  else (u.1, q.2)
/-- Items, at most q + 1 of them. -/
def klistP (N : Nat) (one : PS → PS × It) : Nat → PS → PS × List It
  | 0, σ => (if (isP [44] (one σ).1).2 then failP (atP N (one σ).1) 5 (isP [44] (one σ).1).1 else (isP [44] (one σ).1).1, [(one σ).2])
  | q + 1, σ => if (isP [44] (one σ).1).2 then ((klistP N one q (isP [44] (one σ).1).1).1, (one σ).2 :: (klistP N one q (isP [44] (one σ).1).1).2) else ((isP [44] (one σ).1).1, [(one σ).2])
def kMost (f : Int) : Nat := if f = 1 then 400 else 64
def kfieldP (N : Nat) (f : Int) (σ : PS) : PS × List It :=
  if (isP [42] σ).2 then ((isP [42] σ).1, [⟨0, 0, 0, 1⟩]) else klistP N (kitemP N f) (kMost f - 1) (isP [42] σ).1
/-- The word that begins where it stands. -/
def wordP (σ : PS) : List UInt8 := if σ.e = 0 then σ.l.takeWhile (fun c => decide (c ≠ 32)) else []
def dashes (l : List UInt8) : Nat := l.count 45 + l.count 126
def kdateP (N : Nat) (c : CalV) (σ : PS) : PS × CalV :=
  let y : PS × CalV := if 1 < dashes (wordP σ) then
      ((mustP N [45] (kfieldP N 1 σ).1).1, { c with year := (kfieldP N 1 σ).2 })
    else (σ, c)
  let m := kfieldP N 2 y.1
  let b := mustP N [45, 126] m.1
  let d := kfieldP N 3 b.1
  (d.1, { y.2 with month := m.2, back := decide (b.2 = 126), day := d.2 })
def ktimeP (N : Nat) (c : CalV) (σ : PS) : PS × CalV :=
  let h := kfieldP N 4 σ
  let m := kfieldP N 5 (mustP N [58] h.1).1
  let i := isP [58] m.1
  if i.2 then ((kfieldP N 6 i.1).1, { c with hour := h.2, minute := m.2, second := (kfieldP N 6 i.1).2 })
  else (i.1, { c with hour := h.2, minute := m.2 })
/-- The blank behind a word; false: it is the end. -/
def knextP (N : Nat) (σ : PS) : PS × Bool := if doneP σ then (σ, false) else ((mustP N [32] σ).1, true)
def ltrI (c : Int) : Bool := decide ((97 ≤ c ∧ c ≤ 122) ∨ (65 ≤ c ∧ c ≤ 90))
/-- What is wrong where no more word may be. -/
def kstopP (N : Nat) (σ : PS) : PS := if ltrI (peekP σ) then failP (atP N σ) 7 σ else if σ.l = [] then failP (atP N σ) 2 σ else failP (atP N σ) 3 σ
def dashed (l : List UInt8) : Bool := l.any (fun c => decide (c = 45 ∨ c = 126))
/-- The words behind the weekdays: a date, a time; q: how many more words there may be. -/
def kwordsP (N : Nat) : Nat → Bool → Bool → CalV → PS → PS × CalV
  | 0, _, _, c, σ => (kstopP N σ, c)
  | q + 1, date, time, c, σ =>
    if peekP σ = 0 ∨ ltrI (peekP σ) = true ∨ time = true ∨ (date = true ∧ dashed (wordP σ) = true) then (kstopP N σ, c)
    else if dashed (wordP σ) = true then
      if (knextP N (kdateP N c σ).1).2 then kwordsP N q true time (kdateP N c σ).2 (knextP N (kdateP N c σ).1).1 else ((knextP N (kdateP N c σ).1).1, (kdateP N c σ).2)
    else
      if (knextP N (ktimeP N c σ).1).2 then kwordsP N q date true (ktimeP N c σ).2 (knextP N (ktimeP N c σ).1).1 else ((knextP N (ktimeP N c σ).1).1, (ktimeP N c σ).2)
def kallP (N : Nat) (σ : PS) : PS × CalV :=
  if ltrI (peekP σ) = true then
    let w := klistP N (daysP N) 63 σ
    let n := knextP N w.1
    if n.2 then kwordsP N 2 false false { calNil with week := w.2 } n.1 else (n.1, { calNil with week := w.2 })
  else kwordsP N 2 false false calNil σ
def orL (l m : List It) : List It := if l = [] then m else l
def kfill (c : CalV) : CalV := ⟨c.week, orL c.year [⟨0, 0, 0, 1⟩], orL c.month [⟨0, 0, 0, 1⟩], orL c.day [⟨0, 0, 0, 1⟩], c.back, orL c.hour [⟨1, 0, 0, 0⟩], orL c.minute [⟨1, 0, 0, 0⟩], orL c.second [⟨1, 0, 0, 0⟩]⟩
/-- The words that are short for texts, and the texts. -/
def knicks : List (List UInt8 × List UInt8) := [
  ([109,105,110,117,116,101,108,121], [42,45,42,45,42,32,42,58,42,58,48,48]), ([104,111,117,114,108,121], [42,45,42,45,42,32,42,58,48,48,58,48,48]),
  ([100,97,105,108,121], [42,45,42,45,42,32,48,48,58,48,48,58,48,48]), ([119,101,101,107,108,121], [77,111,110,32,42,45,42,45,42,32,48,48,58,48,48,58,48,48]),
  ([109,111,110,116,104,108,121], [42,45,42,45,48,49,32,48,48,58,48,48,58,48,48]), ([113,117,97,114,116,101,114,108,121], [42,45,48,49,44,48,52,44,48,55,44,49,48,45,48,49,32,48,48,58,48,48,58,48,48]),
  ([115,101,109,105,97,110,110,117,97,108,108,121], [42,45,48,49,44,48,55,45,48,49,32,48,48,58,48,48,58,48,48]), ([121,101,97,114,108,121], [42,45,48,49,45,48,49,32,48,48,58,48,48,58,48,48]),
  ([97,110,110,117,97,108,108,121], [42,45,48,49,45,48,49,32,48,48,58,48,48,58,48,48])]
def knick (l : List UInt8) : List UInt8 := match knicks.find? (fun p => decide (lowerL l = p.1)) with | some p => p.2 | none => []
def kpsNew (l : List UInt8) : PS := ⟨l, if 8192 < l.length then 8192 else 0, if 8192 < l.length then 5 else 0⟩
/-- What is read of a text: the event; or where, and what, is wrong. -/
def kread (l : List UInt8) : Except (Int × Int) CalV :=
  let t := if knick l = [] then l else knick l
  let r := kallP t.length (kpsNew t)
  if r.1.e = 0 then .ok (kfill r.2) else .error (r.1.a, r.1.e)
end Go.Proofs.YtnelecjjbmjhaaaGreatDoor
