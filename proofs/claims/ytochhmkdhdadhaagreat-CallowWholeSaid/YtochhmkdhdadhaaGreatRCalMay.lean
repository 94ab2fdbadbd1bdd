/- What is read of the text of an event may be; of what is wrong the place lies in the text: plain. -/
import Derived.Test.YtochhmkdhdadhaaGreatRGoes
/- What is read of the text of an event: plain, in the order of the reader's text. -/
namespace Go.Proofs.YtochhmkdhdadhaaGreat
open Go.RowKit
set_option linter.unusedSimpArgs false
set_option linter.unusedVariables false

/-- A calendar event: its lists, and from which end its days are counted. -/
structure CalV where
  week : List It
  year : List It
  month : List It
  day : List It
  back : Bool
  hour : List It
  minute : List It
  second : List It
def calNil : CalV := ⟨[], [], [], [], false, [], [], []⟩
def kLo (f : Int) : Int := if f = 0 then 1 else if f = 1 then 1970 else if f = 2 then 1 else if f = 3 then 1 else 0
def kHi (f : Int) : Int := if f = 0 then 7 else if f = 1 then 2369 else if f = 2 then 12 else if f = 3 then 31 else if f = 4 then 23 else if f = 5 then 59 else if f = 6 then 59 else 0
def wkN : List (List UInt8) := [[109,111,110],[116,117,101],[119,101,100],[116,104,117],[102,114,105],[115,97,116],[115,117,110]]
/-- The weekday of a name; 0: there is none. -/
def wkOf (w : List UInt8) : Int := wIdx (lowerL w) wkN + 1
def wkP (N : Nat) (σ : PS) : PS × Int :=
  if (someP letterP σ).2 = [] then ((mustP N [77] (someP letterP σ).1).1, 0)
  else if wkOf (someP letterP σ).2 = 0 then (failP (atP N σ) 6 (someP letterP σ).1, 0) else ((someP letterP σ).1, wkOf (someP letterP σ).2)
def dots : List UInt8 := [46, 46]
def daysP (N : Nat) (σ : PS) : PS × It :=
  let r1 := wkP N σ
  let t := textP dots r1.1
  if t.2 then
    let r3 := wkP N t.1
    (if r3.2 < r1.2 then failP (atP N t.1) 4 r3.1 else r3.1, ⟨2, r1.2, r3.2, 1⟩)
  else (t.1, ⟨1, r1.2, 0, 0⟩)
def digs (f : Int) : Nat := if f = 1 then 4 else 2
def knumP (N : Nat) (f : Int) (σ : PS) : PS × Int :=
  let r := numP N (digs f) σ
  if r.2.2 = true ∧ (r.2.1 < kLo f ∨ kHi f < r.2.1) then (failP (atP N σ) 4 r.1, r.2.1) else (r.1, r.2.1)
def subP (N : Nat) (f : Int) (σ : PS) : PS := if f = 6 ∧ peekP σ = 46 ∧ ¬ dots <+: σ.l then failP (atP N σ) 8 σ else σ
/-- An item, or a range of them. -/
def kheadP (N : Nat) (f : Int) (σ : PS) : PS × It :=
  let r1 := knumP N f σ
  let t := textP dots (subP N f r1.1)
  if t.2 then
    let r3 := knumP N f t.1
    (subP N f (if r3.2 < r1.2 then failP (atP N t.1) 4 r3.1 else r3.1), ⟨2, r1.2, r3.2, 1⟩)
  else (t.1, ⟨1, r1.2, 0, 0⟩)
def kitemP (N : Nat) (f : Int) (σ : PS) : PS × It :=
  let q := kheadP N f σ
  let u := isP [47] q.1
  if u.2 then
    let v := numP N 3 u.1
    (if v.2.2 = true ∧ v.2.1 = 0 then failP (atP N u.1) 4 v.1 else v.1, ⟨if q.2.k = 1 then 3 else q.2.k, q.2.f, q.2.t, v.2.1⟩)
  else (u.1, q.2)
/-- Items, at most q + 1 of them. -/
def klistP (N : Nat) (one : PS → PS × It) : Nat → PS → PS × List It
  | 0, σ => (if (isP [44] (one σ).1).2 then failP (atP N (one σ).1) 5 (isP [44] (one σ).1).1 else (isP [44] (one σ).1).1, [(one σ).2])
  | q + 1, σ => if (isP [44] (one σ).1).2 then ((klistP N one q (isP [44] (one σ).1).1).1, (one σ).2 :: (klistP N one q (isP [44] (one σ).1).1).2) else ((isP [44] (one σ).1).1, [(one σ).2])
def kMost (f : Int) : Nat := if f = 1 then 400 else 64
def kfieldP (N : Nat) (f : Int) (σ : PS) : PS × List It :=
  if (isP [42] σ).2 then ((isP [42] σ).1, [⟨0, 0, 0, 1⟩]) else klistP N (kitemP N f) (kMost f - 1) (isP [42] σ).1
/-- The word that begins where it stands. -/
def wordP (σ : PS) : List UInt8 := if σ.e = 0 then σ.l.takeWhile (fun c => decide (c ≠ 32)) else []
def dashes (l : List UInt8) : Nat := l.count 45 + l.count 126
def kdateP (N : Nat) (c : CalV) (σ : PS) : PS × CalV :=
  let y : PS × CalV := if 1 < dashes (wordP σ) then
      ((mustP N [45] (kfieldP N 1 σ).1).1, { c with year := (kfieldP N 1 σ).2 })
    else (σ, c)
  let m := kfieldP N 2 y.1
  let b := mustP N [45, 126] m.1
  let d := kfieldP N 3 b.1
  (d.1, { y.2 with month := m.2, back := decide (b.2 = 126), day := d.2 })
def ktimeP (N : Nat) (c : CalV) (σ : PS) : PS × CalV :=
  let h := kfieldP N 4 σ
  let m := kfieldP N 5 (mustP N [58] h.1).1
  let i := isP [58] m.1
  if i.2 then ((kfieldP N 6 i.1).1, { c with hour := h.2, minute := m.2, second := (kfieldP N 6 i.1).2 })
  else (i.1, { c with hour := h.2, minute := m.2 })
/-- The blank behind a word; false: it is the end. -/
def knextP (N : Nat) (σ : PS) : PS × Bool := if doneP σ then (σ, false) else ((mustP N [32] σ).1, true)
def ltrI (c : Int) : Bool := decide ((97 ≤ c ∧ c ≤ 122) ∨ (65 ≤ c ∧ c ≤ 90))
/-- What is wrong where no more word may be. -/
def kstopP (N : Nat) (σ : PS) : PS := if ltrI (peekP σ) then failP (atP N σ) 7 σ else if σ.l = [] then failP (atP N σ) 2 σ else failP (atP N σ) 3 σ
def dashed (l : List UInt8) : Bool := l.any (fun c => decide (c = 45 ∨ c = 126))
/-- The words behind the weekdays: a date, a time; q: how many more words there may be. -/
def kwordsP (N : Nat) : Nat → Bool → Bool → CalV → PS → PS × CalV
  | 0, _, _, c, σ => (kstopP N σ, c)
  | q + 1, date, time, c, σ =>
    if peekP σ = 0 ∨ ltrI (peekP σ) = true ∨ time = true ∨ (date = true ∧ dashed (wordP σ) = true) then (kstopP N σ, c)
    else if dashed (wordP σ) = true then
      if (knextP N (kdateP N c σ).1).2 then kwordsP N q true time (kdateP N c σ).2 (knextP N (kdateP N c σ).1).1 else ((knextP N (kdateP N c σ).1).1, (kdateP N c σ).2)
    else
      if (knextP N (ktimeP N c σ).1).2 then kwordsP N q date true (ktimeP N c σ).2 (knextP N (ktimeP N c σ).1).1 else ((knextP N (ktimeP N c σ).1).1, (ktimeP N c σ).2)
def kallP (N : Nat) (σ : PS) : PS × CalV :=
  if ltrI (peekP σ) = true then
    let w := klistP N (daysP N) 63 σ
    let n := knextP N w.1
    if n.2 then kwordsP N 2 false false { calNil with week := w.2 } n.1 else (n.1, { calNil with week := w.2 })
  else kwordsP N 2 false false calNil σ
def orL (l m : List It) : List It := if l = [] then m else l
def kfill (c : CalV) : CalV := ⟨c.week, orL c.year [⟨0, 0, 0, 1⟩], orL c.month [⟨0, 0, 0, 1⟩], orL c.day [⟨0, 0, 0, 1⟩], c.back, orL c.hour [⟨1, 0, 0, 0⟩], orL c.minute [⟨1, 0, 0, 0⟩], orL c.second [⟨1, 0, 0, 0⟩]⟩
/-- The words that are short for texts, and the texts. -/
def knicks : List (List UInt8 × List UInt8) := [
  ([109,105,110,117,116,101,108,121], [42,45,42,45,42,32,42,58,42,58,48,48]), ([104,111,117,114,108,121], [42,45,42,45,42,32,42,58,48,48,58,48,48]),
  ([100,97,105,108,121], [42,45,42,45,42,32,48,48,58,48,48,58,48,48]), ([119,101,101,107,108,121], [77,111,110,32,42,45,42,45,42,32,48,48,58,48,48,58,48,48]),
  ([109,111,110,116,104,108,121], [42,45,42,45,48,49,32,48,48,58,48,48,58,48,48]), ([113,117,97,114,116,101,114,108,121], [42,45,48,49,44,48,52,44,48,55,44,49,48,45,48,49,32,48,48,58,48,48,58,48,48]),
  ([115,101,109,105,97,110,110,117,97,108,108,121], [42,45,48,49,44,48,55,45,48,49,32,48,48,58,48,48,58,48,48]), ([121,101,97,114,108,121], [42,45,48,49,45,48,49,32,48,48,58,48,48,58,48,48]),
  ([97,110,110,117,97,108,108,121], [42,45,48,49,45,48,49,32,48,48,58,48,48,58,48,48])]
def knick (l : List UInt8) : List UInt8 := match knicks.find? (fun p => decide (lowerL l = p.1)) with | some p => p.2 | none => []
def kpsNew (l : List UInt8) : PS := ⟨l, if 8192 < l.length then 8192 else 0, if 8192 < l.length then 5 else 0⟩
/-- What is read of a text: the event; or where, and what, is wrong. -/
def kread (l : List UInt8) : Except (Int × Int) CalV :=
  let t := if knick l = [] then l else knick l
  let r := kallP t.length (kpsNew t)
  if r.1.e = 0 then .ok (kfill r.2) else .error (r.1.a, r.1.e)
end Go.Proofs.YtochhmkdhdadhaaGreat

namespace Go.Proofs.YtochhmkdhdadhaaGreat
open Go.RowKit
set_option linter.unusedSimpArgs false
set_option linter.unusedVariables false

section
variable {N : Nat} {σ τ υ : PS} {P Q : Prop}
theorem must_M (h : (someP letterP σ).2 = []) : Goes N (someP letterP σ).1 (mustP N [77] (someP letterP σ).1).1 False := by
  have hno : (isP [77] (someP letterP σ).1).2 = false := by
    unfold someP at *
    by_cases he : σ.e = 0
    · rw [if_pos he] at *
      unfold isP
      rw [if_pos rfl]
      have hd : σ.l.dropWhile letterP = σ.l := by
        have := List.takeWhile_append_dropWhile (p := letterP) (l := σ.l)
        rw [show σ.l.takeWhile letterP = [] from h, List.nil_append] at this; exact this
      simp only [hd]
      cases hl : σ.l with
      | nil => rfl
      | cons c l =>
        have hc : letterP c = false := by
          cases hc : letterP c with
          | false => rfl
          | true =>
            have h' : σ.l.takeWhile letterP = [] := h
            rw [hl, List.takeWhile_cons, if_pos hc] at h'; cases h'
        have hn : [77].elem c = false := by
          have : c ≠ 77 := by rintro rfl; exact absurd hc (by decide)
          simpa using this
        simp only [pIs, hn]
        rfl
    · rw [if_neg he]; unfold isP; rw [if_neg he]
  unfold mustP
  rw [hno]
  simp only [Bool.false_eq_true, if_false]
  unfold lackP
  exact goes_failAt _ _ (pLack_ne _)
theorem wkOf_bd (w : List UInt8) : 0 ≤ wkOf w ∧ wkOf w ≤ 7 := by
  have h1 := wIdx_lt (lowerL w) wkN
  have h2 : (wkN.length : Int) = 7 := rfl
  have h3 : -1 ≤ wIdx (lowerL w) wkN := by unfold wIdx; split <;> omega
  unfold wkOf; omega
theorem goes_wk : Goes N σ (wkP N σ).1 (1 ≤ (wkP N σ).2 ∧ (wkP N σ).2 ≤ 7) := by
  unfold wkP
  split
  · rename_i h
    exact ((goes_some letterP).trans (must_M h)).mono fun h => h.2.elim
  · split
    · exact ((goes_some letterP).trans (goes_failAt σ _ (by decide))).mono fun h => h.2.elim
    · rename_i h0
      have := wkOf_bd (someP letterP σ).2
      exact (goes_some letterP).mono fun _ => ⟨by omega, by omega⟩
/-- An item that may stand among the weekdays. -/
abbrev DayIt (i : It) : Prop := MayP i 1 7 ∧ i.k ≠ 0 ∧ i.k ≠ 3 ∧ i.s ≤ 1
theorem goes_days : Goes N σ (daysP N σ).1 (DayIt (daysP N σ).2) := by
  unfold daysP
  dsimp only
  have h1 : Goes N σ (wkP N σ).1 _ := goes_wk
  have h2 : Goes N (wkP N σ).1 (textP dots (wkP N σ).1).1 True := goes_text dots
  split
  · have h3 : Goes N (textP dots (wkP N σ).1).1 (wkP N (textP dots (wkP N σ).1).1).1 _ := goes_wk
    have h4 : Goes N (wkP N (textP dots (wkP N σ).1).1).1 (if (wkP N (textP dots (wkP N σ).1).1).2 < (wkP N σ).2 then failP (atP N (textP dots (wkP N σ).1).1) 4 (wkP N (textP dots (wkP N σ).1).1).1 else (wkP N (textP dots (wkP N σ).1).1).1) (¬ (wkP N (textP dots (wkP N σ).1).1).2 < (wkP N σ).2) := by
      split
      · exact (goes_failAt _ _ (by decide)).never
      · rename_i h; exact (Goes.refl _ _).mono fun _ => h
    refine (((h1.trans h2).trans h3).trans h4).mono ?_
    rintro ⟨⟨⟨h5, _⟩, h6⟩, h7⟩
    dsimp only
    exact ⟨⟨by omega, by omega, by omega, .inr (.inr (.inl ⟨rfl, h5.1, h5.2, h6.1, h6.2, by (try dsimp only); omega, by (try dsimp only); omega, by (try dsimp only); omega⟩))⟩, by (try dsimp only); omega, by (try dsimp only); omega, by (try dsimp only); omega⟩
  · refine (h1.trans h2).mono ?_
    rintro ⟨h5, _⟩
    dsimp only
    exact ⟨⟨by omega, by omega, by omega, .inr (.inl ⟨rfl, h5.1, h5.2, rfl, rfl⟩)⟩, by (try dsimp only); omega, by (try dsimp only); omega, by (try dsimp only); omega⟩
theorem goes_knum (f : Int) : Goes N σ (knumP N f σ).1 (kLo f ≤ (knumP N f σ).2 ∧ (knumP N f σ).2 ≤ kHi f) := by
  unfold knumP
  dsimp only
  have h1 : Goes N σ (numP N (digs f) σ).1 _ := goes_num (digs f)
  split
  · exact (h1.trans (goes_failAt σ _ (by decide))).mono fun h => h.2.elim
  · rename_i h
    refine h1.mono ?_
    rintro ⟨h2, _⟩
    have h3 : ¬ ((numP N (digs f) σ).2.1 < kLo f ∨ kHi f < (numP N (digs f) σ).2.1) := fun x => h ⟨h2, x⟩
    dsimp only
    exact ⟨by omega, by omega⟩
theorem goes_sub (f : Int) : Goes N σ (subP N f σ) True := by
  unfold subP
  split
  · exact (goes_failAt σ _ (by decide)).never
  · exact Goes.refl _ _
/-- A number of a field, or a range of them. -/
abbrev HeadIt (f : Int) (i : It) : Prop := (i.k = 1 ∧ kLo f ≤ i.f ∧ i.f ≤ kHi f ∧ i.t = 0 ∧ i.s = 0) ∨ (i.k = 2 ∧ kLo f ≤ i.f ∧ i.f ≤ kHi f ∧ kLo f ≤ i.t ∧ i.t ≤ kHi f ∧ i.f ≤ i.t ∧ i.s = 1)
theorem goes_khead (f : Int) : Goes N σ (kheadP N f σ).1 (HeadIt f (kheadP N f σ).2) := by
  unfold kheadP
  dsimp only
  have h1 : Goes N σ (knumP N f σ).1 _ := goes_knum f
  have h2 : Goes N (knumP N f σ).1 (subP N f (knumP N f σ).1) True := goes_sub f
  have h3 : Goes N (subP N f (knumP N f σ).1) (textP dots (subP N f (knumP N f σ).1)).1 True := goes_text dots
  generalize (textP dots (subP N f (knumP N f σ).1)).1 = τ at *
  split
  · have h4 : Goes N τ (knumP N f τ).1 _ := goes_knum f
    have h5 : Goes N (knumP N f τ).1 (if (knumP N f τ).2 < (knumP N f σ).2 then failP (atP N τ) 4 (knumP N f τ).1 else (knumP N f τ).1) (¬ (knumP N f τ).2 < (knumP N f σ).2) := by
      split
      · exact (goes_failAt _ _ (by decide)).never
      · rename_i h; exact (Goes.refl _ _).mono fun _ => h
    generalize (if (knumP N f τ).2 < (knumP N f σ).2 then failP (atP N τ) 4 (knumP N f τ).1 else (knumP N f τ).1) = υ at *
    have h6 : Goes N υ (subP N f υ) True := goes_sub f
    refine (((((h1.trans h2).trans h3).trans h4).trans h5).trans h6).mono ?_
    rintro ⟨⟨⟨⟨⟨a, _⟩, _⟩, b⟩, c⟩, _⟩
    exact .inr ⟨rfl, a.1, a.2, b.1, b.2, by (try dsimp only); omega, rfl⟩
  · refine ((h1.trans h2).trans h3).mono ?_
    rintro ⟨⟨a, _⟩, _⟩
    exact .inl ⟨rfl, a.1, a.2, rfl, rfl⟩
theorem kBounds (f : Int) (h0 : 0 ≤ f) (h6 : f ≤ 6) : 0 ≤ kLo f ∧ kLo f ≤ kHi f ∧ kHi f ≤ 9999 := by
  obtain rfl | rfl | rfl | rfl | rfl | rfl | rfl : f = 0 ∨ f = 1 ∨ f = 2 ∨ f = 3 ∨ f = 4 ∨ f = 5 ∨ f = 6 := by omega
  all_goals decide
theorem goes_kitem (f : Int) (h0 : 0 ≤ f) (h6 : f ≤ 6) : Goes N σ (kitemP N f σ).1 (MayP (kitemP N f σ).2 (kLo f) (kHi f) ∧ (kitemP N f σ).2.k ≠ 0) := by
  have hb := kBounds f h0 h6
  unfold kitemP
  dsimp only
  have h1 : Goes N σ (kheadP N f σ).1 _ := goes_khead f
  have h2 : Goes N (kheadP N f σ).1 (isP [47] (kheadP N f σ).1).1 True := goes_is [47]
  generalize (isP [47] (kheadP N f σ).1).1 = τ at *
  split
  · have h3 : Goes N τ (numP N 3 τ).1 _ := goes_num 3
    have h4 : Goes N (numP N 3 τ).1 (if (numP N 3 τ).2.2 = true ∧ (numP N 3 τ).2.1 = 0 then failP (atP N τ) 4 (numP N 3 τ).1 else (numP N 3 τ).1) (¬ ((numP N 3 τ).2.2 = true ∧ (numP N 3 τ).2.1 = 0)) := by
      split
      · exact (goes_failAt _ _ (by decide)).never
      · rename_i h; exact (Goes.refl _ _).mono fun _ => h
    refine (((h1.trans h2).trans h3).trans h4).mono ?_
    rintro ⟨⟨⟨a, _⟩, b⟩, c⟩
    have hne : ¬ (numP N 3 τ).2.1 = 0 := fun h => c ⟨b.1, h⟩
    have h10 : (10 : Int) ^ 3 = 1000 := by decide
    have b2 := b.2.1
    have b3 := b.2.2
    rw [h10] at b3
    dsimp only
    rcases a with a | a
    · rw [if_pos a.1]
      exact ⟨⟨hb.1, hb.2.1, hb.2.2, .inr (.inr (.inr ⟨rfl, a.2.1, a.2.2.1, a.2.2.2.1, by (try dsimp only); omega, by (try dsimp only); omega⟩))⟩, by (try dsimp only); omega⟩
    · rw [if_neg (by omega)]
      exact ⟨⟨hb.1, hb.2.1, hb.2.2, .inr (.inr (.inl ⟨a.1, a.2.1, a.2.2.1, a.2.2.2.1, a.2.2.2.2.1, a.2.2.2.2.2.1, by (try dsimp only); omega, by (try dsimp only); omega⟩))⟩, by (try dsimp only); omega⟩
  · refine (h1.trans h2).mono ?_
    rintro ⟨a, _⟩
    dsimp only
    rcases a with a | a
    · exact ⟨⟨hb.1, hb.2.1, hb.2.2, .inr (.inl ⟨a.1, a.2.1, a.2.2.1, a.2.2.2.1, a.2.2.2.2⟩)⟩, by (try dsimp only); omega⟩
    · exact ⟨⟨hb.1, hb.2.1, hb.2.2, .inr (.inr (.inl ⟨a.1, a.2.1, a.2.2.1, a.2.2.2.1, a.2.2.2.2.1, a.2.2.2.2.2.1, by (try dsimp only); omega, by (try dsimp only); omega⟩))⟩, by (try dsimp only); omega⟩
theorem goes_klist (one : PS → PS × It) (D : It → Prop) (hone : ∀ σ, Goes N σ (one σ).1 (D (one σ).2)) : ∀ (q : Nat) (σ : PS), Goes N σ (klistP N one q σ).1 (1 ≤ (klistP N one q σ).2.length ∧ (klistP N one q σ).2.length ≤ q + 1 ∧ ∀ i ∈ (klistP N one q σ).2, D i)
  | 0, σ => by
    unfold klistP
    dsimp only
    have h1 := hone σ
    have h2 : Goes N (one σ).1 (isP [44] (one σ).1).1 True := goes_is [44]
    split
    · exact ((h1.trans h2).trans (goes_failAt _ _ (by decide))).mono fun h => h.2.elim
    · exact (h1.trans h2).mono fun h => ⟨by simp, by simp, by simpa using h.1⟩
  | q + 1, σ => by
    unfold klistP
    have h1 := hone σ
    have h2 : Goes N (one σ).1 (isP [44] (one σ).1).1 True := goes_is [44]
    split
    · have h3 := goes_klist one D hone q (isP [44] (one σ).1).1
      refine ((h1.trans h2).trans h3).mono ?_
      rintro ⟨⟨a, _⟩, b, c, d⟩
      refine ⟨by simp, by simp; omega, ?_⟩
      intro j hj
      rcases List.mem_cons.1 hj with rfl | hj
      · exact a
      · exact d j hj
    · exact (h1.trans h2).mono fun h => ⟨by simp, by simp, by simpa using h.1⟩
/-- A list that may be a field's. -/
def kOdd (f many : Int) (i : It) : Bool := if f = 0 then decide (i.k = 0 ∨ i.k = 3 ∨ 1 < i.s) else decide (i.k = 0 ∧ (1 < many ∨ 1 < i.s))
/-- What is wrong with a field's list. -/
def kfault (f : Int) (l : List It) : Int :=
  if l.length = 0 then (if f = 0 then 0 else 11) else if kMost f < l.length then 5 else if l.any (fun i => kOdd f (l.length : Int) i || !mayIt i (kLo f) (kHi f)) then 1 else 0
theorem kfault_ok {f : Int} {l : List It} (h0 : l.length = 0 → f = 0) (h1 : l.length ≤ kMost f) (h : ∀ i ∈ l, kOdd f (l.length : Int) i = false ∧ MayP i (kLo f) (kHi f)) : kfault f l = 0 := by
  unfold kfault
  by_cases hl : l.length = 0
  · rw [if_pos hl, if_pos (h0 hl)]
  · rw [if_neg hl, if_neg (by omega)]
    have : l.any (fun i => kOdd f (l.length : Int) i || !mayIt i (kLo f) (kHi f)) = false := by
      rw [List.any_eq_false]
      intro x hx
      have h3 := h x hx
      have h4 : mayIt x (kLo f) (kHi f) = true := decide_eq_true h3.2
      rw [h3.1, h4]; decide
    rw [this]; rfl
theorem goes_kfield (f : Int) (h0 : 1 ≤ f) (h6 : f ≤ 6) : Goes N σ (kfieldP N f σ).1 (1 ≤ (kfieldP N f σ).2.length ∧ kfault f (kfieldP N f σ).2 = 0) := by
  have hb := kBounds f (by omega) h6
  unfold kfieldP
  have h1 : Goes N σ (isP [42] σ).1 True := goes_is [42]
  split
  · refine h1.mono fun _ => ⟨by simp, ?_⟩
    refine kfault_ok (by simp) (by unfold kMost; split <;> simp) ?_
    intro i hi
    obtain rfl : i = ⟨0, 0, 0, 1⟩ := by simpa using hi
    refine ⟨?_, hb.1, hb.2.1, hb.2.2, .inl ⟨rfl, rfl, rfl, by decide, by decide⟩⟩
    unfold kOdd
    rw [if_neg (by omega)]
    exact decide_eq_false (by rintro ⟨_, h | h⟩ <;> simp at h)
  · have h2 := goes_klist (N := N) (kitemP N f) (fun i => MayP i (kLo f) (kHi f) ∧ i.k ≠ 0) (fun σ => goes_kitem f (by omega) h6) (kMost f - 1) (isP [42] σ).1
    refine (h1.trans h2).mono ?_
    rintro ⟨_, a, b, c⟩
    refine ⟨a, kfault_ok (by omega) ?_ ?_⟩
    · have : 1 ≤ kMost f := by unfold kMost; split <;> decide
      omega
    · intro i hi
      have := c i hi
      refine ⟨?_, this.1⟩
      unfold kOdd
      rw [if_neg (by omega)]
      exact decide_eq_false fun h => this.2 h.1
end
/-- A field of an event. -/
def kget (c : CalV) (f : Nat) : List It := if f = 0 then c.week else if f = 1 then c.year else if f = 2 then c.month else if f = 3 then c.day else if f = 4 then c.hour else if f = 5 then c.minute else if f = 6 then c.second else []
/-- What has been read so far may be; what has not is empty. -/
def Part (c : CalV) : Prop := kfault 0 c.week = 0 ∧ ∀ f : Nat, 1 ≤ f → f ≤ 6 → kget c f ≠ [] → kfault f (kget c f) = 0
theorem part_nil : Part calNil := ⟨rfl, fun f h1 h6 h => absurd (by
  obtain rfl | rfl | rfl | rfl | rfl | rfl : f = 1 ∨ f = 2 ∨ f = 3 ∨ f = 4 ∨ f = 5 ∨ f = 6 := by omega
  all_goals rfl) h⟩
theorem part_of {c : CalV} (h0 : kfault 0 c.week = 0) (h1 : c.year ≠ [] → kfault 1 c.year = 0) (h2 : c.month ≠ [] → kfault 2 c.month = 0) (h3 : c.day ≠ [] → kfault 3 c.day = 0) (h4 : c.hour ≠ [] → kfault 4 c.hour = 0) (h5 : c.minute ≠ [] → kfault 5 c.minute = 0) (h6 : c.second ≠ [] → kfault 6 c.second = 0) : Part c :=
  ⟨h0, fun f hf1 hf6 h => by
    obtain rfl | rfl | rfl | rfl | rfl | rfl : f = 1 ∨ f = 2 ∨ f = 3 ∨ f = 4 ∨ f = 5 ∨ f = 6 := by omega
    · exact h1 h
    · exact h2 h
    · exact h3 h
    · exact h4 h
    · exact h5 h
    · exact h6 h⟩
theorem Part.all {c : CalV} (h : Part c) : kfault 0 c.week = 0 ∧ (c.year ≠ [] → kfault 1 c.year = 0) ∧ (c.month ≠ [] → kfault 2 c.month = 0) ∧ (c.day ≠ [] → kfault 3 c.day = 0) ∧ (c.hour ≠ [] → kfault 4 c.hour = 0) ∧ (c.minute ≠ [] → kfault 5 c.minute = 0) ∧ (c.second ≠ [] → kfault 6 c.second = 0) :=
  ⟨h.1, h.2 1 (by omega) (by omega), h.2 2 (by omega) (by omega), h.2 3 (by omega) (by omega), h.2 4 (by omega) (by omega), h.2 5 (by omega) (by omega), h.2 6 (by omega) (by omega)⟩
section
variable {N : Nat} {σ : PS} {c : CalV}
theorem goes_kdate : Goes N σ (kdateP N c σ).1 (Part c → Part (kdateP N c σ).2) := by
  unfold kdateP
  dsimp only
  have hy : Goes N σ (if 1 < dashes (wordP σ) then ((mustP N [45] (kfieldP N 1 σ).1).1, { c with year := (kfieldP N 1 σ).2 }) else (σ, c) : PS × CalV).1
      (Part c → Part (if 1 < dashes (wordP σ) then ((mustP N [45] (kfieldP N 1 σ).1).1, { c with year := (kfieldP N 1 σ).2 }) else (σ, c) : PS × CalV).2) := by
    split
    · have h1 : Goes N σ (kfieldP N 1 σ).1 _ := goes_kfield 1 (by decide) (by decide)
      refine (h1.trans (goes_must [45])).mono ?_
      rintro ⟨a, _⟩ h
      obtain ⟨p0, p1, p2, p3, p4, p5, p6⟩ := h.all
      exact part_of p0 (fun _ => a.2) p2 p3 p4 p5 p6
    · exact (Goes.refl _ _).mono fun _ => id
  generalize (if 1 < dashes (wordP σ) then ((mustP N [45] (kfieldP N 1 σ).1).1, { c with year := (kfieldP N 1 σ).2 }) else (σ, c) : PS × CalV) = y at *
  have h1 : Goes N y.1 (kfieldP N 2 y.1).1 _ := goes_kfield 2 (by decide) (by decide)
  have h2 : Goes N (kfieldP N 2 y.1).1 (mustP N [45, 126] (kfieldP N 2 y.1).1).1 _ := goes_must [45, 126]
  generalize mustP N [45, 126] (kfieldP N 2 y.1).1 = b at *
  have h3 : Goes N b.1 (kfieldP N 3 b.1).1 _ := goes_kfield 3 (by decide) (by decide)
  refine (((hy.trans h1).trans h2).trans h3).mono ?_
  rintro ⟨⟨⟨a, d⟩, _⟩, g⟩ h
  obtain ⟨q0, q1, q2, q3, q4, q5, q6⟩ := (a h).all
  exact part_of q0 q1 (fun _ => d.2) (fun _ => g.2) q4 q5 q6
theorem goes_ktime : Goes N σ (ktimeP N c σ).1 (Part c → Part (ktimeP N c σ).2) := by
  unfold ktimeP
  dsimp only
  have h1 : Goes N σ (kfieldP N 4 σ).1 _ := goes_kfield 4 (by decide) (by decide)
  have h2 : Goes N (kfieldP N 4 σ).1 (mustP N [58] (kfieldP N 4 σ).1).1 _ := goes_must [58]
  generalize (mustP N [58] (kfieldP N 4 σ).1).1 = b at *
  have h3 : Goes N b (kfieldP N 5 b).1 _ := goes_kfield 5 (by decide) (by decide)
  have h4 : Goes N (kfieldP N 5 b).1 (isP [58] (kfieldP N 5 b).1).1 _ := goes_is [58]
  generalize (isP [58] (kfieldP N 5 b).1).1 = d at *
  split
  · have h5 : Goes N d (kfieldP N 6 d).1 _ := goes_kfield 6 (by decide) (by decide)
    refine ((((h1.trans h2).trans h3).trans h4).trans h5).mono ?_
    rintro ⟨⟨⟨⟨a, _⟩, e⟩, _⟩, g⟩ h
    obtain ⟨p0, p1, p2, p3, p4, p5, p6⟩ := h.all
    exact part_of p0 p1 p2 p3 (fun _ => a.2) (fun _ => e.2) (fun _ => g.2)
  · refine (((h1.trans h2).trans h3).trans h4).mono ?_
    rintro ⟨⟨⟨a, _⟩, e⟩, _⟩ h
    obtain ⟨p0, p1, p2, p3, p4, p5, p6⟩ := h.all
    exact part_of p0 p1 p2 p3 (fun _ => a.2) (fun _ => e.2) p6
theorem goes_knext : Goes N σ (knextP N σ).1 True := by
  unfold knextP
  split
  · exact Goes.refl _ _
  · exact goes_must [32]
theorem goes_kstop : Goes N σ (kstopP N σ) False := by
  unfold kstopP
  split
  · exact goes_failAt _ _ (by decide)
  · split
    · exact goes_failAt _ _ (by decide)
    · exact goes_failAt _ _ (by decide)
theorem goes_kwords : ∀ (q : Nat) (date time : Bool) (c : CalV) (σ : PS), Goes N σ (kwordsP N q date time c σ).1 (Part c → Part (kwordsP N q date time c σ).2)
  | 0, _, _, c, σ => goes_kstop.never
  | q + 1, date, time, c, σ => by
    unfold kwordsP
    split
    · exact goes_kstop.never
    · split
      · have h1 := goes_kdate (N := N) (σ := σ) (c := c)
        have h2 : Goes N (kdateP N c σ).1 (knextP N (kdateP N c σ).1).1 True := goes_knext
        generalize kdateP N c σ = d at *
        generalize knextP N d.1 = n at *
        split
        · exact ((h1.trans h2).trans (goes_kwords q true time d.2 n.1)).mono fun x h => x.2 (x.1.1 h)
        · exact (h1.trans h2).mono fun x h => x.1 h
      · have h1 := goes_ktime (N := N) (σ := σ) (c := c)
        have h2 : Goes N (ktimeP N c σ).1 (knextP N (ktimeP N c σ).1).1 True := goes_knext
        generalize ktimeP N c σ = d at *
        generalize knextP N d.1 = n at *
        split
        · exact ((h1.trans h2).trans (goes_kwords q date true d.2 n.1)).mono fun x h => x.2 (x.1.1 h)
        · exact (h1.trans h2).mono fun x h => x.1 h
theorem days_fault {l : List It} (h : 1 ≤ l.length ∧ l.length ≤ 64 ∧ ∀ i ∈ l, DayIt i) : kfault 0 l = 0 := by
  refine kfault_ok (fun _ => rfl) h.2.1 ?_
  intro i hi
  have h3 := h.2.2 i hi
  refine ⟨?_, h3.1⟩
  unfold kOdd
  rw [if_pos rfl]
  exact decide_eq_false fun hc => by
    rcases hc with hc | hc | hc
    · exact h3.2.1 hc
    · exact h3.2.2.1 hc
    · have := h3.2.2.2; omega
theorem goes_kall : Goes N σ (kallP N σ).1 (Part (kallP N σ).2) := by
  unfold kallP
  dsimp only
  split
  · have h1 := goes_klist (N := N) (daysP N) DayIt (fun σ => goes_days) 63 σ
    have h2 : Goes N (klistP N (daysP N) 63 σ).1 (knextP N (klistP N (daysP N) 63 σ).1).1 True := goes_knext
    generalize klistP N (daysP N) 63 σ = w at *
    generalize knextP N w.1 = n at *
    have hp : (1 ≤ w.2.length ∧ w.2.length ≤ 63 + 1 ∧ ∀ i ∈ w.2, DayIt i) → Part { calNil with week := w.2 } := fun h => part_of (days_fault h) (absurd rfl) (absurd rfl) (absurd rfl) (absurd rfl) (absurd rfl) (absurd rfl)
    split
    · exact ((h1.trans h2).trans (goes_kwords 2 false false _ n.1)).mono fun x => x.2 (hp x.1.1)
    · exact (h1.trans h2).mono fun x => hp x.1
  · exact (goes_kwords 2 false false _ σ).mono fun x => x part_nil
end
theorem orL_fault {f : Int} {l m : List It} (h : l ≠ [] → kfault f l = 0) (hm : kfault f m = 0) : kfault f (orL l m) = 0 := by
  unfold orL
  split
  · exact hm
  · exact h (by assumption)
/-- What is wrong with an event. -/
def kchkN (l : Nat → List It) : Nat → Int × Int
  | 0 => (7, 0)
  | q + 1 => if kfault ((6 - q : Nat) : Int) (l (6 - q)) = 0 then kchkN l q else (((6 - q : Nat) : Int), kfault ((6 - q : Nat) : Int) (l (6 - q)))
def kchk (c : CalV) : Int × Int := kchkN (kget c) 7
theorem kchk_all {c : CalV} (h : ∀ f : Nat, f < 7 → kfault f (kget c f) = 0) : kchk c = (7, 0) := by
  have h0 := h 0; have h1 := h 1; have h2 := h 2; have h3 := h 3; have h4 := h 4; have h5 := h 5; have h6 := h 6
  simp only [kchk, kchkN]
  simp_all
theorem kfill_may {c : CalV} (h : Part c) : kchk (kfill c) = (7, 0) := by
  obtain ⟨p0, p1, p2, p3, p4, p5, p6⟩ := h.all
  apply kchk_all
  intro f hf
  obtain rfl | rfl | rfl | rfl | rfl | rfl | rfl : f = 0 ∨ f = 1 ∨ f = 2 ∨ f = 3 ∨ f = 4 ∨ f = 5 ∨ f = 6 := by omega
  · exact p0
  · exact orL_fault p1 (by decide)
  · exact orL_fault p2 (by decide)
  · exact orL_fault p3 (by decide)
  · exact orL_fault p4 (by decide)
  · exact orL_fault p5 (by decide)
  · exact orL_fault p6 (by decide)
theorem kread_nick {l t : List UInt8} (h : knick l = t) (ht : t ≠ []) : (kallP t.length (kpsNew t)).1.e = 0 := by
  unfold knick at h
  split at h
  · rename_i p hp
    have hm := List.mem_of_find?_eq_some hp
    subst h
    simp only [knicks, List.mem_cons, List.not_mem_nil, or_false] at hm
    rcases hm with rfl | rfl | rfl | rfl | rfl | rfl | rfl | rfl | rfl
    all_goals exact of_decide_eq_true (by kernel_rfl)
  · exact absurd h.symm ht
theorem kread_ok {l : List UInt8} {c : CalV} (h : kread l = .ok c) : kchk c = (7, 0) := by
  unfold kread at h
  dsimp only at h
  generalize (if knick l = [] then l else knick l) = t at h
  have hg := goes_kall (N := t.length) (σ := kpsNew t)
  split at h
  · rename_i he
    cases h
    exact kfill_may (hg.z he).2
  · cases h
theorem kread_err {l : List UInt8} {a e : Int} (h : kread l = .error (a, e)) : e ≠ 0 ∧ 0 ≤ a ∧ a ≤ (l.length : Int) := by
  unfold kread at h
  dsimp only at h
  by_cases hn : knick l = []
  · rw [if_pos hn] at h
    have hg := goes_kall (N := l.length) (σ := kpsNew l)
    split at h
    · cases h
    · rename_i he
      cases h
      refine ⟨he, ?_⟩
      rcases hg.ok (by
        unfold kpsNew
        by_cases h8 : 8192 < l.length
        · rw [if_pos h8, if_pos h8]; right; exact ⟨by (try dsimp only); omega, by (try dsimp only); omega⟩
        · rw [if_neg h8, if_neg h8]; left; rfl) with h1 | h1
      · exact absurd h1 he
      · exact h1
  · rw [if_neg hn, if_pos (kread_nick rfl hn)] at h
    cases h
end Go.Proofs.YtochhmkdhdadhaaGreat
