/- The calendar, counted from January: plain. -/
import Derived.Test.YtochhmkdhdadhaaGreatWArr
/- The calendar: a day's date, and back: plain. -/
namespace Go.Proofs.YtochhmkdhdadhaaGreat
open Go.RowKit
set_option linter.unusedSimpArgs false
set_option linter.unusedVariables false

def leapC (y : Int) : Bool := decide (y % 4 = 0 ∧ (y % 100 ≠ 0 ∨ y % 400 = 0))
def lenM (m : Int) : Int := if m = 2 then 28 else if m = 4 ∨ m = 6 ∨ m = 9 ∨ m = 11 then 30 else 31
def lenC (y m : Int) : Int := if m < 1 ∨ 12 < m then 0 else if m = 2 ∧ leapC y = true then 29 else lenM m
def mayC (y m d : Int) : Bool := decide (-1000000000 ≤ y ∧ y ≤ 1000000000 ∧ 1 ≤ d ∧ d ≤ lenC y m)
/-- How many days lie ahead of a year of the 400, counted from March. -/
def startY (k : Int) : Int := 365 * k + k / 4 - k / 100 + k / 400
def gY (o : Int) : Int := o - o / 1460 + o / 36524 - o / 146096
def yrs (o : Int) : Int := gY o / 365
theorem gY_step {x : Int} (h0 : 0 ≤ x) (h : x + 1 < 146097) : gY x ≤ gY (x + 1) := by
  unfold gY
  by_cases e : x = 146095
  · subst e; decide
  · have h1 : x / 146096 = 0 := by omega
    have h2 : (x + 1) / 146096 = 0 := by omega
    rw [h1, h2]
    omega
theorem gY_mono {a b : Int} (h0 : 0 ≤ a) (h : a ≤ b) (hb : b < 146097) : gY a ≤ gY b := by
  obtain ⟨d, rfl⟩ : ∃ d : Nat, b = a + d := ⟨(b - a).toNat, by omega⟩
  clear h
  induction d with
  | zero => simp
  | succ d ih =>
    have h1 := ih (by omega)
    have h2 := gY_step (x := a + (d : Int)) (by omega) (by omega)
    rw [show a + ((d + 1 : Nat) : Int) = a + (d : Int) + 1 by omega]
    omega
def yrsOk (k : Nat) : Bool := decide (365 * (k : Int) ≤ gY (startY k) ∧ gY (startY ((k : Int) + 1) - 1) ≤ 365 * (k : Int) + 364 ∧ 0 ≤ startY k ∧ startY ((k : Int) + 1) ≤ 146097)
theorem yrs_all : (List.range 400).all yrsOk = true := by decide +kernel
theorem yrs_find (o : Int) (h0 : 0 ≤ o) : ∀ K : Nat, o < startY K → ∃ k : Nat, k < K ∧ startY k ≤ o ∧ o < startY ((k : Int) + 1)
  | 0, h => by simp [startY] at h; omega
  | K + 1, h => by
    by_cases h1 : o < startY K
    · obtain ⟨k, hk, h2⟩ := yrs_find o h0 K h1
      exact ⟨k, by omega, h2⟩
    · exact ⟨K, by omega, by omega, by simpa using h⟩
/-- The year of the 400 in which a day of them lies. -/
theorem yrs_at {o : Int} (h0 : 0 ≤ o) (h1 : o < 146097) : 0 ≤ yrs o ∧ yrs o < 400 ∧ startY (yrs o) ≤ o ∧ o < startY (yrs o + 1) := by
  obtain ⟨k, hk, h2, h3⟩ := yrs_find o h0 400 (by simp [startY]; omega)
  have ha := List.all_eq_true.1 yrs_all k (List.mem_range.2 hk)
  unfold yrsOk at ha
  rw [decide_eq_true_eq] at ha
  obtain ⟨a1, a2, a3, a4⟩ := ha
  have m1 := gY_mono a3 h2 h1
  have m2 := gY_mono h0 (show o ≤ startY ((k : Int) + 1) - 1 by omega) (by omega)
  have e : yrs o = (k : Int) := by unfold yrs; omega
  rw [e]
  exact ⟨by omega, by omega, h2, h3⟩
def lft (o : Int) : Int := o - (yrs o * 365 + yrs o / 4 - yrs o / 100)
theorem lft_bd {o : Int} (h0 : 0 ≤ o) (h1 : o < 146097) : lft o = o - startY (yrs o) ∧ 0 ≤ lft o ∧ lft o ≤ 365 := by
  obtain ⟨a, b, c, d⟩ := yrs_at h0 h1
  unfold lft
  generalize yrs o = k at *
  have e0 : k / 400 = 0 := by omega
  have e1 : startY k = k * 365 + k / 4 - k / 100 := by unfold startY; omega
  have e2 : startY (k + 1) ≤ startY k + 366 := by
    by_cases hk : k = 399
    · subst hk; decide
    · have : (k + 1) / 400 = 0 := by omega
      unfold startY
      omega
  omega
def mm (o : Int) : Int := (5 * lft o + 2) / 153
def dd (o : Int) : Int := lft o - (153 * mm o + 2) / 5 + 1
def mon (o : Int) : Int := (mm o + 2) % 12 + 1
/-- The date of a day of the window. -/
def eraD (n : Int) : Int := (n + 719468) / 146097
def offD (n : Int) : Int := (n + 719468) % 146097
def dD (n : Int) : Int := dd (offD n)
def mD (n : Int) : Int := mon (offD n)
def yD (n : Int) : Int := eraD n * 400 + yrs (offD n) + if mD n ≤ 2 then 1 else 0
theorem offD_bd {n : Int} (h : 0 ≤ n) : 0 ≤ offD n ∧ offD n < 146097 := by unfold offD; omega
theorem eraD_bd {n : Int} (h : 0 ≤ n) (h1 : n < 146097) : 4 ≤ eraD n ∧ eraD n ≤ 5 := by unfold eraD; omega
theorem mm_bd {o : Int} (h0 : 0 ≤ lft o) (h1 : lft o ≤ 365) : 0 ≤ mm o ∧ mm o ≤ 11 ∧ 1 ≤ dd o ∧ dd o ≤ 31 ∧ 1 ≤ mon o ∧ mon o ≤ 12 := by
  unfold dd mon mm; omega
def dayOk (l : Nat) : Bool :=
  let m := (5 * (l : Int) + 2) / 153
  let d := (l : Int) - (153 * m + 2) / 5 + 1
  let mo := (m + 2) % 12 + 1
  decide (1 ≤ d ∧ 1 ≤ mo ∧ mo ≤ 12 ∧ (d ≤ lenM mo ∨ l = 365 ∧ mo = 2 ∧ d = 29))
theorem day_all : (List.range 366).all dayOk = true := by decide +kernel
theorem date_may {n : Int} (h : 0 ≤ n) (h1 : n < 146097) : mayC (yD n) (mD n) (dD n) = true ∧ 1969 ≤ yD n ∧ yD n ≤ 2401 := by
  obtain ⟨o0, o1⟩ := offD_bd h
  obtain ⟨e0, e1⟩ := eraD_bd h h1
  obtain ⟨y0, y1, y2, y3⟩ := yrs_at o0 o1
  obtain ⟨l0, l1, l2⟩ := lft_bd o0 o1
  obtain ⟨L, hL⟩ := Int.eq_ofNat_of_zero_le l1
  have ha := List.all_eq_true.1 day_all L (List.mem_range.2 (by omega))
  unfold dayOk at ha
  simp only [decide_eq_true_eq] at ha
  have em : mm (offD n) = (5 * (L : Int) + 2) / 153 := by unfold mm; rw [hL]
  have ed : dd (offD n) = (L : Int) - (153 * ((5 * (L : Int) + 2) / 153) + 2) / 5 + 1 := by unfold dd; rw [em, hL]
  have eo : mon (offD n) = ((5 * (L : Int) + 2) / 153 + 2) % 12 + 1 := by unfold mon; rw [em]
  rw [← eo, ← ed] at ha
  obtain ⟨a1, a2, a3, a4⟩ := ha
  have hyl : yD n = eraD n * 400 + yrs (offD n) + if mon (offD n) ≤ 2 then 1 else 0 := rfl
  have hy1 : 1969 ≤ yD n ∧ yD n ≤ 2401 := by
    rw [hyl]
    have hn : eraD n = 4 → 3 ≤ 400 := fun _ => by decide
    by_cases he : eraD n = 4
    · have : offD n = n + 719468 - 584388 := by unfold offD eraD at *; omega
      have hy : 369 ≤ yrs (offD n) := by
        false_or_by_contra
        rename_i hc
        have : startY (yrs (offD n) + 1) ≤ startY 369 := by unfold startY; omega
        have e2 : startY 369 = 134774 := by decide
        omega
      split <;> omega
    · split <;> omega
  refine ⟨?_, hy1⟩
  unfold mayC
  refine decide_eq_true ⟨by omega, by omega, a1, ?_⟩
  show dd (offD n) ≤ lenC (yD n) (mon (offD n))
  unfold lenC
  rw [if_neg (by omega)]
  rcases a4 with a4 | ⟨b1, b2, b3⟩
  · split
    · rename_i hq
      have : lenM (mon (offD n)) = 28 := by rw [hq.1]; rfl
      omega
    · exact a4
  · have hleap : leapC (yD n) = true := by
      have hl : startY (yrs (offD n) + 1) - startY (yrs (offD n)) = 366 := by
        have hu : startY (yrs (offD n) + 1) - startY (yrs (offD n)) ≤ 366 := by unfold startY; omega
        omega
      have hq : (yrs (offD n) + 1) % 4 = 0 ∧ ((yrs (offD n) + 1) % 100 ≠ 0 ∨ (yrs (offD n) + 1) % 400 = 0) := by unfold startY at hl; omega
      unfold leapC
      rw [hyl, if_pos (by omega)]
      exact decide_eq_true ⟨by omega, by omega⟩
    rw [if_pos ⟨b2, hleap⟩, b3]
    decide
end Go.Proofs.YtochhmkdhdadhaaGreat

namespace Go.Proofs.YtochhmkdhdadhaaGreat
open Go.RowKit
set_option linter.unusedSimpArgs false
set_option linter.unusedVariables false

/-- How many days lie ahead of a year, from 1970 on. -/
def jan (y : Int) : Int := 365 * (y - 1970) + (y - 1) / 4 - (y - 1) / 100 + (y - 1) / 400 - 477
def lpC (y : Int) : Int := if leapC y = true then 1 else 0
def cumM (m : Int) : Int := if m = 1 then 0 else if m = 2 then 31 else if m = 3 then 59 else if m = 4 then 90 else if m = 5 then 120 else if m = 6 then 151 else if m = 7 then 181 else if m = 8 then 212 else if m = 9 then 243 else if m = 10 then 273 else if m = 11 then 304 else if m = 12 then 334 else 365
/-- How many days of a year lie ahead of a month. -/
def cumC (y m : Int) : Int := cumM m + if 2 < m then lpC y else 0
theorem lpC_eq (y : Int) : lpC y = y / 4 - (y - 1) / 4 - (y / 100 - (y - 1) / 100) + (y / 400 - (y - 1) / 400) := by
  unfold lpC leapC
  by_cases h : y % 4 = 0 ∧ (y % 100 ≠ 0 ∨ y % 400 = 0)
  · rw [if_pos (by simpa using h)]; omega
  · rw [if_neg (by simpa using h)]; omega
theorem lpC_01 (y : Int) : lpC y = 0 ∨ lpC y = 1 := by unfold lpC; split <;> omega
theorem jan_succ (y : Int) : jan (y + 1) = jan y + 365 + lpC y := by
  rw [lpC_eq]; unfold jan
  rw [show y + 1 - 1 = y by omega]
  omega
theorem cumC_succ {y m : Int} (h1 : 1 ≤ m) (h2 : m ≤ 12) : cumC y (m + 1) = cumC y m + lenC y m := by
  have hl : lpC y = if leapC y = true then 1 else 0 := rfl
  obtain rfl | rfl | rfl | rfl | rfl | rfl | rfl | rfl | rfl | rfl | rfl | rfl : m = 1 ∨ m = 2 ∨ m = 3 ∨ m = 4 ∨ m = 5 ∨ m = 6 ∨ m = 7 ∨ m = 8 ∨ m = 9 ∨ m = 10 ∨ m = 11 ∨ m = 12 := by omega
  all_goals (unfold cumC lenC lenM cumM; simp [hl]; try (split <;> omega); try omega)
theorem cumC_one (y : Int) : cumC y 1 = 0 := by unfold cumC cumM; simp
theorem cumC_end (y : Int) : cumC y 13 = 365 + lpC y := by unfold cumC cumM; simp
def dayOk2 (l : Nat) : Bool :=
  let m := (5 * (l : Int) + 2) / 153
  let d := (l : Int) - (153 * m + 2) / 5 + 1
  let mo := (m + 2) % 12 + 1
  decide ((2 < mo → (l : Int) + 59 = cumM mo + d - 1) ∧ (mo ≤ 2 → (l : Int) - 306 = cumM mo + d - 1))
theorem day_all2 : (List.range 366).all dayOk2 = true := by decide +kernel
/-- The date's parts, told from January. -/
theorem date_jan {n : Int} (h : 0 ≤ n) (h1 : n < 146097) : n = jan (yD n) + cumC (yD n) (mD n) + dD n - 1 ∧ 1 ≤ mD n ∧ mD n ≤ 12 ∧ 1 ≤ dD n ∧ dD n ≤ lenC (yD n) (mD n) := by
  obtain ⟨o0, o1⟩ := offD_bd h
  obtain ⟨y0, y1, y2, y3⟩ := yrs_at o0 o1
  obtain ⟨l0, l1, l2⟩ := lft_bd o0 o1
  obtain ⟨m0, m1, d0, d1, q0, q1⟩ := mm_bd l1 l2
  obtain ⟨hmay, _, _⟩ := date_may h h1
  unfold mayC at hmay
  rw [decide_eq_true_eq] at hmay
  obtain ⟨L, hL⟩ := Int.eq_ofNat_of_zero_le l1
  have ha := List.all_eq_true.1 day_all2 L (List.mem_range.2 (by omega))
  unfold dayOk2 at ha
  simp only [decide_eq_true_eq] at ha
  have em : mm (offD n) = (5 * (L : Int) + 2) / 153 := by unfold mm; rw [hL]
  have ed : dd (offD n) = (L : Int) - (153 * ((5 * (L : Int) + 2) / 153) + 2) / 5 + 1 := by unfold dd; rw [em, hL]
  have eo : mon (offD n) = ((5 * (L : Int) + 2) / 153 + 2) % 12 + 1 := by unfold mon; rw [em]
  rw [← eo, ← ed] at ha
  have hD : dD n = dd (offD n) := rfl
  have hM : mD n = mon (offD n) := rfl
  have hn : n + 719468 = eraD n * 146097 + offD n := by unfold eraD offD; omega
  have hk4 : yrs (offD n) / 400 = 0 := by omega
  have hs : startY (yrs (offD n)) = 365 * yrs (offD n) + yrs (offD n) / 4 - yrs (offD n) / 100 := by unfold startY; omega
  have hmar : ∀ e k : Int, 0 ≤ k → k < 400 → jan (e * 400 + k) + lpC (e * 400 + k) + 59 = e * 146097 + (365 * k + k / 4 - k / 100) - 719468 := by
    intro e k hk0 hk1
    rw [lpC_eq]; unfold jan
    omega
  have hm0 := hmar (eraD n) (yrs (offD n)) y0 y1
  refine ⟨?_, by rw [hM]; omega, by rw [hM]; omega, by rw [hD]; omega, hmay.2.2.2⟩
  rw [hD, hM]
  by_cases h2 : mon (offD n) ≤ 2
  · have hy : yD n = eraD n * 400 + yrs (offD n) + 1 := by show _ + (if mon (offD n) ≤ 2 then 1 else 0) = _; rw [if_pos h2]
    have hq := ha.2 h2
    rw [hy, jan_succ]
    unfold cumC
    rw [if_neg (by omega)]
    omega
  · have hy : yD n = eraD n * 400 + yrs (offD n) := by show _ + (if mon (offD n) ≤ 2 then 1 else 0) = _; rw [if_neg h2]; omega
    have hq := ha.1 (by omega)
    rw [hy]
    unfold cumC
    rw [if_pos (by omega)]
    omega
theorem jan_mono {a b : Int} (h : a ≤ b) : jan a ≤ jan b := by
  obtain ⟨d, rfl⟩ : ∃ d : Nat, b = a + d := ⟨(b - a).toNat, by omega⟩
  clear h
  induction d with
  | zero => simp
  | succ d ih =>
    have h1 := jan_succ (a + d)
    have h2 := lpC_01 (a + d)
    rw [show a + ((d + 1 : Nat) : Int) = a + (d : Int) + 1 by omega]
    omega
theorem lenC_pos {y m : Int} (h1 : 1 ≤ m) (h2 : m ≤ 12) : 28 ≤ lenC y m ∧ lenC y m ≤ 31 := by
  unfold lenC lenM
  repeat' split
  all_goals omega
theorem cumC_mono {y a b : Int} (h1 : 1 ≤ a) (h : a ≤ b) (h2 : b ≤ 13) : cumC y a ≤ cumC y b := by
  obtain ⟨d, rfl⟩ : ∃ d : Nat, b = a + d := ⟨(b - a).toNat, by omega⟩
  clear h
  induction d with
  | zero => simp
  | succ d ih =>
    have h3 := ih (by omega)
    have h4 := cumC_succ (y := y) (m := a + d) (by omega) (by omega)
    have h5 := lenC_pos (y := y) (m := a + d) (by omega) (by omega)
    rw [show a + ((d + 1 : Nat) : Int) = a + (d : Int) + 1 by omega]
    omega
/-- Where the date's year, and month, lie. -/
theorem date_in {n : Int} (h : 0 ≤ n) (h1 : n < 146097) : jan (yD n) ≤ n ∧ n < jan (yD n + 1) ∧ jan (yD n) + cumC (yD n) (mD n) ≤ n ∧ n < jan (yD n) + cumC (yD n) (mD n + 1) ∧ 1970 ≤ yD n ∧ yD n ≤ 2369 := by
  obtain ⟨e, m1, m2, d1, d2⟩ := date_jan h h1
  have a1 := cumC_mono (y := yD n) (a := 1) (b := mD n) (by omega) m1 (by omega)
  have a2 := cumC_mono (y := yD n) (a := mD n + 1) (b := 13) (by omega) (by omega) (by omega)
  rw [cumC_one] at a1
  rw [cumC_end] at a2
  have a3 := cumC_succ (y := yD n) m1 m2
  have a4 := jan_succ (yD n)
  have b1 : jan 1970 = 0 := by decide
  have b2 : jan 2370 = 146097 := by decide
  have b3 : 1970 ≤ yD n := by
    false_or_by_contra
    have := jan_mono (a := yD n + 1) (b := 1970) (by omega)
    omega
  have b4 : yD n ≤ 2369 := by
    false_or_by_contra
    have := jan_mono (a := 2370) (b := yD n) (by omega)
    omega
  omega
end Go.Proofs.YtochhmkdhdadhaaGreat
