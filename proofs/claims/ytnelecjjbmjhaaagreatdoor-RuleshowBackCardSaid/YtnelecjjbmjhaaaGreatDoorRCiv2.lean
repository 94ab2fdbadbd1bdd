/- The calendar, counted from January: plain. -/
import Derived.Test.YtnelecjjbmjhaaaGreatDoorRCiv
namespace Go.Proofs.YtnelecjjbmjhaaaGreatDoor
open Go.RowKit
set_option linter.unusedSimpArgs false
set_option linter.unusedVariables false

/-- How many days lie ahead of a year, from 1970 on. -/
def jan (y : Int) : Int := 365 * (y - 1970) + (y - 1) / 4 - (y - 1) / 100 + (y - 1) / 400 - 477
def lpC (y : Int) : Int := if leapC y = true then 1 else 0
def cumM (m : Int) : Int := if m = 1 then 0 else if m = 2 then 31 else if m = 3 then 59 else if m = 4 then 90 else if m = 5 then 120 else if m = 6 then 151 else if m = 7 then 181 else if m = 8 then 212 else if m = 9 then 243 else if m = 10 then 273 else if m = 11 then 304 else if m = 12 then 334 else 365
/-- How many days of a year lie ahead of a month. -/
def cumC (y m : Int) : Int := cumM m + if 2 < m then lpC y else 0
theorem lpC_eq (y : Int) : lpC y = y / 4 - (y - 1) / 4 - (y / 100 - (y - 1) / 100) + (y / 400 - (y - 1) / 400) := by
  unfold lpC leapC
  by_cases h : y % 4 = 0 ∧ (y % 100 ≠ 0 ∨ y % 400 = 0)
  · rw [if_pos (by simpa using h)]; omega
  · rw [if_neg (by simpa using h)]; omega
theorem lpC_01 (y : Int) : lpC y = 0 ∨ lpC y = 1 := by unfold lpC; split <;> omega
theorem jan_succ (y : Int) : jan (y + 1) = jan y + 365 + lpC y := by
  rw [lpC_eq]; unfold jan
  rw [show y + 1 - 1 = y by omega]
  omega
theorem cumC_succ {y m : Int} (h1 : 1 ≤ m) (h2 : m ≤ 12) : cumC y (m + 1) = cumC y m + lenC y m := by
  have hl : lpC y = if leapC y = true then 1 else 0 := rfl
  obtain rfl | rfl | rfl | rfl | rfl | rfl | rfl | rfl | rfl | rfl | rfl | rfl : m = 1 ∨ m = 2 ∨ m = 3 ∨ m = 4 ∨ m = 5 ∨ m = 6 ∨ m = 7 ∨ m = 8 ∨ m = 9 ∨ m = 10 ∨ m = 11 ∨ m = 12 := by omega
  all_goals (unfold cumC lenC lenM cumM; simp [hl]; try (split <;> omega); try omega)
theorem cumC_one (y : Int) : cumC y 1 = 0 := by unfold cumC cumM; simp
theorem cumC_end (y : Int) : cumC y 13 = 365 + lpC y := by unfold cumC cumM; simp
def dayOk2 (l : Nat) : Bool :=
  let m := (5 * (l : Int) + 2) / 153
  let d := (l : Int) - (153 * m + 2) / 5 + 1
  let mo := (m + 2) % 12 + 1
  decide ((2 < mo → (l : Int) + 59 = cumM mo + d - 1) ∧ (mo ≤ 2 → (l : Int) - 306 = cumM mo + d - 1))
theorem day_all2 : (List.range 366).all dayOk2 = true := by decide +kernel
/-- The date's parts, told from January. -/
theorem date_jan {n : Int} (h : 0 ≤ n) (h1 : n < 146097) : n = jan (yD n) + cumC (yD n) (mD n) + dD n - 1 ∧ 1 ≤ mD n ∧ mD n ≤ 12 ∧ 1 ≤ dD n ∧ dD n ≤ lenC (yD n) (mD n) := by
  obtain ⟨o0, o1⟩ := offD_bd h
  obtain ⟨y0, y1, y2, y3⟩ := yrs_at o0 o1
  obtain ⟨l0, l1, l2⟩ := lft_bd o0 o1
  obtain ⟨m0, m1, d0, d1, q0, q1⟩ := mm_bd l1 l2
  obtain ⟨hmay, _, _⟩ := date_may h h1
  unfold mayC at hmay
  rw [decide_eq_true_eq] at hmay
  obtain ⟨L, hL⟩ := Int.eq_ofNat_of_zero_le l1
  have ha := List.all_eq_true.1 day_all2 L (List.mem_range.2 (by omega))
  unfold dayOk2 at ha
  simp only [decide_eq_true_eq] at ha
  have em : mm (offD n) = (5 * (L : Int) + 2) / 153 := by unfold mm; rw [hL]
  have ed : dd (offD n) = (L : Int) - (153 * ((5 * (L : Int) + 2) / 153) + 2) / 5 + 1 := by unfold dd; rw [em, hL]
  have eo : mon (offD n) = ((5 * (L : Int) + 2) / 153 + 2) % 12 + 1 := by unfold mon; rw [em]
  rw [← eo, ← ed] at ha
  have hD : dD n = dd (offD n) := rfl
  have hM : mD n = mon (offD n) := rfl
  have hn : n + 719468 = eraD n * 146097 + offD n := by unfold eraD offD; omega
  have hk4 : yrs (offD n) / 400 = 0 := by omega
  have hs : startY (yrs (offD n)) = 365 * yrs (offD n) + yrs (offD n) / 4 - yrs (offD n) / 100 := by unfold startY; omega
  have hmar : ∀ e k : Int, 0 ≤ k → k < 400 → jan (e * 400 + k) + lpC (e * 400 + k) + 59 = e * 146097 + (365 * k + k / 4 - k / 100) - 719468 := by
    intro e k hk0 hk1
    rw [lpC_eq]; unfold jan
    omega
  have hm0 := hmar (eraD n) (yrs (offD n)) y0 y1
  refine ⟨?_, by rw [hM]; omega, by rw [hM]; omega, by rw [hD]; omega, hmay.2.2.2⟩
  rw [hD, hM]
  by_cases h2 : mon (offD n) ≤ 2
  · have hy : yD n = eraD n * 400 + yrs (offD n) + 1 := by show _ + (if mon (offD n) ≤ 2 then 1 else 0) = _; rw [if_pos h2]
    have hq := ha.2 h2
    rw [hy, jan_succ]
    unfold cumC
    rw [if_neg (by omega)]
    omega
  · have hy : yD n = eraD n * 400 + yrs (offD n) := by show _ + (if mon (offD n) ≤ 2 then 1 else 0) = _; rw [if_neg h2]; omega
    have hq := ha.1 (by omega)
    rw [hy]
    unfold cumC
    rw [if_pos (by omega)]
    omega
theorem jan_mono {a b : Int} (h : a ≤ b) : jan a ≤ jan b := by
  obtain ⟨d, rfl⟩ : ∃ d : Nat, b = a + d := ⟨(b - a).toNat, by omega⟩
  clear h
  induction d with
  | zero => simp
  | succ d ih =>
    have h1 := jan_succ (a + d)
    have h2 := lpC_01 (a + d)
    rw [show a + ((d + 1 : Nat) : Int) = a + (d : Int) + 1 by omega]
    omega
theorem lenC_pos {y m : Int} (h1 : 1 ≤ m) (h2 : m ≤ 12) : 28 ≤ lenC y m ∧ lenC y m ≤ 31 := by
  unfold lenC lenM
  repeat' split
  all_goals omega
theorem cumC_mono {y a b : Int} (h1 : 1 ≤ a) (h : a ≤ b) (h2 : b ≤ 13) : cumC y a ≤ cumC y b := by
  obtain ⟨d, rfl⟩ : ∃ d : Nat, b = a + d := ⟨(b - a).toNat, by omega⟩
  clear h
  induction d with
  | zero => simp
  | succ d ih =>
    have h3 := ih (by omega)
    have h4 := cumC_succ (y := y) (m := a + d) (by omega) (by omega)
    have h5 := lenC_pos (y := y) (m := a + d) (by omega) (by omega)
    rw [show a + ((d + 1 : Nat) : Int) = a + (d : Int) + 1 by omega]
    omega
/-- Where the date's year, and month, lie. -/
theorem date_in {n : Int} (h : 0 ≤ n) (h1 : n < 146097) : jan (yD n) ≤ n ∧ n < jan (yD n + 1) ∧ jan (yD n) + cumC (yD n) (mD n) ≤ n ∧ n < jan (yD n) + cumC (yD n) (mD n + 1) ∧ 1970 ≤ yD n ∧ yD n ≤ 2369 := by
  obtain ⟨e, m1, m2, d1, d2⟩ := date_jan h h1
  have a1 := cumC_mono (y := yD n) (a := 1) (b := mD n) (by omega) m1 (by omega)
  have a2 := cumC_mono (y := yD n) (a := mD n + 1) (b := 13) (by omega) (by omega) (by omega)
  rw [cumC_one] at a1
  rw [cumC_end] at a2
  have a3 := cumC_succ (y := yD n) m1 m2
  have a4 := jan_succ (yD n)
  have b1 : jan 1970 = 0 := by decide
  have b2 : jan 2370 = 146097 := by decide
  have b3 : 1970 ≤ yD n := by
    false_or_by_contra
    have := jan_mono (a := yD n + 1) (b := 1970) (by omega)
    omega
  have b4 : yD n ≤ 2369 := by
    false_or_by_contra
    have := jan_mono (a := 2370) (b := yD n) (by omega)
    omega
  omega
end Go.Proofs.YtnelecjjbmjhaaaGreatDoor
