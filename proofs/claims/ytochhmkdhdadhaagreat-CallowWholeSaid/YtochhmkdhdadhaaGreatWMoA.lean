/- The walks of packages num, civil, tod, moment, as far as an instant's parts. -/
import Derived.Test.YtochhmkdhdadhaaGreatRCiv2
import Derived.OwnWalk
import Derived.Laws.ResultCell
namespace Go.Proofs.YtochhmkdhdadhaaGreat
open Go.RowKit
set_option linter.unusedSimpArgs false
set_option linter.unusedVariables false

theorem floor_pos (a b : Int) (ha : 0 ≤ a) (ha1 : a ≤ 1000000000000000) (hb : 1 ≤ b) (hb1 : b ≤ 1000000) (w : World) : Calls Tryz.prog 126 #[.int .i64 a, .int .i64 b] w (RetQ (.int .i64 (a / b)) w) := by
  have h1 : 0 ≤ a / b := Int.ediv_nonneg ha (by omega)
  have h2 : 0 ≤ a % b := Int.emod_nonneg _ (by omega)
  have h3 : ¬ a % b < 0 := by omega
  have hq : ¬ b < 1 := by omega
  have hb0 : (b == 0) = false := by simp; omega
  go_enter Tryz.func126, Tryz.ntmps126
  go_wp2
  go_ret
  exact ⟨rfl, rfl⟩
theorem mod_pos (a b : Int) (ha : 0 ≤ a) (ha1 : a ≤ 1000000000000000) (hb : 1 ≤ b) (hb1 : b ≤ 1000000) (w : World) : Calls Tryz.prog 127 #[.int .i64 a, .int .i64 b] w (RetQ (.int .i64 (a % b)) w) := by
  have h2 : 0 ≤ a % b := Int.emod_nonneg _ (by omega)
  have h3 : ¬ a % b < 0 := by omega
  have hq : ¬ b < 1 := by omega
  have hb0 : (b == 0) = false := by simp; omega
  go_enter Tryz.func127, Tryz.ntmps127
  go_wp2
  go_ret
  exact ⟨rfl, rfl⟩
set_option maxHeartbeats 1000000 in
theorem leap_any (y : Int) (h0 : 0 ≤ y) (h1 : y ≤ 3000000000) (w : World) : Calls Tryz.prog 130 #[.int .i64 y] w (RetQ (.bool (leapC y)) w) := by
  generalize hq : leapC y = q
  have HQ := Lib.hid hq
  clear hq
  go_enter Tryz.func130, Tryz.ntmps130
  go_wp2
  all_goals go_ret
  all_goals (refine ⟨ret_bool ?_, rfl⟩; rw [← HQ.out]; ((try simp only [beq_iff_eq, beq_eq_false_iff_ne, bne_iff_ne, ne_eq, leapC, decide_eq_true_eq, decide_eq_false_iff_not, Bool.and_eq_true, Bool.or_eq_true, Bool.not_eq_true', Bool.not_eq_false', Bool.and_eq_false_iff, Bool.or_eq_false_iff] at *)
                                                        rw [Bool.eq_iff_iff]
                                                        (try simp only [leapC, decide_eq_true_eq, beq_iff_eq, bne_iff_ne, ne_eq, Bool.and_eq_true, Bool.or_eq_true, Bool.not_eq_true', Bool.not_eq_false', beq_eq_false_iff_ne, decide_eq_false_iff_not, iff_true, true_iff, Bool.false_eq_true, false_iff, iff_false, reduceCtorEq])
                                                        omega))
theorem lenC_at {y m : Int} (h1 : 1 ≤ m) (h2 : m ≤ 12) (h : ¬ (m = 2 ∧ leapC y = true)) : lenC y m = lenM m := by
  unfold lenC; rw [if_neg (by omega), if_neg h]
set_option maxRecDepth 10000 in
set_option maxHeartbeats 4000000 in
theorem length_any (y m : Int) (h0 : 0 ≤ y) (h1 : y ≤ 3000000000) (w : World) : Calls Tryz.prog 129 #[.int .i64 y, .int .i64 m] w (Ret (.int .i64 (lenC y m)) w) := by
  by_cases hm1 : m < 1
  · have HR : Hid (lenC y m = 0) := by show _ = _; unfold lenC; rw [if_pos (.inl hm1)]
    go_enter Tryz.func129, Tryz.ntmps129
    go_wp2
    go_ret
    exact ⟨ret_int HR.out.symm, Below.refl _ _⟩
  by_cases hm2 : 12 < m
  · have HR : Hid (lenC y m = 0) := by show _ = _; unfold lenC; rw [if_pos (.inr hm2)]
    go_enter Tryz.func129, Tryz.ntmps129
    go_wp2
    go_ret
    exact ⟨ret_int HR.out.symm, Below.refl _ _⟩
  by_cases hm : m = 2
  · subst hm
    have HL := Lib.hid (leap_any y h0 h1)
    cases hl : leapC y with
    | true =>
      have HR : Hid (lenC y 2 = 29) := by show _ = _; unfold lenC; rw [if_neg (by omega), if_pos ⟨rfl, hl⟩]
      rw [hl] at HL
      clear hl
      go_enter Tryz.func129, Tryz.ntmps129
      go_wp2_with fail
      refine (HL.out _).mono ?_
      rintro e w1 ⟨rfl, rfl⟩
      go_wp2
      go_ret
      exact ⟨ret_int HR.out.symm, by (repeat' (first | (with_reducible exact Below.refl _ _) | (with_reducible assumption) | (with_reducible refine below_drewN ?_ _) | (with_reducible refine Below.alloc ?_ ?_ _) | (with_reducible refine Below.drew ?_) | (with_reducible refine Below.setCell ?_ ?_ _) | go_size))⟩
    | false =>
      have HR : Hid (lenC y 2 = 28) := by show _ = _; rw [lenC_at (by omega) (by omega) (by rw [hl]; simp)]; rfl
      rw [hl] at HL
      clear hl
      go_enter Tryz.func129, Tryz.ntmps129
      go_wp2_with fail
      refine (HL.out _).mono ?_
      rintro e w1 ⟨rfl, rfl⟩
      go_wp2
      go_ret
      exact ⟨ret_int HR.out.symm, by (repeat' (first | (with_reducible exact Below.refl _ _) | (with_reducible assumption) | (with_reducible refine below_drewN ?_ _) | (with_reducible refine Below.alloc ?_ ?_ _) | (with_reducible refine Below.drew ?_) | (with_reducible refine Below.setCell ?_ ?_ _) | go_size))⟩
  · have HR : Hid (lenC y m = lenM m) := lenC_at (by omega) (by omega) (by omega)
    obtain rfl | rfl | rfl | rfl | rfl | rfl | rfl | rfl | rfl | rfl | rfl : m = 1 ∨ m = 3 ∨ m = 4 ∨ m = 5 ∨ m = 6 ∨ m = 7 ∨ m = 8 ∨ m = 9 ∨ m = 10 ∨ m = 11 ∨ m = 12 := by omega
    all_goals
      clear hm1 hm2 hm
      go_enter Tryz.func129, Tryz.ntmps129
      go_wp2
      go_ret
      exact ⟨ret_int HR.out.symm, by (repeat' (first | (with_reducible exact Below.refl _ _) | (with_reducible assumption) | (with_reducible refine below_drewN ?_ _) | (with_reducible refine Below.alloc ?_ ?_ _) | (with_reducible refine Below.drew ?_) | (with_reducible refine Below.setCell ?_ ?_ _) | go_size))⟩
set_option maxHeartbeats 1000000 in
theorem cvmay_any (y m d : Int) (h0 : 0 ≤ y) (h1 : y ≤ 1000000000) (w : World) : Calls Tryz.prog 128 #[.int .i64 y, .int .i64 m, .int .i64 d] w (Ret (.bool (mayC y m d)) w) := by
  have HL := Lib.hid (length_any y m h0 (by omega))
  have hy : -1000000000 ≤ y := by omega
  by_cases hd : 1 ≤ d
  · have HR : Hid (mayC y m d = decide (d ≤ lenC y m)) := by show _ = _; unfold mayC; simp only [hy, h1, hd, true_and]
    generalize lenC y m = q at *
    go_enter Tryz.func128, Tryz.ntmps128
    go_wp2_with fail
    refine (HL.out _).mono ?_
    rintro e w1 ⟨rfl, hb⟩
    go_wp2
    go_ret
    exact ⟨ret_bool HR.out.symm, hb⟩
  · have HR : Hid (mayC y m d = false) := by show _ = _; unfold mayC; exact decide_eq_false (by omega)
    go_enter Tryz.func128, Tryz.ntmps128
    go_wp2
    go_ret
    exact ⟨ret_bool HR.out.symm, Below.refl _ _⟩
theorem results_tmp4 {fn : Func} {t u v x : Tmp} (h : fn.results = #[.tmp t, .tmp u, .tmp v, .tmp x]) (tmps : Array Value) (P : Program) (w : World) :
    (results fn tmps).run P w = .ok (.tuple #[tmps.getD t undef, tmps.getD u undef, tmps.getD v undef, tmps.getD x undef]) w := by
  simp [results, h]
set_option maxRecDepth 10000 in
set_option maxHeartbeats 4000000 in
theorem date_any (n : Int) (h : 0 ≤ n) (h1 : n < 146097) (w : World) : Calls Tryz.prog 98 #[.int .i64 n] w (Ret (.tuple #[.int .i64 (yD n), .int .i64 (mD n), .int .i64 (dD n), .bool true]) w) := by
  obtain ⟨o0, o1⟩ := offD_bd h
  obtain ⟨e0, e1⟩ := eraD_bd h h1
  obtain ⟨y0, y1, _, _⟩ := yrs_at o0 o1
  obtain ⟨l0, l1, l2⟩ := lft_bd o0 o1
  obtain ⟨m0, m1, d0, d1, q0, q1⟩ := mm_bd l1 l2
  obtain ⟨hmay, hy0, hy1⟩ := date_may h h1
  have HM := Lib.hid (cvmay_any (yD n) (mD n) (dD n) (by omega) (by omega))
  rw [hmay] at HM
  have HF1 := Lib.hid (floor_pos n 365 h (by omega) (by omega) (by omega))
  have HF2 := Lib.hid (floor_pos (n + 719468) 146097 (by omega) (by omega) (by omega) (by omega))
  have HM2 := Lib.hid (mod_pos (n + 719468) 146097 (by omega) (by omega) (by omega) (by omega))
  have f0 : 0 ≤ n / 365 := by omega
  have f1 : n / 365 ≤ 2000000000 := by omega
  have HY : Hid (yD n = if mD n ≤ 2 then eraD n * 400 + yrs (offD n) + 1 else eraD n * 400 + yrs (offD n)) := by
    show _ = _
    unfold yD
    split <;> omega
  rw [show (n + 719468) / 146097 = eraD n from rfl] at HF2
  rw [show (n + 719468) % 146097 = offD n from rfl] at HM2
  have E1 : (offD n - offD n / 1460 + offD n / 36524 - offD n / 146096) / 365 = yrs (offD n) := rfl
  have E2 : offD n - (yrs (offD n) * 365 + yrs (offD n) / 4 - yrs (offD n) / 100) = lft (offD n) := rfl
  have E3 : (5 * lft (offD n) + 2) / 153 = mm (offD n) := rfl
  have E4 : lft (offD n) - (153 * mm (offD n) + 2) / 5 + 1 = dD n := rfl
  have E5 : (mm (offD n) + 2) % 12 + 1 = mD n := rfl
  change 1 ≤ dD n at d0
  change dD n ≤ 31 at d1
  change 1 ≤ mD n at q0
  change mD n ≤ 12 at q1
  clear hmay l0
  generalize yD n = YY at *
  generalize mD n = MM at *
  generalize dD n = DD at *
  generalize mm (offD n) = M at *
  generalize lft (offD n) = L at *
  generalize yrs (offD n) = Y at *
  generalize eraD n = E at *
  generalize offD n = o at *
  by_cases hm : MM ≤ 2
  · have HY2 := HY.out
    rw [if_pos hm] at HY2
    subst HY2
    clear HY
    go_enter Tryz.func98, Tryz.ntmps98
    go_wp2_with fail
    refine (HF1.out _).mono ?_
    rintro e w1 ⟨rfl, rfl⟩
    go_wp2_with fail
    refine (HF1.out _).mono ?_
    rintro e w1 ⟨rfl, rfl⟩
    go_wp2_with fail
    refine (HF2.out _).mono ?_
    rintro e w1 ⟨rfl, rfl⟩
    go_wp2_with fail
    refine (HM2.out _).mono ?_
    rintro e w1 ⟨rfl, rfl⟩
    go_wp2_with fail
    refine (HM.out _).mono ?_
    rintro e w1 ⟨rfl, hb⟩
    go_wp2
    (try simp only [Exit.inBlock, Exit.then])
    refine bodyPost_ret (results_tmp4 rfl _ _ _) rfl ?_
    exact ⟨rfl, hb⟩
  · have HY2 := HY.out
    rw [if_neg hm] at HY2
    subst HY2
    clear HY
    go_enter Tryz.func98, Tryz.ntmps98
    go_wp2_with fail
    refine (HF1.out _).mono ?_
    rintro e w1 ⟨rfl, rfl⟩
    go_wp2_with fail
    refine (HF1.out _).mono ?_
    rintro e w1 ⟨rfl, rfl⟩
    go_wp2_with fail
    refine (HF2.out _).mono ?_
    rintro e w1 ⟨rfl, rfl⟩
    go_wp2_with fail
    refine (HM2.out _).mono ?_
    rintro e w1 ⟨rfl, rfl⟩
    go_wp2_with fail
    refine (HM.out _).mono ?_
    rintro e w1 ⟨rfl, hb⟩
    go_wp2
    (try simp only [Exit.inBlock, Exit.then])
    refine bodyPost_ret (results_tmp4 rfl _ _ _) rfl ?_
    exact ⟨rfl, hb⟩
set_option maxHeartbeats 1000000 in
theorem parts_any (s : Int) (h : 0 ≤ s) (h1 : s < 86400) (w : World) : Calls Tryz.prog 95 #[.int .i64 s] w (RetQ (.tuple #[.int .i64 (s / 3600), .int .i64 (s / 60 % 60), .int .i64 (s % 60), .bool true]) w) := by
  have e1 : 0 ≤ s / 60 := by omega
  have h2 : ¬ s < 0 := by omega
  have h3 : ¬ 86400 ≤ s := by omega
  go_enter Tryz.func95, Tryz.ntmps95
  go_wp2
  (try simp only [Exit.inBlock, Exit.then])
  refine bodyPost_ret (results_tmp4 rfl _ _ _) rfl ?_
  exact ⟨rfl, rfl⟩
/-- Is an instant of the window? -/
def inC (t : Int) : Bool := decide (0 ≤ t ∧ t < 12622780800)
theorem in_any (t : Int) (w : World) : Calls Tryz.prog 35 #[.int .i64 t] w (RetQ (.bool (inC t)) w) := by
  generalize hq : inC t = q
  have HQ := Lib.hid hq
  clear hq
  go_enter Tryz.func35, Tryz.ntmps35
  go_wp2
  all_goals go_ret
  all_goals (refine ⟨ret_bool ?_, rfl⟩; rw [← HQ.out]; ((try simp only [beq_iff_eq, beq_eq_false_iff_ne, bne_iff_ne, ne_eq, inC, decide_eq_true_eq, decide_eq_false_iff_not, Bool.and_eq_true, Bool.or_eq_true, Bool.not_eq_true', Bool.not_eq_false', Bool.and_eq_false_iff, Bool.or_eq_false_iff] at *)
                                                        rw [Bool.eq_iff_iff]
                                                        (try simp only [inC, decide_eq_true_eq, beq_iff_eq, bne_iff_ne, ne_eq, Bool.and_eq_true, Bool.or_eq_true, Bool.not_eq_true', Bool.not_eq_false', beq_eq_false_iff_ne, decide_eq_false_iff_not, iff_true, true_iff, Bool.false_eq_true, false_iff, iff_false, reduceCtorEq])
                                                        omega))
theorem split_ok (t : Int) (h : inC t = true) (w : World) : Calls Tryz.prog 62 #[.int .i64 t] w (RetQ (.tuple #[.int .i64 (t / 86400), .int .i64 (t % 86400), .bool true]) w) := by
  have HI := Lib.hid (in_any t)
  rw [h] at HI
  unfold inC at h
  rw [decide_eq_true_eq] at h
  obtain ⟨h0, h1⟩ := h
  go_enter Tryz.func62, Tryz.ntmps62
  go_wp2_with fail
  refine (HI.out _).mono ?_
  rintro e w1 ⟨rfl, rfl⟩
  go_wp2
  go_ret3
  exact ⟨rfl, rfl⟩
theorem split_bad (t : Int) (h : inC t = false) (w : World) : Calls Tryz.prog 62 #[.int .i64 t] w (RetQ (.tuple #[.int .i64 0, .int .i64 0, .bool false]) w) := by
  have HI := Lib.hid (in_any t)
  rw [h] at HI
  clear h
  go_enter Tryz.func62, Tryz.ntmps62
  go_wp2_with fail
  refine (HI.out _).mono ?_
  rintro e w1 ⟨rfl, rfl⟩
  go_wp2
  go_ret3
  exact ⟨rfl, rfl⟩
/-- An instant's parts. -/
def stV (t : Int) : Value := .agg #[.int .i64 (yD (t / 86400)), .int .i64 (mD (t / 86400)), .int .i64 (dD (t / 86400)), .int .i64 (t % 86400 / 3600), .int .i64 (t % 86400 / 60 % 60), .int .i64 (t % 86400 % 60)]
end Go.Proofs.YtochhmkdhdadhaaGreat
