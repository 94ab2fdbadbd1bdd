/- The walks of the references' calendar and instants. -/
import Derived.Test.YtochhmkdhdadhaaGreatRCiv2
import Derived.Test.YtochhmkdhdadhaaGreatWMoB
import Derived.Test.YtochhmkdhdadhaaGreatWShow4
namespace Go.Proofs.YtochhmkdhdadhaaGreat
open Go.RowKit
set_option linter.unusedSimpArgs false
set_option linter.unusedVariables false

set_option maxHeartbeats 1000000 in
theorem leap05_any (y : Int) (h0 : 0 ≤ y) (h1 : y ≤ 3000000000) (w : World) : Calls Tryz.prog 138 #[.int .i64 y] w (RetQ (.bool (leapC y)) w) := by
  generalize hq : leapC y = q
  have HQ := Lib.hid hq
  clear hq
  go_enter Tryz.func138, Tryz.ntmps138
  go_wp2
  all_goals go_ret
  all_goals (refine ⟨ret_bool ?_, rfl⟩; rw [← HQ.out]; ((try simp only [beq_iff_eq, beq_eq_false_iff_ne, bne_iff_ne, ne_eq, leapC, decide_eq_true_eq, decide_eq_false_iff_not, Bool.and_eq_true, Bool.or_eq_true, Bool.not_eq_true', Bool.not_eq_false', Bool.and_eq_false_iff, Bool.or_eq_false_iff] at *)
                                                        rw [Bool.eq_iff_iff]
                                                        (try simp only [leapC, decide_eq_true_eq, beq_iff_eq, bne_iff_ne, ne_eq, Bool.and_eq_true, Bool.or_eq_true, Bool.not_eq_true', Bool.not_eq_false', beq_eq_false_iff_ne, decide_eq_false_iff_not, iff_true, true_iff, Bool.false_eq_true, false_iff, iff_false, reduceCtorEq])
                                                        (first | done | omega)))
set_option maxRecDepth 10000 in
set_option maxHeartbeats 4000000 in
theorem length05_any (y m : Int) (h0 : 0 ≤ y) (h1 : y ≤ 3000000000) (hm1 : 1 ≤ m) (hm2 : m ≤ 12) (w : World) : Calls Tryz.prog 102 #[.int .i64 y, .int .i64 m] w (RetQ (.int .i64 (lenC y m)) w) := by
  by_cases hm : m = 2
  · subst hm
    have HL := Lib.hid (leap05_any y h0 h1)
    cases hl : leapC y with
    | true =>
      have HR : Hid (lenC y 2 = 29) := by show _ = _; unfold lenC; rw [if_neg (by omega), if_pos ⟨rfl, hl⟩]
      rw [hl] at HL
      clear hl
      go_enter Tryz.func102, Tryz.ntmps102
      go_wp2_with fail
      refine (HL.out _).mono ?_
      rintro e w1 ⟨rfl, rfl⟩
      go_wp2
      go_ret
      exact ⟨ret_int HR.out.symm, rfl⟩
    | false =>
      have HR : Hid (lenC y 2 = 28) := by show _ = _; rw [lenC_at (by omega) (by omega) (by rw [hl]; simp)]; rfl
      rw [hl] at HL
      clear hl
      go_enter Tryz.func102, Tryz.ntmps102
      go_wp2_with fail
      refine (HL.out _).mono ?_
      rintro e w1 ⟨rfl, rfl⟩
      go_wp2
      go_ret
      exact ⟨ret_int HR.out.symm, rfl⟩
  · have HR : Hid (lenC y m = lenM m) := lenC_at (by omega) (by omega) (by omega)
    obtain rfl | rfl | rfl | rfl | rfl | rfl | rfl | rfl | rfl | rfl | rfl : m = 1 ∨ m = 3 ∨ m = 4 ∨ m = 5 ∨ m = 6 ∨ m = 7 ∨ m = 8 ∨ m = 9 ∨ m = 10 ∨ m = 11 ∨ m = 12 := by omega
    all_goals
      clear hm1 hm2 hm
      go_enter Tryz.func102, Tryz.ntmps102
      go_wp2
      go_ret
      exact ⟨ret_int HR.out.symm, rfl⟩
theorem year05_any (y : Int) (h0 : 0 ≤ y) (h1 : y ≤ 3000000000) (w : World) : Calls Tryz.prog 105 #[.int .i64 y] w (RetQ (.int .i64 (365 + lpC y)) w) := by
  have HL := Lib.hid (leap05_any y h0 h1)
  cases hl : leapC y with
  | true =>
    have HR : Hid (lpC y = 1) := by show _ = _; unfold lpC; rw [if_pos hl]
    rw [hl] at HL
    clear hl
    go_enter Tryz.func105, Tryz.ntmps105
    go_wp2_with fail
    refine (HL.out _).mono ?_
    rintro e w1 ⟨rfl, rfl⟩
    go_wp2
    go_ret
    exact ⟨ret_int (by rw [HR.out]; rfl), rfl⟩
  | false =>
    have HR : Hid (lpC y = 0) := by show _ = _; unfold lpC; rw [if_neg (by rw [hl]; decide)]
    rw [hl] at HL
    clear hl
    go_enter Tryz.func105, Tryz.ntmps105
    go_wp2_with fail
    refine (HL.out _).mono ?_
    rintro e w1 ⟨rfl, rfl⟩
    go_wp2
    go_ret
    exact ⟨ret_int (by rw [HR.out]; rfl), rfl⟩
theorem floor01_pos (a b : Int) (ha : 0 ≤ a) (ha1 : a ≤ 1000000000000000) (hb : 1 ≤ b) (hb1 : b ≤ 1000000) (w : World) : Calls Tryz.prog 107 #[.int .i64 a, .int .i64 b] w (RetQ (.int .i64 (a / b)) w) := by
  have h1 : 0 ≤ a / b := Int.ediv_nonneg ha (by omega)
  have h2 : 0 ≤ a % b := Int.emod_nonneg _ (by omega)
  have h3 : ¬ a % b < 0 := by omega
  have hq : ¬ b < 1 := by omega
  have hb0 : (b == 0) = false := by simp; omega
  go_enter Tryz.func107, Tryz.ntmps107
  go_wp2
  go_ret
  exact ⟨rfl, rfl⟩
set_option maxRecDepth 10000 in
set_option maxHeartbeats 4000000 in
theorem date05_any (n : Int) (h : 0 ≤ n) (h1 : n < 146097) (w : World) : Calls Tryz.prog 70 #[.int .i64 n] w (RetQ (.tuple #[.int .i64 (yD n), .int .i64 (mD n), .int .i64 (dD n), .bool true]) w) := by
  obtain ⟨e, m1, m2, d1, d2⟩ := date_jan h h1
  obtain ⟨i1, i2, i3, i4, y1, y2⟩ := date_in h h1
  have HF := Lib.hid (floor01_pos n 146097 h (by omega) (by omega) (by omega))
  rw [show n / 146097 = 0 by omega] at HF
  have HD : Hid (dD n = n - jan (yD n) - cumC (yD n) (mD n) + 1) := by show _ = _; omega
  have HY := Lib.hid (fun y (h0 : 0 ≤ y) (h1 : y ≤ 3000000000) W => year05_any y h0 h1 W)
  have HL := Lib.hid (fun y m (h0 : 0 ≤ y) (h1 : y ≤ 3000000000) (hm1 : 1 ≤ m) (hm2 : m ≤ 12) W => length05_any y m h0 h1 hm1 hm2 W)
  clear e d1 d2
  generalize dD n = D at *
  go_enter Tryz.func70, Tryz.ntmps70
  go_wp2_with fail
  refine (HF.out _).mono ?_
  rintro e w1 ⟨rfl, rfl⟩
  go_wp2
  go_loop [7, 8] (fun lv yv => ∃ y : Int, 1970 ≤ y ∧ y ≤ yD n ∧ yv = .int .i64 y ∧ lv = .int .i64 (n - jan y)) (fun _ yv => (2400 - intOf yv).toNat)
  case atStart => exact ⟨1970, by omega, y1, rfl, by rw [show jan 1970 = 0 by decide]; simp⟩
  case round =>
    obtain ⟨y, hy0, hy1, rfl, rfl⟩ := hrel
    have HS := Lib.hid (jan_succ y)
    have hj0 := jan_mono (a := 1970) (b := y) hy0
    rw [show jan 1970 = 0 by decide] at hj0
    have hlp := lpC_01 y
    have hjy := jan_mono hy1
    by_cases hlt : y < yD n
    · have hge : 365 + lpC y ≤ n - jan y := by
        have := jan_mono (a := y + 1) (b := yD n) (by omega)
        have := HS.out
        omega
      have hY := HY.out y (by omega) (by omega)
      have HN : Hid (n - jan y - (365 + lpC y) = n - jan (y + 1)) := by show _ = _; have := HS.out; omega
      generalize jan y = J at *
      generalize lpC y = P at *
      go_wp2_with fail
      refine (hY _).mono ?_
      rintro e w1 ⟨rfl, rfl⟩
      go_wp2_with fail
      refine (hY _).mono ?_
      rintro e w1 ⟨rfl, rfl⟩
      go_wp2
      go_round
      case rel => exact ⟨y + 1, by omega, by omega, rfl, by rw [HN.out]⟩
      case measure => simp [intOf]; omega
    · obtain rfl : y = yD n := by omega
      have hge : ¬ 365 + lpC (yD n) ≤ n - jan (yD n) := by
        have := HS.out
        omega
      have hY := HY.out (yD n) (by omega) (by omega)
      clear hlt
      generalize yD n = Y at *
      generalize hJ : jan Y = J at *
      generalize mD n = M at *
      go_wp2_with fail
      refine (hY _).mono ?_
      rintro e w1 ⟨rfl, rfl⟩
      go_wp2
      go_loop [7, 9] (fun lv mv => ∃ m : Int, 1 ≤ m ∧ m ≤ M ∧ mv = .int .i64 m ∧ lv = .int .i64 (n - J - cumC Y m)) (fun _ mv => (13 - intOf mv).toNat)
      case atStart => exact ⟨1, by omega, m1, rfl, by rw [cumC_one]; simp⟩
      case round =>
        obtain ⟨m, hm0, hm1, rfl, rfl⟩ := hrel
        have HC := Lib.hid (cumC_succ (y := Y) (m := m) hm0 (by omega))
        have hc0 := cumC_mono (y := Y) (a := 1) (b := m) (by omega) hm0 (by omega)
        rw [cumC_one] at hc0
        have hcM := cumC_mono (y := Y) (a := m) (b := M) hm0 hm1 (by omega)
        have hlp2 := lenC_pos (y := Y) (m := m) hm0 (by omega)
        by_cases hltm : m < M
        · have hge2 : lenC Y m ≤ n - J - cumC Y m := by
            have := cumC_mono (y := Y) (a := m + 1) (b := M) (by omega) (by omega) (by omega)
            have := HC.out
            omega
          have hL := HL.out Y m (by omega) (by omega) hm0 (by omega)
          have HN : Hid (n - J - cumC Y m - lenC Y m = n - J - cumC Y (m + 1)) := by show _ = _; have := HC.out; omega
          generalize cumC Y m = K at *
          generalize lenC Y m = LL at *
          go_wp2_with fail
          refine (hL _).mono ?_
          rintro e w1 ⟨rfl, rfl⟩
          go_wp2_with fail
          refine (hL _).mono ?_
          rintro e w1 ⟨rfl, rfl⟩
          go_wp2
          go_round
          case rel => exact ⟨m + 1, by omega, by omega, rfl, by rw [HN.out]⟩
          case measure => simp [intOf]; omega
        · obtain rfl : m = M := by omega
          have hge2 : ¬ lenC Y m ≤ n - J - cumC Y m := by
            have := HC.out
            omega
          have hL := HL.out Y m (by omega) (by omega) hm0 (by omega)
          clear hltm
          have HD2 := HD.out
          generalize cumC Y m = K at *
          generalize lenC Y m = LL at *
          subst HD2
          have g1 : ¬ Y < -1000000000 := by omega
          have g2 : ¬ 1000000000 < Y := by omega
          go_wp2_with fail
          refine (hL _).mono ?_
          rintro e w1 ⟨rfl, rfl⟩
          go_wp2
          (try simp only [Exit.inBlock, Exit.then])
          refine bodyPost_ret (results_tmp4 rfl _ _ _) rfl ?_
          exact ⟨rfl, rfl⟩
theorem in08_any (t : Int) (w : World) : Calls Tryz.prog 40 #[.int .i64 t] w (RetQ (.bool (inC t)) w) := by
  generalize hq : inC t = q
  have HQ := Lib.hid hq
  clear hq
  go_enter Tryz.func40, Tryz.ntmps40
  go_wp2
  all_goals go_ret
  all_goals (refine ⟨ret_bool ?_, rfl⟩; rw [← HQ.out]; ((try simp only [beq_iff_eq, beq_eq_false_iff_ne, bne_iff_ne, ne_eq, inC, decide_eq_true_eq, decide_eq_false_iff_not, Bool.and_eq_true, Bool.or_eq_true, Bool.not_eq_true', Bool.not_eq_false', Bool.and_eq_false_iff, Bool.or_eq_false_iff] at *)
                                                        rw [Bool.eq_iff_iff]
                                                        (try simp only [inC, decide_eq_true_eq, beq_iff_eq, bne_iff_ne, ne_eq, Bool.and_eq_true, Bool.or_eq_true, Bool.not_eq_true', Bool.not_eq_false', beq_eq_false_iff_ne, decide_eq_false_iff_not, iff_true, true_iff, Bool.false_eq_true, false_iff, iff_false, reduceCtorEq])
                                                        (first | done | omega)))
set_option maxHeartbeats 2000000 in
theorem stamp08_any (t : Int) (h : inC t = true) (w : World) : Calls Tryz.prog 42 #[.int .i64 t] w (Ret (stV t) w) := by
  unfold inC at h
  rw [decide_eq_true_eq] at h
  obtain ⟨h0, h1⟩ := h
  have HD := Lib.hid (date05_any (t / 86400) (by omega) (by omega))
  have HR : Hid (stV t = .agg #[.int .i64 (yD (t / 86400)), .int .i64 (mD (t / 86400)), .int .i64 (dD (t / 86400)), .int .i64 (t % 86400 / 3600), .int .i64 (t % 86400 % 3600 / 60), .int .i64 (t % 86400 % 60)]) := by
    show _ = _
    unfold stV
    rw [show t % 86400 % 3600 / 60 = t % 86400 / 60 % 60 by omega]
  have b1 : 0 ≤ t % 86400 := by omega
  have b2 : t % 86400 < 86400 := by omega
  have b3 : 0 ≤ t % 86400 % 3600 := by omega
  generalize stV t = R at *
  generalize yD (t / 86400) = y at *
  generalize mD (t / 86400) = m at *
  generalize dD (t / 86400) = d at *
  have hq : 0 ≤ t / 86400 := by omega
  go_enter Tryz.func42, Tryz.ntmps42
  go_wp2_with fail
  refine (HD.out _).mono ?_
  rintro e w1 ⟨rfl, rfl⟩
  go_wp2
  refine bodyPost_ret (v := .agg #[.int .i64 y, .int .i64 m, .int .i64 d, .int .i64 (t % 86400 / 3600), .int .i64 (t % 86400 % 3600 / 60), .int .i64 (t % 86400 % 60)]) ?_ rfl ⟨by rw [HR.out], by (repeat' (first | (with_reducible exact Below.refl _ _) | (with_reducible assumption) | (with_reducible refine below_drewN ?_ _) | (with_reducible refine Below.alloc ?_ ?_ _) | (with_reducible refine Below.drew ?_) | (with_reducible refine Below.setCell ?_ ?_ _) | go_size))⟩
  rw [results_cell1 rfl]
  go_simp
theorem ret_strA {S T : ByteArray} (h : S = T) : Ending.returned (.string S) = .returned (.string T) := by rw [h]
end Go.Proofs.YtochhmkdhdadhaaGreat
