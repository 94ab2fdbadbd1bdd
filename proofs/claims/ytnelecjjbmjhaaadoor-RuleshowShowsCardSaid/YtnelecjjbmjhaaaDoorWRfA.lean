/- The walks of the references' calendar and instants. -/
import Derived.Test.YtnelecjjbmjhaaaDoorRCiv2
import Derived.Test.YtnelecjjbmjhaaaDoorWMoB
import Derived.Test.YtnelecjjbmjhaaaDoorWShow4
namespace Go.Proofs.YtnelecjjbmjhaaaDoor
open Go.RowKit
set_option linter.unusedSimpArgs false
set_option linter.unusedVariables false

set_option maxHeartbeats 1000000 in
theorem leap05_any (y : Int) (h0 : 0 ≤ y) (h1 : y ≤ 3000000000) (w : World) : Calls Tryd.prog 149 #[.int .i64 y] w (RetQ (.bool (leapC y)) w) := by
  generalize hq : leapC y = q
  have HQ := Lib.hid hq
  clear hq
  go_enter Tryd.func149, Tryd.ntmps149
  go_wp2
  all_goals go_ret
  all_goals (refine ⟨ret_bool ?_, rfl⟩; rw [← HQ.out]; ((try simp only [beq_iff_eq, beq_eq_false_iff_ne, bne_iff_ne, ne_eq, leapC, decide_eq_true_eq, decide_eq_false_iff_not, Bool.and_eq_true, Bool.or_eq_true, Bool.not_eq_true', Bool.not_eq_false', Bool.and_eq_false_iff, Bool.or_eq_false_iff] at *)
                                                        rw [Bool.eq_iff_iff]
                                                        (try simp only [leapC, decide_eq_true_eq, beq_iff_eq, bne_iff_ne, ne_eq, Bool.and_eq_true, Bool.or_eq_true, Bool.not_eq_true', Bool.not_eq_false', beq_eq_false_iff_ne, decide_eq_false_iff_not, iff_true, true_iff, Bool.false_eq_true, false_iff, iff_false, reduceCtorEq])
                                                        (first | done | omega)))
set_option maxRecDepth 10000 in
set_option maxHeartbeats 4000000 in
theorem length05_any (y m : Int) (h0 : 0 ≤ y) (h1 : y ≤ 3000000000) (hm1 : 1 ≤ m) (hm2 : m ≤ 12) (w : World) : Calls Tryd.prog 129 #[.int .i64 y, .int .i64 m] w (RetQ (.int .i64 (lenC y m)) w) := by
  by_cases hm : m = 2
  · subst hm
    have HL := Lib.hid (leap05_any y h0 h1)
    cases hl : leapC y with
    | true =>
      have HR : Hid (lenC y 2 = 29) := by show _ = _; unfold lenC; rw [if_neg (by omega), if_pos ⟨rfl, hl⟩]
      rw [hl] at HL
      clear hl
      go_enter Tryd.func129, Tryd.ntmps129
      go_wp2_with fail
      refine (HL.out _).mono ?_
      rintro e w1 ⟨rfl, rfl⟩
      go_wp2
      go_ret
      exact ⟨ret_int HR.out.symm, rfl⟩
    | false =>
      have HR : Hid (lenC y 2 = 28) := by show _ = _; rw [lenC_at (by omega) (by omega) (by rw [hl]; simp)]; rfl
      rw [hl] at HL
      clear hl
      go_enter Tryd.func129, Tryd.ntmps129
      go_wp2_with fail
      refine (HL.out _).mono ?_
      rintro e w1 ⟨rfl, rfl⟩
      go_wp2
      go_ret
      exact ⟨ret_int HR.out.symm, rfl⟩
  · have HR : Hid (lenC y m = lenM m) := lenC_at (by omega) (by omega) (by omega)
    obtain rfl | rfl | rfl | rfl | rfl | rfl | rfl | rfl | rfl | rfl | rfl : m = 1 ∨ m = 3 ∨ m = 4 ∨ m = 5 ∨ m = 6 ∨ m = 7 ∨ m = 8 ∨ m = 9 ∨ m = 10 ∨ m = 11 ∨ m = 12 := by omega
    all_goals
      clear hm1 hm2 hm
      go_enter Tryd.func129, Tryd.ntmps129
      go_wp2
      go_ret
      exact ⟨ret_int HR.out.symm, rfl⟩
theorem year05_any (y : Int) (h0 : 0 ≤ y) (h1 : y ≤ 3000000000) (w : World) : Calls Tryd.prog 128 #[.int .i64 y] w (RetQ (.int .i64 (365 + lpC y)) w) := by
  have HL := Lib.hid (leap05_any y h0 h1)
  cases hl : leapC y with
  | true =>
    have HR : Hid (lpC y = 1) := by show _ = _; unfold lpC; rw [if_pos hl]
    rw [hl] at HL
    clear hl
    go_enter Tryd.func128, Tryd.ntmps128
    go_wp2_with fail
    refine (HL.out _).mono ?_
    rintro e w1 ⟨rfl, rfl⟩
    go_wp2
    go_ret
    exact ⟨ret_int (by rw [HR.out]; rfl), rfl⟩
  | false =>
    have HR : Hid (lpC y = 0) := by show _ = _; unfold lpC; rw [if_neg (by rw [hl]; decide)]
    rw [hl] at HL
    clear hl
    go_enter Tryd.func128, Tryd.ntmps128
    go_wp2_with fail
    refine (HL.out _).mono ?_
    rintro e w1 ⟨rfl, rfl⟩
    go_wp2
    go_ret
    exact ⟨ret_int (by rw [HR.out]; rfl), rfl⟩
theorem floor01_pos (a b : Int) (ha : 0 ≤ a) (ha1 : a ≤ 1000000000000000) (hb : 1 ≤ b) (hb1 : b ≤ 1000000) (w : World) : Calls Tryd.prog 127 #[.int .i64 a, .int .i64 b] w (RetQ (.int .i64 (a / b)) w) := by
  have h1 : 0 ≤ a / b := Int.ediv_nonneg ha (by omega)
  have h2 : 0 ≤ a % b := Int.emod_nonneg _ (by omega)
  have h3 : ¬ a % b < 0 := by omega
  have hq : ¬ b < 1 := by omega
  have hb0 : (b == 0) = false := by simp; omega
  go_enter Tryd.func127, Tryd.ntmps127
  go_wp2
  go_ret
  exact ⟨rfl, rfl⟩
set_option maxRecDepth 10000 in
set_option maxHeartbeats 4000000 in
theorem date05_any (n : Int) (h : 0 ≤ n) (h1 : n < 146097) (w : World) : Calls Tryd.prog 99 #[.int .i64 n] w (RetQ (.tuple #[.int .i64 (yD n), .int .i64 (mD n), .int .i64 (dD n), .bool true]) w) := by
  obtain ⟨e, m1, m2, d1, d2⟩ := date_jan h h1
  obtain ⟨i1, i2, i3, i4, y1, y2⟩ := date_in h h1
  have HF := Lib.hid (floor01_pos n 146097 h (by omega) (by omega) (by omega))
  rw [show n / 146097 = 0 by omega] at HF
  have HD : Hid (dD n = n - jan (yD n) - cumC (yD n) (mD n) + 1) := by show _ = _; omega
  have HY := Lib.hid (fun y (h0 : 0 ≤ y) (h1 : y ≤ 3000000000) W => year05_any y h0 h1 W)
  have HL := Lib.hid (fun y m (h0 : 0 ≤ y) (h1 : y ≤ 3000000000) (hm1 : 1 ≤ m) (hm2 : m ≤ 12) W => length05_any y m h0 h1 hm1 hm2 W)
  clear e d1 d2
  generalize dD n = D at *
  go_enter Tryd.func99, Tryd.ntmps99
  go_wp2_with fail
  refine (HF.out _).mono ?_
  rintro e w1 ⟨rfl, rfl⟩
  go_wp2
  go_loop [7, 8] (fun lv yv => ∃ y : Int, 1970 ≤ y ∧ y ≤ yD n ∧ yv = .int .i64 y ∧ lv = .int .i64 (n - jan y)) (fun _ yv => (2400 - intOf yv).toNat)
  case atStart => exact ⟨1970, by omega, y1, rfl, by rw [show jan 1970 = 0 by decide]; simp⟩
  case round =>
    obtain ⟨y, hy0, hy1, rfl, rfl⟩ := hrel
    have HS := Lib.hid (jan_succ y)
    have hj0 := jan_mono (a := 1970) (b := y) hy0
    rw [show jan 1970 = 0 by decide] at hj0
    have hlp := lpC_01 y
    have hjy := jan_mono hy1
    by_cases hlt : y < yD n
    · have hge : 365 + lpC y ≤ n - jan y := by
        have := jan_mono (a := y + 1) (b := yD n) (by omega)
        have := HS.out
        omega
      have hY := HY.out y (by omega) (by omega)
      have HN : Hid (n - jan y - (365 + lpC y) = n - jan (y + 1)) := by show _ = _; have := HS.out; omega
      generalize jan y = J at *
      generalize lpC y = P at *
      go_wp2_with fail
      refine (hY _).mono ?_
      rintro e w1 ⟨rfl, rfl⟩
      go_wp2_with fail
      refine (hY _).mono ?_
      rintro e w1 ⟨rfl, rfl⟩
      go_wp2
      go_round
      case rel => exact ⟨y + 1, by omega, by omega, rfl, by rw [HN.out]⟩
      case measure => simp [intOf]; omega
    · obtain rfl : y = yD n := by omega
      have hge : ¬ 365 + lpC (yD n) ≤ n - jan (yD n) := by
        have := HS.out
        omega
      have hY := HY.out (yD n) (by omega) (by omega)
      clear hlt
      generalize yD n = Y at *
      generalize hJ : jan Y = J at *
      generalize mD n = M at *
      go_wp2_with fail
      refine (hY _).mono ?_
      rintro e w1 ⟨rfl, rfl⟩
      go_wp2
      go_loop [7, 9] (fun lv mv => ∃ m : Int, 1 ≤ m ∧ m ≤ M ∧ mv = .int .i64 m ∧ lv = .int .i64 (n - J - cumC Y m)) (fun _ mv => (13 - intOf mv).toNat)
      case atStart => exact ⟨1, by omega, m1, rfl, by rw [cumC_one]; simp⟩
      case round =>
        obtain ⟨m, hm0, hm1, rfl, rfl⟩ := hrel
        have HC := Lib.hid (cumC_succ (y := Y) (m := m) hm0 (by omega))
        have hc0 := cumC_mono (y := Y) (a := 1) (b := m) (by omega) hm0 (by omega)
        rw [cumC_one] at hc0
        have hcM := cumC_mono (y := Y) (a := m) (b := M) hm0 hm1 (by omega)
        have hlp2 := lenC_pos (y := Y) (m := m) hm0 (by omega)
        by_cases hltm : m < M
        · have hge2 : lenC Y m ≤ n - J - cumC Y m := by
            have := cumC_mono (y := Y) (a := m + 1) (b := M) (by omega) (by omega) (by omega)
            have := HC.out
            omega
          have hL := HL.out Y m (by omega) (by omega) hm0 (by omega)
          have HN : Hid (n - J - cumC Y m - lenC Y m = n - J - cumC Y (m + 1)) := by show _ = _; have := HC.out; omega
          generalize cumC Y m = K at *
          generalize lenC Y m = LL at *
          go_wp2_with fail
          refine (hL _).mono ?_
          rintro e w1 ⟨rfl, rfl⟩
          go_wp2_with fail
          refine (hL _).mono ?_
          rintro e w1 ⟨rfl, rfl⟩
          go_wp2
          go_round
          case rel => exact ⟨m + 1, by omega, by omega, rfl, by rw [HN.out]⟩
          case measure => simp [intOf]; omega
        · obtain rfl : m = M := by omega
          have hge2 : ¬ lenC Y m ≤ n - J - cumC Y m := by
            have := HC.out
            omega
          have hL := HL.out Y m (by omega) (by omega) hm0 (by omega)
          clear hltm
          have HD2 := HD.out
          generalize cumC Y m = K at *
          generalize lenC Y m = LL at *
          subst HD2
          have g1 : ¬ Y < -1000000000 := by omega
          have g2 : ¬ 1000000000 < Y := by omega
          go_wp2_with fail
          refine (hL _).mono ?_
          rintro e w1 ⟨rfl, rfl⟩
          go_wp2
          (try simp only [Exit.inBlock, Exit.then])
          refine bodyPost_ret (results_tmp4 rfl _ _ _) rfl ?_
          exact ⟨rfl, rfl⟩
theorem in08_any (t : Int) (w : World) : Calls Tryd.prog 45 #[.int .i64 t] w (RetQ (.bool (inC t)) w) := by
  generalize hq : inC t = q
  have HQ := Lib.hid hq
  clear hq
  go_enter Tryd.func45, Tryd.ntmps45
  go_wp2
  all_goals go_ret
  all_goals (refine ⟨ret_bool ?_, rfl⟩; rw [← HQ.out]; ((try simp only [beq_iff_eq, beq_eq_false_iff_ne, bne_iff_ne, ne_eq, inC, decide_eq_true_eq, decide_eq_false_iff_not, Bool.and_eq_true, Bool.or_eq_true, Bool.not_eq_true', Bool.not_eq_false', Bool.and_eq_false_iff, Bool.or_eq_false_iff] at *)
                                                        rw [Bool.eq_iff_iff]
                                                        (try simp only [inC, decide_eq_true_eq, beq_iff_eq, bne_iff_ne, ne_eq, Bool.and_eq_true, Bool.or_eq_true, Bool.not_eq_true', Bool.not_eq_false', beq_eq_false_iff_ne, decide_eq_false_iff_not, iff_true, true_iff, Bool.false_eq_true, false_iff, iff_false, reduceCtorEq])
                                                        (first | done | omega)))
set_option maxHeartbeats 2000000 in
theorem stamp08_any (t : Int) (h : inC t = true) (w : World) : Calls Tryd.prog 72 #[.int .i64 t] w (Ret (stV t) w) := by
  unfold inC at h
  rw [decide_eq_true_eq] at h
  obtain ⟨h0, h1⟩ := h
  have HD := Lib.hid (date05_any (t / 86400) (by omega) (by omega))
  have HR : Hid (stV t = .agg #[.int .i64 (yD (t / 86400)), .int .i64 (mD (t / 86400)), .int .i64 (dD (t / 86400)), .int .i64 (t % 86400 / 3600), .int .i64 (t % 86400 % 3600 / 60), .int .i64 (t % 86400 % 60)]) := by
    show _ = _
    unfold stV
    rw [show t % 86400 % 3600 / 60 = t % 86400 / 60 % 60 by omega]
  have b1 : 0 ≤ t % 86400 := by omega
  have b2 : t % 86400 < 86400 := by omega
  have b3 : 0 ≤ t % 86400 % 3600 := by omega
  generalize stV t = R at *
  generalize yD (t / 86400) = y at *
  generalize mD (t / 86400) = m at *
  generalize dD (t / 86400) = d at *
  have hq : 0 ≤ t / 86400 := by omega
  go_enter Tryd.func72, Tryd.ntmps72
  go_wp2_with fail
  refine (HD.out _).mono ?_
  rintro e w1 ⟨rfl, rfl⟩
  go_wp2
  refine bodyPost_ret (v := .agg #[.int .i64 y, .int .i64 m, .int .i64 d, .int .i64 (t % 86400 / 3600), .int .i64 (t % 86400 % 3600 / 60), .int .i64 (t % 86400 % 60)]) ?_ rfl ⟨by rw [HR.out], by (repeat' (first | (with_reducible exact Below.refl _ _) | (with_reducible assumption) | (with_reducible refine below_drewN ?_ _) | (with_reducible refine Below.alloc ?_ ?_ _) | (with_reducible refine Below.drew ?_) | (with_reducible refine Below.setCell ?_ ?_ _) | go_size))⟩
  rw [results_cell1 rfl]
  go_simp
theorem ret_strA {S T : ByteArray} (h : S = T) : Ending.returned (.string S) = .returned (.string T) := by rw [h]
set_option maxHeartbeats 2000000 in
theorem digits08_any (n : Int) (m : Nat) (h0 : 0 ≤ n) (h1 : n ≤ 1000000) (hm : m ≤ 4) (w : World) : Calls Tryd.prog 73 #[.int .i64 n, .int .i64 m] w (Ret (.string (strB (digsL m n))) w) := by
  have HD := Lib.hid (div_pow_succ n)
  have HB := Lib.hid (div_pow_bd n h0)
  have HC := Lib.hid (fun x (h0 : 0 ≤ x) (h1 : x < 256) W b h => conv_at x h0 h1 W b h)
  go_enter Tryd.func73, Tryd.ntmps73
  go_wp2
  go_loopw [0, 5, 6] (fun nv sv iv wr => ∃ (k : Nat) (S : ByteArray), k ≤ m ∧ nv = .int .i64 (n / 10 ^ k) ∧ sv = .string S ∧ iv = .int .i64 k ∧ S.size ≤ k ∧ Hid (digsL m n = digsL (m - k) (n / 10 ^ k) ++ S.data.toList) ∧ Below w.heap.size w wr) (fun _ _ iv _ => m - (intOf iv).toNat)
  case atStart => exact ⟨0, ⟨#[]⟩, Nat.zero_le _, by simp, rfl, rfl, Nat.le_refl _, by simp [Hid], Below.refl _ _⟩
  case round =>
    obtain ⟨k, S, hk, rfl, rfl, rfl, hz, H, hb⟩ := hrel
    have hsz := hb.size
    obtain ⟨b0, b1⟩ := HB.out k
    by_cases hlt : k < m
    · have hlt' : (k : Int) < (m : Int) := by omega
      have HQ := Lib.hid (HD.out k)
      have HN : Hid (digsL m n = digsL (m - (k + 1)) (n / 10 ^ (k + 1)) ++ ([UInt8.ofNat (48 + n / 10 ^ k % 10).toNat] ++ S.data.toList)) := by
        show _ = _
        rw [H.out, show m - k = (m - (k + 1)) + 1 by omega, digsL, HQ.out, List.append_assoc]
        congr 3
        congr 2
        omega
      have hc := HC.out (48 + n / 10 ^ k % 10) (by omega) (by omega) (wr.alloc (.cells #[.int .u8 (48 + n / 10 ^ k % 10)] 5)) wr.heap.size (cell_new rfl rfl)
      generalize n / 10 ^ k = q at *
      have hq0 : 0 ≤ q % 10 := by omega
      have hq1 : q % 10 ≤ 9 := by omega
      clear H
      go_wp2
      go_roundw
      case rel =>
        refine ⟨k + 1, _, by omega, by rw [← HQ.out], rfl, by go_num, ?_, ?_, hb.alloc hsz _⟩
        · have e1 : (⟨[UInt8.ofNat (48 + q % 10).toNat].toArray⟩ : ByteArray).size = 1 := rfl
          rw [ByteArray.size_append, e1]; omega
        · show _ = _
          rw [HN.out, str_app]
      case measure => simp [intOf]; omega
    · obtain rfl : k = m := by omega
      have HR : Hid (S = strB (digsL k n)) := by
        show _ = _
        refine strB_of ?_
        rw [H.out, Nat.sub_self]
        rfl
      go_wp2
      go_ret
      exact ⟨ret_strA HR.out, hb⟩
set_option maxRecDepth 20000 in
set_option maxHeartbeats 4000000 in
theorem basic08_any (t : Int) (h : inC t = true) (w : World) : Calls Tryd.prog 49 #[.int .i64 t] w (Ret (.string (strB (basicT t))) w) := by
  have HS := Lib.hid (stamp08_any t h)
  have HB := Lib.hid (partC_bd h)
  have HV : Hid (stV t = .agg #[.int .i64 (partC t 0), .int .i64 (partC t 1), .int .i64 (partC t 2), .int .i64 (partC t 3), .int .i64 (partC t 4), .int .i64 (partC t 5)]) := rfl
  rw [HV.out] at HS
  have HR : Hid (basicT t = digsL 4 (partC t 0) ++ (digsL 2 (partC t 1) ++ (digsL 2 (partC t 2) ++ ([84] ++ (digsL 2 (partC t 3) ++ (digsL 2 (partC t 4) ++ (digsL 2 (partC t 5) ++ [90]))))))) := by
    show _ = _
    unfold basicT
    rw [if_pos h]
    simp [txtP, basG]
  have D0 := Lib.hid (fun W => digits08_any (partC t 0) 4 (HB.out 0).1 (by have := (HB.out 0).2; omega) (by decide) W)
  have D1 := Lib.hid (fun W => digits08_any (partC t 1) 2 (HB.out 1).1 (by have := (HB.out 1).2; omega) (by decide) W)
  have D2 := Lib.hid (fun W => digits08_any (partC t 2) 2 (HB.out 2).1 (by have := (HB.out 2).2; omega) (by decide) W)
  have D3 := Lib.hid (fun W => digits08_any (partC t 3) 2 (HB.out 3).1 (by have := (HB.out 3).2; omega) (by decide) W)
  have D4 := Lib.hid (fun W => digits08_any (partC t 4) 2 (HB.out 4).1 (by have := (HB.out 4).2; omega) (by decide) W)
  have D5 := Lib.hid (fun W => digits08_any (partC t 5) 2 (HB.out 5).1 (by have := (HB.out 5).2; omega) (by decide) W)
  have z0 : (strB (digsL 4 (partC t 0))).size ≤ 4 := by rw [strB_size, digsL_len]; omega
  have z1 : (strB (digsL 2 (partC t 1))).size ≤ 4 := by rw [strB_size, digsL_len]; omega
  have z2 : (strB (digsL 2 (partC t 2))).size ≤ 4 := by rw [strB_size, digsL_len]; omega
  have z3 : (strB (digsL 2 (partC t 3))).size ≤ 4 := by rw [strB_size, digsL_len]; omega
  have z4 : (strB (digsL 2 (partC t 4))).size ≤ 4 := by rw [strB_size, digsL_len]; omega
  have z5 : (strB (digsL 2 (partC t 5))).size ≤ 4 := by rw [strB_size, digsL_len]; omega
  have E0 := Lib.hid (strB_data (digsL 4 (partC t 0)))
  have E1 := Lib.hid (strB_data (digsL 2 (partC t 1)))
  have E2 := Lib.hid (strB_data (digsL 2 (partC t 2)))
  have E3 := Lib.hid (strB_data (digsL 2 (partC t 3)))
  have E4 := Lib.hid (strB_data (digsL 2 (partC t 4)))
  have E5 := Lib.hid (strB_data (digsL 2 (partC t 5)))
  clear h HB HV
  generalize basicT t = R at *
  generalize strB (digsL 4 (partC t 0)) = S0 at *
  generalize strB (digsL 2 (partC t 1)) = S1 at *
  generalize strB (digsL 2 (partC t 2)) = S2 at *
  generalize strB (digsL 2 (partC t 3)) = S3 at *
  generalize strB (digsL 2 (partC t 4)) = S4 at *
  generalize strB (digsL 2 (partC t 5)) = S5 at *
  go_enter Tryd.func49, Tryd.ntmps49
  go_wp2_with fail
  refine (HS.out _).mono ?_
  rintro e w1 ⟨rfl, hb1⟩
  have HSt := Lib.hid (arr_new w1 #[.int .i64 (partC t 0), .int .i64 (partC t 1), .int .i64 (partC t 2), .int .i64 (partC t 3), .int .i64 (partC t 4), .int .i64 (partC t 5)] 114 (partV t) (by
    intro j hj
    obtain rfl | rfl | rfl | rfl | rfl | rfl : j = 0 ∨ j = 1 ∨ j = 2 ∨ j = 3 ∨ j = 4 ∨ j = 5 := by simp at hj; omega
    all_goals rfl))
  go_wp2
  generalize hW : World.alloc w1 _ = W1
  have hbW : Below w.heap.size w W1 := by rw [← hW]; exact hb1.alloc hb1.size _
  have HSw : Hid (Arr W1 w1.heap.size 6 (partV t)) := by rw [← hW]; exact HSt.out
  clear hW HSt hb1
  have c0 : ∀ x : Ext W1, x.W.cell? ⟨w1.heap.size, 0, none⟩ = some (.int .i64 (partC t 0)) := fun x => x.cell (HSw.out.1 0 (by decide))
  have c1 : ∀ x : Ext W1, x.W.cell? ⟨w1.heap.size, 1, none⟩ = some (.int .i64 (partC t 1)) := fun x => x.cell (HSw.out.1 1 (by decide))
  have c2 : ∀ x : Ext W1, x.W.cell? ⟨w1.heap.size, 2, none⟩ = some (.int .i64 (partC t 2)) := fun x => x.cell (HSw.out.1 2 (by decide))
  have c3 : ∀ x : Ext W1, x.W.cell? ⟨w1.heap.size, 3, none⟩ = some (.int .i64 (partC t 3)) := fun x => x.cell (HSw.out.1 3 (by decide))
  have c4 : ∀ x : Ext W1, x.W.cell? ⟨w1.heap.size, 4, none⟩ = some (.int .i64 (partC t 4)) := fun x => x.cell (HSw.out.1 4 (by decide))
  have c5 : ∀ x : Ext W1, x.W.cell? ⟨w1.heap.size, 5, none⟩ = some (.int .i64 (partC t 5)) := fun x => x.cell (HSw.out.1 5 (by decide))
  refine wp_region_grew (by kernel_rfl) (by kernel_rfl) ?_
  repeat (first | go_big_quiet_skip | (go_big_quiet_want; go_big_quiet_op; (first | go_big_quiet_on | go_big_quiet_call ((with_reducible first | exact ext_call _ (D0.out _) | exact ext_call _ (D1.out _) | exact ext_call _ (D2.out _) | exact ext_call _ (D3.out _) | exact ext_call _ (D4.out _) | exact ext_call _ (D5.out _))))))
  refine wpQuiet_nil ?_
  rintro _ ⟨xw, rfl⟩
  go_wp2
  go_ret
  exact ⟨ret_str (by rw [HR.out]; simp only [str_app, E0.out, E1.out, E2.out, E3.out, E4.out, E5.out]; simp), bthen hbW xw.h hbW.size⟩
end Go.Proofs.YtnelecjjbmjhaaaDoor
