/- The walks of the references of rules: signs, Ns, days, weeks. -/
import Derived.Test.YtnelecjjbmjhaaaDoorWRfB
namespace Go.Proofs.YtnelecjjbmjhaaaDoor
open Go.RowKit
set_option linter.unusedSimpArgs false
set_option linter.unusedVariables false

set_option maxHeartbeats 4000000 in
theorem signs32_any (A : Option Addr) (n c : Nat) (l : List Int) (w : World) (hA : RdInts w A n l) (hn : n ≤ 9223372036854775806) :
    Calls Tryd.prog 70 #[.slice A n c] w (Ret (.bool (mixC l)) w) := by
  have HL : Hid (l.length = n) := hA.1
  have HA := Lib.hid (fun W (h : Below w.heap.size w W) => hA.below h (Nat.le_refl _))
  clear hA
  go_enter Tryd.func70, Tryd.ntmps70
  go_wp2
  go_loopw [3] (fun i wr => ∃ k : Nat, 1 ≤ k ∧ (k ≤ n ∨ k = 1) ∧ i = .int .i64 k ∧ Hid (∀ j x y, j < k → l[j]? = some x → l[0]? = some y → unlike x y = false) ∧ Below w.heap.size w wr) (fun i _ => n - (intOf i).toNat)
  case atStart =>
    refine ⟨1, Nat.le_refl _, .inr rfl, rfl, fun j x y hj h1 h2 => ?_, Below.refl _ _⟩
    obtain rfl : j = 0 := by omega
    rw [h1] at h2
    obtain rfl := Option.some.inj h2
    unfold unlike
    simp
  case round =>
    obtain ⟨k, hk1, hk, rfl, H, hb⟩ := hrel
    have hsz := hb.size
    by_cases hlt : k < n
    · obtain ⟨b, o, x, rfl, hbl, hx, c0⟩ := RdInts.at_ (HA.out wr hb) hlt
      obtain ⟨b', o', y, e, hbl', hy, c1⟩ := RdInts.at_ (HA.out wr hb) (i := 0) (by omega)
      injection e with e
      injection e with e1 e2
      subst e1; subst e2
      rw [Nat.add_zero] at c1
      have hlt' : (k : Int) < (n : Int) := by omega
      have hn0 : (0 : Int) < (n : Int) := by omega
      have hk0 : (0 : Int) ≤ (k : Int) := by omega
      have HY : Hid (unlike x y = true → mixC l = true) := fun h => mixC_yes (List.mem_of_getElem? hx) (List.mem_of_getElem? hy) h
      have HN : Hid (unlike x y = false → ∀ j x y, j < k + 1 → l[j]? = some x → l[0]? = some y → unlike x y = false) := by
        intro h j x' y' hj h1 h2
        rcases Nat.lt_or_ge j k with h3 | h3
        · exact H.out j x' y' h3 h1 h2
        · obtain rfl : j = k := by omega
          rw [hx] at h1; rw [hy] at h2
          obtain rfl := Option.some.inj h1
          obtain rfl := Option.some.inj h2
          exact h
      have g0 : ∀ x' : Ext wr, x'.W.cell? ⟨b, o + k, none⟩ = some (.int .i64 x) := fun x' => x'.cell c0
      have g1 : ∀ x' : Ext wr, x'.W.cell? ⟨b, o, none⟩ = some (.int .i64 y) := fun x' => x'.cell c1
      clear hx hy H c0 c1
      rcases Int.lt_trichotomy x 0 with hx0 | hx0 | hx0 <;> rcases Int.lt_trichotomy y 0 with hy0 | hy0 | hy0
      · have xb : decide (x < 0) = true := by simp; omega
        have yb : decide (y < 0) = true := by simp; omega
        have x1 : (x == 0) = false := by simp; omega
        have y1 : (y == 0) = false := by simp; omega
        have HU := Lib.hid (HN.out (by unfold unlike; simp [hx0, hy0, show ¬ x = 0 by omega, show ¬ y = 0 by omega]))
        go_wp2_with fail
        refine wp_region_grew (by kernel_rfl) (by kernel_rfl) ?_
        repeat (first | go_big_quiet_skip | (go_big_quiet_want; go_big_quiet_op; (first | go_big_quiet_on | go_big_quiet_call (fail))))
        refine wpQuiet_nil ?_
        rintro _ ⟨xw, rfl⟩
        go_wp2
        go_roundw
        case rel => exact ⟨k + 1, by omega, .inl (by omega), by go_num, HU.out, bthen hb xw.h hsz⟩
        case measure => simp [intOf]; omega
      · have xb : decide (x < 0) = true := by simp; omega
        have yb : decide (y < 0) = false := by simp; omega
        have x1 : (x == 0) = false := by simp; omega
        have y1 : (y == 0) = true := by simp; omega
        have HU := Lib.hid (HY.out (by unfold unlike; simp [hx0, hy0]))
        have y0 : ¬ y < 0 := by omega
        clear hy0
        go_wp2_with fail
        refine wp_region_grew (by kernel_rfl) (by kernel_rfl) ?_
        repeat (first | go_big_quiet_skip | (go_big_quiet_want; go_big_quiet_op; (first | go_big_quiet_on | go_big_quiet_call (fail))))
        refine wpQuiet_nil ?_
        rintro _ ⟨xw, rfl⟩
        go_wp2
        go_ret
        exact ⟨ret_bool HU.out.symm, bthen hb xw.h hsz⟩
      · have xb : decide (x < 0) = true := by simp; omega
        have yb : decide (y < 0) = false := by simp; omega
        have x1 : (x == 0) = false := by simp; omega
        have y1 : (y == 0) = false := by simp; omega
        have y0 : ¬ y < 0 := by omega
        have HU := Lib.hid (HY.out (by unfold unlike; simp [hx0, y0]))
        go_wp2_with fail
        refine wp_region_grew (by kernel_rfl) (by kernel_rfl) ?_
        repeat (first | go_big_quiet_skip | (go_big_quiet_want; go_big_quiet_op; (first | go_big_quiet_on | go_big_quiet_call (fail))))
        refine wpQuiet_nil ?_
        rintro _ ⟨xw, rfl⟩
        go_wp2
        go_ret
        exact ⟨ret_bool HU.out.symm, bthen hb xw.h hsz⟩
      · have xb : decide (x < 0) = false := by simp; omega
        have yb : decide (y < 0) = true := by simp; omega
        have x1 : (x == 0) = true := by simp; omega
        have y1 : (y == 0) = false := by simp; omega
        have x0 : ¬ x < 0 := by omega
        have HU := Lib.hid (HY.out (by unfold unlike; simp [x0, hy0]))
        clear hx0
        go_wp2_with fail
        refine wp_region_grew (by kernel_rfl) (by kernel_rfl) ?_
        repeat (first | go_big_quiet_skip | (go_big_quiet_want; go_big_quiet_op; (first | go_big_quiet_on | go_big_quiet_call (fail))))
        refine wpQuiet_nil ?_
        rintro _ ⟨xw, rfl⟩
        go_wp2
        go_ret
        exact ⟨ret_bool HU.out.symm, bthen hb xw.h hsz⟩
      · have xb : decide (x < 0) = false := by simp; omega
        have yb : decide (y < 0) = false := by simp; omega
        have x1 : (x == 0) = true := by simp; omega
        have y1 : (y == 0) = true := by simp; omega
        have x0 : ¬ x < 0 := by omega
        have y0 : ¬ y < 0 := by omega
        have HU := Lib.hid (HN.out (by unfold unlike; simp [hx0, hy0]))
        clear hx0 hy0
        go_wp2_with fail
        refine wp_region_grew (by kernel_rfl) (by kernel_rfl) ?_
        repeat (first | go_big_quiet_skip | (go_big_quiet_want; go_big_quiet_op; (first | go_big_quiet_on | go_big_quiet_call (fail))))
        refine wpQuiet_nil ?_
        rintro _ ⟨xw, rfl⟩
        go_wp2
        go_roundw
        case rel => exact ⟨k + 1, by omega, .inl (by omega), by go_num, HU.out, bthen hb xw.h hsz⟩
        case measure => simp [intOf]; omega
      · have xb : decide (x < 0) = false := by simp; omega
        have yb : decide (y < 0) = false := by simp; omega
        have x1 : (x == 0) = true := by simp; omega
        have y1 : (y == 0) = false := by simp; omega
        have x0 : ¬ x < 0 := by omega
        have y0 : ¬ y < 0 := by omega
        have HU := Lib.hid (HY.out (by unfold unlike; simp [hx0, show ¬ y = 0 by omega]))
        clear hx0
        go_wp2_with fail
        refine wp_region_grew (by kernel_rfl) (by kernel_rfl) ?_
        repeat (first | go_big_quiet_skip | (go_big_quiet_want; go_big_quiet_op; (first | go_big_quiet_on | go_big_quiet_call (fail))))
        refine wpQuiet_nil ?_
        rintro _ ⟨xw, rfl⟩
        go_wp2
        go_ret
        exact ⟨ret_bool HU.out.symm, bthen hb xw.h hsz⟩
      · have xb : decide (x < 0) = false := by simp; omega
        have yb : decide (y < 0) = true := by simp; omega
        have x1 : (x == 0) = false := by simp; omega
        have y1 : (y == 0) = false := by simp; omega
        have x0 : ¬ x < 0 := by omega
        have HU := Lib.hid (HY.out (by unfold unlike; simp [x0, hy0]))
        go_wp2_with fail
        refine wp_region_grew (by kernel_rfl) (by kernel_rfl) ?_
        repeat (first | go_big_quiet_skip | (go_big_quiet_want; go_big_quiet_op; (first | go_big_quiet_on | go_big_quiet_call (fail))))
        refine wpQuiet_nil ?_
        rintro _ ⟨xw, rfl⟩
        go_wp2
        go_ret
        exact ⟨ret_bool HU.out.symm, bthen hb xw.h hsz⟩
      · have xb : decide (x < 0) = false := by simp; omega
        have yb : decide (y < 0) = false := by simp; omega
        have x1 : (x == 0) = false := by simp; omega
        have y1 : (y == 0) = true := by simp; omega
        have x0 : ¬ x < 0 := by omega
        have y0 : ¬ y < 0 := by omega
        have HU := Lib.hid (HY.out (by unfold unlike; simp [hy0, show ¬ x = 0 by omega]))
        clear hy0
        go_wp2_with fail
        refine wp_region_grew (by kernel_rfl) (by kernel_rfl) ?_
        repeat (first | go_big_quiet_skip | (go_big_quiet_want; go_big_quiet_op; (first | go_big_quiet_on | go_big_quiet_call (fail))))
        refine wpQuiet_nil ?_
        rintro _ ⟨xw, rfl⟩
        go_wp2
        go_ret
        exact ⟨ret_bool HU.out.symm, bthen hb xw.h hsz⟩
      · have xb : decide (x < 0) = false := by simp; omega
        have yb : decide (y < 0) = false := by simp; omega
        have x1 : (x == 0) = false := by simp; omega
        have y1 : (y == 0) = false := by simp; omega
        have x0 : ¬ x < 0 := by omega
        have y0 : ¬ y < 0 := by omega
        have HU := Lib.hid (HN.out (by unfold unlike; simp [x0, y0, show ¬ x = 0 by omega, show ¬ y = 0 by omega]))
        go_wp2_with fail
        refine wp_region_grew (by kernel_rfl) (by kernel_rfl) ?_
        repeat (first | go_big_quiet_skip | (go_big_quiet_want; go_big_quiet_op; (first | go_big_quiet_on | go_big_quiet_call (fail))))
        refine wpQuiet_nil ?_
        rintro _ ⟨xw, rfl⟩
        go_wp2
        go_roundw
        case rel => exact ⟨k + 1, by omega, .inl (by omega), by go_num, HU.out, bthen hb xw.h hsz⟩
        case measure => simp [intOf]; omega
    · have hlt' : ¬ (k : Int) < (n : Int) := by omega
      have HR : Hid (mixC l = false) := by
        show _ = _
        cases hl : l with
        | nil => rfl
        | cons y l' =>
          refine mixC_no (x := y) ?_
          intro x hx
          obtain ⟨j, hj⟩ := List.getElem?_of_mem hx
          have hjl := (List.getElem?_eq_some_iff.1 hj).1
          rw [← hl] at hj hjl
          rw [HL.out] at hjl
          exact H.out j x y (by omega) hj (by rw [hl]; rfl)
      go_wp2
      go_ret
      exact ⟨ret_bool HR.out.symm, hb⟩
end Go.Proofs.YtnelecjjbmjhaaaDoor
