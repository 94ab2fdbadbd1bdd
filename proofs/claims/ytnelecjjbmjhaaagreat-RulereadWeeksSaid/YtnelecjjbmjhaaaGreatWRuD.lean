/- What is wrong with a rule: the days, the weekdays, the head; Check. -/
import Derived.Test.YtnelecjjbmjhaaaGreatWRuC
namespace Go.Proofs.YtnelecjjbmjhaaaGreat
open Go.RowKit
set_option linter.unusedSimpArgs false
set_option linter.unusedVariables false

theorem weeks1_any (w : World) : PredN 84 #[] badDay w := by
  intro W x hB
  generalize hq : badDay x = q
  have HQ := Lib.hid hq
  clear hq hB
  obtain ⟨xn, xd⟩ := x
  go_enter Tryz.func84, Tryz.ntmps84
  go_wp2
  all_goals go_ret
  all_goals (refine ⟨ret_bool ?_, by (repeat' (first | (with_reducible exact Below.refl _ _) | (with_reducible assumption) | (with_reducible refine below_drewN ?_ _) | (with_reducible refine Below.alloc ?_ ?_ _) | (with_reducible refine Below.drew ?_) | (with_reducible refine Below.setCell ?_ ?_ _) | go_size))⟩; rw [← HQ.out]; ((try simp only [beq_iff_eq, beq_eq_false_iff_ne, bne_iff_ne, ne_eq, badDay, decide_eq_true_eq, decide_eq_false_iff_not, Bool.and_eq_true, Bool.or_eq_true, Bool.not_eq_true', Bool.not_eq_false', Bool.and_eq_false_iff, Bool.or_eq_false_iff] at *)
                                                                                                                                                                                                                                                                                                                                          rw [Bool.eq_iff_iff]
                                                                                                                                                                                                                                                                                                                                          (try simp only [badDay, decide_eq_true_eq, beq_iff_eq, bne_iff_ne, ne_eq, Bool.and_eq_true, Bool.or_eq_true, Bool.not_eq_true', Bool.not_eq_false', beq_eq_false_iff_ne, decide_eq_false_iff_not, iff_true, true_iff, Bool.false_eq_true, false_iff, iff_false, reduceCtorEq])
                                                                                                                                                                                                                                                                                                                                          (first | done | omega)))
section
variable {r : RuV} {A : Nat → Option Addr} {n c : Nat → Nat} {w : World} (hA : RdRu w A n r) (hn : ∀ k, n k ≤ 1000000)
include hA hn
set_option maxHeartbeats 2000000 in
theorem days_any : Calls Tryz.prog 57 #[ruV r A n c] w (Ret (.int .i64 (daysE r)) w) := by
  have HL := Lib.hid (fun W (hb : Below w.heap.size w W) => rlist_any (A 6) (n 6) (c 6) r.da (-31) 31 W (hA.da.below hb (Nat.le_refl _)) (by have := hn 6; omega))
  have HC := Lib.hid (fun W (hb : Below w.heap.size w W) => contains0_any (A 6) (n 6) (c 6) r.da W (hA.da.below hb (Nat.le_refl _)) (by have := hn 6; omega))
  have HM := Lib.hid (fun W (hb : Below w.heap.size w W) => mixed_any (A 6) (n 6) (c 6) r.da W (hA.da.below hb (Nat.le_refl _)) (hn 6))
  have HLen : Hid (r.da.length = n 6) := hA.da.1
  have HV : Hid (daysE r = if listE r.da (-31) 31 ≠ 0 then listE r.da (-31) 31 else if r.da.any (fun x => decide (x = 0)) = true then 4 else if (0 < r.da.length ∧ r.fr = 4) ∨ mixC r.da = true then 12 else 0) := rfl
  rw [HLen.out] at HV
  have HE := Lib.hid (ruAt_new w r A n c 26)
  clear hA hn HLen
  generalize daysE r = R at *
  generalize listE r.da (-31) 31 = le at *
  generalize (r.da.any fun x => decide (x = 0)) = cq at *
  generalize mixC r.da = mq at *
  by_cases h0 : le = 0
  · have h0' : (le != 0) = false := by simpa using h0
    cases cq with
    | true =>
      have HR : Hid (R = 4) := by show _ = _; rw [HV.out, if_neg (by simpa using h0)]; rfl
      clear h0 HV
      unfold ruV at *
      go_enter Tryz.func57, Tryz.ntmps57
      go_wp2_with fail
      refine (HL.out _ (by (repeat' (first | (with_reducible exact Below.refl _ _) | (with_reducible assumption) | (with_reducible refine below_drewN ?_ _) | (with_reducible refine Below.alloc ?_ ?_ _) | (with_reducible refine Below.drew ?_) | (with_reducible refine Below.setCell ?_ ?_ _) | go_size)))).mono ?_
      rintro e w1 ⟨rfl, hb1⟩
      have hbw : Below w.heap.size w w1 := ((Below.refl _ w).alloc (Nat.le_refl _) _).trans (hb1.mono (by simp))
      have HE1 := Lib.hid (HE.out.below hb1)
      clear hb1 HE
      obtain ⟨x0, x1, x2, x3, x4, x5, x6, x7, x8, x9, x10⟩ := HE1.out
      go_wp2_with fail
      refine (HC.out _ hbw).mono ?_
      rintro e w2 ⟨rfl, rfl⟩
      go_wp2
      go_ret
      exact ⟨ret_int HR.out.symm, hbw⟩
    | false =>
      by_cases h4 : 0 < n 6 ∧ r.fr = 4
      · have HR : Hid (R = 12) := by show _ = _; rw [HV.out, if_neg (by simpa using h0), if_neg (by decide), if_pos (.inl h4)]
        have h6 : (0 : Int) < ((n 6 : Nat) : Int) := by omega
        have h4' : (r.fr == 4) = true := by simpa using h4.2
        clear h0 HV h4
        unfold ruV at *
        go_enter Tryz.func57, Tryz.ntmps57
        go_wp2_with fail
        refine (HL.out _ (by (repeat' (first | (with_reducible exact Below.refl _ _) | (with_reducible assumption) | (with_reducible refine below_drewN ?_ _) | (with_reducible refine Below.alloc ?_ ?_ _) | (with_reducible refine Below.drew ?_) | (with_reducible refine Below.setCell ?_ ?_ _) | go_size)))).mono ?_
        rintro e w1 ⟨rfl, hb1⟩
        have hbw : Below w.heap.size w w1 := ((Below.refl _ w).alloc (Nat.le_refl _) _).trans (hb1.mono (by simp))
        have HE1 := Lib.hid (HE.out.below hb1)
        clear hb1 HE
        obtain ⟨x0, x1, x2, x3, x4, x5, x6, x7, x8, x9, x10⟩ := HE1.out
        go_wp2_with fail
        refine (HC.out _ hbw).mono ?_
        rintro e w2 ⟨rfl, rfl⟩
        go_wp2
        go_ret
        exact ⟨ret_int HR.out.symm, hbw⟩
      · have HR : Hid (R = if mq = true then 12 else 0) := by
          show _ = _
          rw [HV.out, if_neg (by simpa using h0), if_neg (by decide)]
          cases mq
          · rw [if_neg (by simp; intro h; exact fun h2 => h4 ⟨h, h2⟩)]; rfl
          · rw [if_pos (.inr rfl)]; rfl
        clear h0 HV
        by_cases h6 : 0 < n 6
        · have h6' : (0 : Int) < ((n 6 : Nat) : Int) := by omega
          have h4' : (r.fr == 4) = false := by simp; intro h; exact h4 ⟨h6, h⟩
          clear h4
          cases mq with
          | true => unfold ruV at *
                    go_enter Tryz.func57, Tryz.ntmps57
                    go_wp2_with fail
                    refine (HL.out _ (by (repeat' (first | (with_reducible exact Below.refl _ _) | (with_reducible assumption) | (with_reducible refine below_drewN ?_ _) | (with_reducible refine Below.alloc ?_ ?_ _) | (with_reducible refine Below.drew ?_) | (with_reducible refine Below.setCell ?_ ?_ _) | go_size)))).mono ?_
                    rintro e w1 ⟨rfl, hb1⟩
                    have hbw : Below w.heap.size w w1 := ((Below.refl _ w).alloc (Nat.le_refl _) _).trans (hb1.mono (by simp))
                    have HE1 := Lib.hid (HE.out.below hb1)
                    clear hb1 HE
                    obtain ⟨x0, x1, x2, x3, x4, x5, x6, x7, x8, x9, x10⟩ := HE1.out
                    go_wp2_with fail
                    refine (HC.out _ hbw).mono ?_
                    rintro e w2 ⟨rfl, rfl⟩
                    go_wp2_with fail
                    refine (HM.out _ hbw).mono ?_
                    rintro e w2 ⟨rfl, hb2⟩
                    go_wp2
                    go_ret
                    exact ⟨ret_int HR.out.symm, bthen hbw hb2 hbw.size⟩
          | false => unfold ruV at *
                     go_enter Tryz.func57, Tryz.ntmps57
                     go_wp2_with fail
                     refine (HL.out _ (by (repeat' (first | (with_reducible exact Below.refl _ _) | (with_reducible assumption) | (with_reducible refine below_drewN ?_ _) | (with_reducible refine Below.alloc ?_ ?_ _) | (with_reducible refine Below.drew ?_) | (with_reducible refine Below.setCell ?_ ?_ _) | go_size)))).mono ?_
                     rintro e w1 ⟨rfl, hb1⟩
                     have hbw : Below w.heap.size w w1 := ((Below.refl _ w).alloc (Nat.le_refl _) _).trans (hb1.mono (by simp))
                     have HE1 := Lib.hid (HE.out.below hb1)
                     clear hb1 HE
                     obtain ⟨x0, x1, x2, x3, x4, x5, x6, x7, x8, x9, x10⟩ := HE1.out
                     go_wp2_with fail
                     refine (HC.out _ hbw).mono ?_
                     rintro e w2 ⟨rfl, rfl⟩
                     go_wp2_with fail
                     refine (HM.out _ hbw).mono ?_
                     rintro e w2 ⟨rfl, hb2⟩
                     go_wp2
                     go_ret
                     exact ⟨ret_int HR.out.symm, bthen hbw hb2 hbw.size⟩
        · have h6' : ¬ (0 : Int) < ((n 6 : Nat) : Int) := by omega
          clear h4
          cases mq with
          | true => unfold ruV at *
                    go_enter Tryz.func57, Tryz.ntmps57
                    go_wp2_with fail
                    refine (HL.out _ (by (repeat' (first | (with_reducible exact Below.refl _ _) | (with_reducible assumption) | (with_reducible refine below_drewN ?_ _) | (with_reducible refine Below.alloc ?_ ?_ _) | (with_reducible refine Below.drew ?_) | (with_reducible refine Below.setCell ?_ ?_ _) | go_size)))).mono ?_
                    rintro e w1 ⟨rfl, hb1⟩
                    have hbw : Below w.heap.size w w1 := ((Below.refl _ w).alloc (Nat.le_refl _) _).trans (hb1.mono (by simp))
                    have HE1 := Lib.hid (HE.out.below hb1)
                    clear hb1 HE
                    obtain ⟨x0, x1, x2, x3, x4, x5, x6, x7, x8, x9, x10⟩ := HE1.out
                    go_wp2_with fail
                    refine (HC.out _ hbw).mono ?_
                    rintro e w2 ⟨rfl, rfl⟩
                    go_wp2_with fail
                    refine (HM.out _ hbw).mono ?_
                    rintro e w2 ⟨rfl, hb2⟩
                    go_wp2
                    go_ret
                    exact ⟨ret_int HR.out.symm, bthen hbw hb2 hbw.size⟩
          | false => unfold ruV at *
                     go_enter Tryz.func57, Tryz.ntmps57
                     go_wp2_with fail
                     refine (HL.out _ (by (repeat' (first | (with_reducible exact Below.refl _ _) | (with_reducible assumption) | (with_reducible refine below_drewN ?_ _) | (with_reducible refine Below.alloc ?_ ?_ _) | (with_reducible refine Below.drew ?_) | (with_reducible refine Below.setCell ?_ ?_ _) | go_size)))).mono ?_
                     rintro e w1 ⟨rfl, hb1⟩
                     have hbw : Below w.heap.size w w1 := ((Below.refl _ w).alloc (Nat.le_refl _) _).trans (hb1.mono (by simp))
                     have HE1 := Lib.hid (HE.out.below hb1)
                     clear hb1 HE
                     obtain ⟨x0, x1, x2, x3, x4, x5, x6, x7, x8, x9, x10⟩ := HE1.out
                     go_wp2_with fail
                     refine (HC.out _ hbw).mono ?_
                     rintro e w2 ⟨rfl, rfl⟩
                     go_wp2_with fail
                     refine (HM.out _ hbw).mono ?_
                     rintro e w2 ⟨rfl, hb2⟩
                     go_wp2
                     go_ret
                     exact ⟨ret_int HR.out.symm, bthen hbw hb2 hbw.size⟩
  · have HR : Hid (R = le) := by show _ = _; rw [HV.out, if_pos h0]
    have h0' : (le != 0) = true := by simpa using h0
    clear h0 HV
    unfold ruV at *
    go_enter Tryz.func57, Tryz.ntmps57
    go_wp2_with fail
    refine (HL.out _ (by (repeat' (first | (with_reducible exact Below.refl _ _) | (with_reducible assumption) | (with_reducible refine below_drewN ?_ _) | (with_reducible refine Below.alloc ?_ ?_ _) | (with_reducible refine Below.drew ?_) | (with_reducible refine Below.setCell ?_ ?_ _) | go_size)))).mono ?_
    rintro e w1 ⟨rfl, hb1⟩
    have hbw : Below w.heap.size w w1 := ((Below.refl _ w).alloc (Nat.le_refl _) _).trans (hb1.mono (by simp))
    have HE1 := Lib.hid (HE.out.below hb1)
    clear hb1 HE
    obtain ⟨x0, x1, x2, x3, x4, x5, x6, x7, x8, x9, x10⟩ := HE1.out
    go_wp2
    go_ret
    exact ⟨ret_int HR.out.symm, hbw⟩
end
end Go.Proofs.YtnelecjjbmjhaaaGreat
