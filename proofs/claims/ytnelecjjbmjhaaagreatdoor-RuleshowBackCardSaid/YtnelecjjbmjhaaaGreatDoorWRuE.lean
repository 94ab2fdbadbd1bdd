/- What is wrong with a rule: the weekdays, the head; Check. -/
import Derived.Test.YtnelecjjbmjhaaaGreatDoorWRuD
namespace Go.Proofs.YtnelecjjbmjhaaaGreatDoor
open Go.RowKit
set_option linter.unusedSimpArgs false
set_option linter.unusedVariables false

section
variable {r : RuV} {A : Nat → Option Addr} {n c : Nat → Nat} {w : World} (hA : RdRu w A n r) (hn : ∀ k, n k ≤ 1000000)
include hA hn
set_option maxRecDepth 20000 in
set_option maxHeartbeats 4000000 in
theorem weeks_any : Calls Tryz.prog 118 #[ruV r A n c] w (Ret (.int .i64 (weeksE r)) w) := by
  have eg : ∀ args w, (callFunc 161 args).run Tryz.prog w = .ok (.enter 161 args) w := enters_of Tryz.func161 (by kernel_rfl) rfl
  have HW := Lib.hid (fun W (hb : Below w.heap.size w W) => which_any (c := c) (hA.below hb) hn)
  have HP := Lib.hid (fun W (hb : Below w.heap.size w W) => plain_any (c := c) (hA.below hb) hn)
  have HLn : Hid ((nsC r).length ≤ 1000000) := by show _ ≤ _; rw [nsC_len hA]; exact hn 7
  have HO1 := Lib.hid (fun A' n' c' W (h : RdInts W A' n' (nsC r)) (hn' : n' ≤ 1000000) => outside_any A' n' c' (nsC r) (-53) 53 W h (by omega))
  have HO5 := Lib.hid (fun A' n' c' W (h : RdInts W A' n' (nsC r)) (hn' : n' ≤ 1000000) => outside_any A' n' c' (nsC r) (-5) 5 W h (by omega))
  have HM := Lib.hid (fun A' n' c' W (h : RdInts W A' n' (nsC r)) (hn' : n' ≤ 1000000) => mixed_any A' n' c' (nsC r) W h hn')
  have HD := Lib.hid (fun W (hb : Below w.heap.size w W) => containsFuncN_any (A 7) (n 7) (c 7) r.wk 161 #[] badDay W (hA.wk.below hb (Nat.le_refl _)) (by have := hn 7; omega) eg (weeks1_any W))
  have HV : Hid (weeksE r = if 64 < r.wk.length then 5 else if (nsC r).any (outC (-53) 53) = true ∨ r.wk.any badDay = true then 4 else if mixC (nsC r) = true ∨ ((nsC r).any (outC 0 0) = true ∧ r.fr ≠ 5 ∧ r.fr ≠ 6) then 12 else if (r.fr = 5 ∨ 0 < r.mo.length) ∧ (nsC r).any (outC (-5) 5) = true then 4 else 0) := rfl
  rw [show r.wk.length = n 7 from hA.wk.1, show r.mo.length = n 5 from hA.mo.1] at HV
  have HE := Lib.hid (ruAt_new w r A n c 25)
  clear hA hn eg
  generalize weeksE r = R at *
  generalize nsC r = ns at *
  generalize ns.any (outC (-53) 53) = O1 at *
  generalize ns.any (outC (-5) 5) = O5 at *
  generalize ns.any (outC 0 0) = O0 at *
  generalize mixC ns = M at *
  generalize r.wk.any badDay = D at *
  unfold ruV at *
  by_cases h64 : 64 < n 7
  · have HR : Hid (R = 5) := by show _ = _; rw [HV.out, if_pos h64]
    have h64' : (64 : Int) < ((n 7 : Nat) : Int) := by omega
    clear h64 HV
    go_enter Tryz.func118, Tryz.ntmps118
    go_wp2
    go_ret
    exact ⟨ret_int HR.out.symm, by (repeat' (first | (with_reducible exact Below.refl _ _) | (with_reducible assumption) | (with_reducible refine below_drewN ?_ _) | (with_reducible refine Below.alloc ?_ ?_ _) | (with_reducible refine Below.drew ?_) | (with_reducible refine Below.setCell ?_ ?_ _) | go_size))⟩
  · have h64' : ¬ (64 : Int) < ((n 7 : Nat) : Int) := by omega
    have HV2 := HV.out
    rw [if_neg h64] at HV2
    replace HV2 := Lib.hid HV2
    clear h64 HV
    go_enter Tryz.func118, Tryz.ntmps118
    go_wp2_with fail
    refine (HW.out _ (by (repeat' (first | (with_reducible exact Below.refl _ _) | (with_reducible assumption) | (with_reducible refine below_drewN ?_ _) | (with_reducible refine Below.alloc ?_ ?_ _) | (with_reducible refine Below.drew ?_) | (with_reducible refine Below.setCell ?_ ?_ _) | go_size)))).mono ?_
    rintro e w1 ⟨v, rfl, hv, hb1⟩
    obtain ⟨A', c', rfl, _, _, hr, _⟩ := hv.rd
    have hbw : Below w.heap.size w w1 := ((Below.refl _ w).alloc (Nat.le_refl _) _).trans (hb1.mono (by simp))
    have HE1 := Lib.hid (HE.out.below hb1)
    have HRd := Lib.hid hr
    have HO1' := Lib.hid (fun W (h : RdInts W A' ns.length ns) => HO1.out A' ns.length c' W h HLn.out)
    have HO5' := Lib.hid (fun W (h : RdInts W A' ns.length ns) => HO5.out A' ns.length c' W h HLn.out)
    have HM' := Lib.hid (fun W (h : RdInts W A' ns.length ns) => HM.out A' ns.length c' W h HLn.out)
    generalize hnl : ns.length = nl at *
    clear hb1 hv HE HW hr HO1 HO5 HM hnl HLn
    obtain ⟨x0, x1, x2, x3, x4, x5, x6, x7, x8, x9, x10⟩ := HE1.out
    go_wp2_with fail
    refine (HO1'.out _ HRd.out).mono ?_
    rintro e w2 ⟨rfl, hb2⟩
    have hbw2 := bthen hbw hb2 hbw.size
    have HE2 := Lib.hid (HE1.out.below hb2)
    have HRd2 := Lib.hid (HRd.out.below hb2 (Nat.le_refl _))
    clear x0 x1 x2 x3 x4 x5 x6 x7 x8 x9 x10 hb2 HE1 HRd HO1'
    obtain ⟨x0, x1, x2, x3, x4, x5, x6, x7, x8, x9, x10⟩ := HE2.out
    cases O1 with
    | true =>
      have HR : Hid (R = 4) := by show _ = _; rw [HV2.out, if_pos (.inl rfl)]
      clear HV2
      go_wp2
      go_ret
      exact ⟨ret_int HR.out.symm, hbw2⟩
    | false =>
      go_wp2_with fail
      refine (HD.out _ hbw2).mono ?_
      rintro e w3 ⟨rfl, hb3⟩
      have hbw3 := bthen hbw2 hb3 hbw2.size
      have HE3 := Lib.hid (HE2.out.below hb3)
      have HRd3 := Lib.hid (HRd2.out.below hb3 (Nat.le_refl _))
      clear x0 x1 x2 x3 x4 x5 x6 x7 x8 x9 x10 hb3 HE2 HRd2 HD
      obtain ⟨x0, x1, x2, x3, x4, x5, x6, x7, x8, x9, x10⟩ := HE3.out
      cases D with
      | true =>
        have HR : Hid (R = 4) := by show _ = _; rw [HV2.out, if_pos (.inr rfl)]
        clear HV2
        go_wp2
        go_ret
        exact ⟨ret_int HR.out.symm, hbw3⟩
      | false =>
        have HV3 := HV2.out
        rw [if_neg (by simp)] at HV3
        replace HV3 := Lib.hid HV3
        clear HV2
        go_wp2_with fail
        refine (HM'.out _ HRd3.out).mono ?_
        rintro e w4 ⟨rfl, hb4⟩
        have hbw4 := bthen hbw3 hb4 hbw3.size
        have HE4 := Lib.hid (HE3.out.below hb4)
        have HRd4 := Lib.hid (HRd3.out.below hb4 (Nat.le_refl _))
        clear x0 x1 x2 x3 x4 x5 x6 x7 x8 x9 x10 hb4 HE3 HRd3 HM'
        obtain ⟨x0, x1, x2, x3, x4, x5, x6, x7, x8, x9, x10⟩ := HE4.out
        cases M with
        | true =>
          have HR : Hid (R = 12) := by show _ = _; rw [HV3.out, if_pos (.inl rfl)]
          clear HV3
          go_wp2
          go_ret
          exact ⟨ret_int HR.out.symm, hbw4⟩
        | false =>
          go_wp2_with fail
          refine (HP.out _ hbw4).mono ?_
          rintro e w5 ⟨rfl, hb5⟩
          have hbw5 := bthen hbw4 hb5 hbw4.size
          have HE5 := Lib.hid (HE4.out.below hb5)
          have HRd5 := Lib.hid (HRd4.out.below hb5 (Nat.le_refl _))
          clear x0 x1 x2 x3 x4 x5 x6 x7 x8 x9 x10 hb5 HE4 HRd4 HP
          obtain ⟨x0, x1, x2, x3, x4, x5, x6, x7, x8, x9, x10⟩ := HE5.out
          by_cases h12 : O0 = true ∧ r.fr ≠ 5 ∧ r.fr ≠ 6
          · have HR : Hid (R = 12) := by show _ = _; rw [HV3.out, if_pos (.inr h12)]
            obtain ⟨rfl, h5, h6⟩ := h12
            have h5' : (r.fr != 5) = true := by simpa using h5
            have h6' : (r.fr != 6) = true := by simpa using h6
            clear HV3 h5 h6
            go_wp2
            go_ret
            exact ⟨ret_int HR.out.symm, hbw5⟩
          · have HV4 := HV3.out
            rw [if_neg (by simp; intro h1 h2; false_or_by_contra; rename_i h3; exact h12 ⟨h1, h2, h3⟩)] at HV4
            replace HV4 := Lib.hid HV4
            clear HV3
            by_cases h5 : r.fr = 5
            · have h5' : (r.fr != 5) = false := by simpa using h5
              have h5'' : (r.fr == 5) = true := by simpa using h5
              have HR : Hid (R = if O5 = true then 4 else 0) := by show _ = _; rw [HV4.out]; simp [h5]
              clear HV4 h12 h5
              cases O0 with
              | true => go_wp2_with fail
                        refine (HO5'.out _ HRd5.out).mono ?_
                        rintro e w6 ⟨rfl, hb6⟩
                        cases O5 with
                        | true =>
                          go_wp2
                          go_ret
                          exact ⟨ret_int HR.out.symm, bthen hbw5 hb6 hbw5.size⟩
                        | false =>
                          go_wp2
                          go_ret
                          exact ⟨ret_int HR.out.symm, bthen hbw5 hb6 hbw5.size⟩
              | false => go_wp2_with fail
                         refine (HO5'.out _ HRd5.out).mono ?_
                         rintro e w6 ⟨rfl, hb6⟩
                         cases O5 with
                         | true =>
                           go_wp2
                           go_ret
                           exact ⟨ret_int HR.out.symm, bthen hbw5 hb6 hbw5.size⟩
                         | false =>
                           go_wp2
                           go_ret
                           exact ⟨ret_int HR.out.symm, bthen hbw5 hb6 hbw5.size⟩
            · have h5' : (r.fr != 5) = true := by simpa using h5
              have h5'' : (r.fr == 5) = false := by simpa using h5
              have h6 : O0 = true → (r.fr != 6) = false := fun h => by simp; false_or_by_contra; rename_i h3; exact h12 ⟨h, h5, h3⟩
              by_cases hm : 0 < n 5
              · have hm' : (0 : Int) < ((n 5 : Nat) : Int) := by omega
                have HR : Hid (R = if O5 = true then 4 else 0) := by show _ = _; rw [HV4.out]; simp [hm]
                clear HV4 h12 h5
                cases O0 with
                | true =>
                  have h6' := h6 rfl
                  clear h6
                  go_wp2_with fail
                  refine (HO5'.out _ HRd5.out).mono ?_
                  rintro e w6 ⟨rfl, hb6⟩
                  cases O5 with
                  | true =>
                    go_wp2
                    go_ret
                    exact ⟨ret_int HR.out.symm, bthen hbw5 hb6 hbw5.size⟩
                  | false =>
                    go_wp2
                    go_ret
                    exact ⟨ret_int HR.out.symm, bthen hbw5 hb6 hbw5.size⟩
                | false =>
                  clear h6
                  go_wp2_with fail
                  refine (HO5'.out _ HRd5.out).mono ?_
                  rintro e w6 ⟨rfl, hb6⟩
                  cases O5 with
                  | true =>
                    go_wp2
                    go_ret
                    exact ⟨ret_int HR.out.symm, bthen hbw5 hb6 hbw5.size⟩
                  | false =>
                    go_wp2
                    go_ret
                    exact ⟨ret_int HR.out.symm, bthen hbw5 hb6 hbw5.size⟩
              · have hm' : ¬ (0 : Int) < ((n 5 : Nat) : Int) := by omega
                have HR : Hid (R = 0) := by show _ = _; rw [HV4.out]; simp [hm, h5]
                clear HV4 h12 h5
                cases O0 with
                | true =>
                  have h6' := h6 rfl
                  clear h6
                  go_wp2
                  go_ret
                  exact ⟨ret_int HR.out.symm, hbw5⟩
                | false =>
                  clear h6
                  go_wp2
                  go_ret
                  exact ⟨ret_int HR.out.symm, hbw5⟩
end
end Go.Proofs.YtnelecjjbmjhaaaGreatDoor
