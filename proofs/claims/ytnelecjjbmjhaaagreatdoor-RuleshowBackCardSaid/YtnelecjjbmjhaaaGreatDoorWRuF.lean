/- What is wrong with a rule: the head; Check. -/
import Derived.Test.YtnelecjjbmjhaaaGreatDoorWRuE
namespace Go.Proofs.YtnelecjjbmjhaaaGreatDoor
open Go.RowKit
set_option linter.unusedSimpArgs false
set_option linter.unusedVariables false

section
variable {r : RuV} {A : Nat → Option Addr} {n c : Nat → Nat} {w : World}
set_option maxRecDepth 20000 in
set_option maxHeartbeats 4000000 in
theorem head_any : Calls Tryz.prog 114 #[ruV r A n c] w (Ret (.int .i64 (headE r)) w) := by
  have HI := Lib.hid (fun t W => in_any t W)
  have HU := Lib.hid (fun W => uname_any r.fr W)
  have HUe : Hid ((strB (unT r.fr)).toList.isEmpty = decide (unT r.fr = [])) := by
    show _ = _
    rw [ByteArray.toList_eq, strB_data]
    cases unT r.fr <;> simp
  have HV : Hid (headE r = if inC r.st = false ∨ unT r.fr = [] ∨ r.iv < 1 ∨ 1000000000000000 < r.iv ∨ r.ct < 0 ∨ 1000000000000000 < r.ct then 4 else if r.un ≠ -1 ∧ inC r.un = false then 4 else if r.un ≠ -1 ∧ 0 < r.ct then 12 else 0) := rfl
  have HE := Lib.hid (ruAt_new w r A n c 25)
  have HIs := Lib.hid (fun W => HI.out r.st W)
  have HIu := Lib.hid (fun W => HI.out r.un W)
  clear HI
  generalize headE r = R at *
  generalize inC r.st = is at *
  generalize inC r.un = iu at *
  have HT : Hid (unT r.fr = [] → (strB (unT r.fr)).toList.isEmpty = true) := fun h => by rw [HUe.out]; simpa using h
  have HT2 : Hid (unT r.fr ≠ [] → (strB (unT r.fr)).toList.isEmpty = false) := fun h => by rw [HUe.out]; simpa using h
  generalize strB (unT r.fr) = T at *
  unfold ruV at *
  cases is with
  | false =>
    have HR : Hid (R = 4) := by show _ = _; rw [HV.out, if_pos (.inl rfl)]
    clear HV HT HT2 HUe HU
    go_enter Tryz.func114, Tryz.ntmps114
    go_wp2_with fail
    refine (HIs.out _).mono ?_
    rintro e w1 ⟨rfl, rfl⟩
    go_wp2
    go_ret
    exact ⟨ret_int HR.out.symm, by (repeat' (first | (with_reducible exact Below.refl _ _) | (with_reducible assumption) | (with_reducible refine below_drewN ?_ _) | (with_reducible refine Below.alloc ?_ ?_ _) | (with_reducible refine Below.drew ?_) | (with_reducible refine Below.setCell ?_ ?_ _) | go_size))⟩
  | true =>
    by_cases hu : unT r.fr = []
    · have hT := HT.out hu
      have HR : Hid (R = 4) := by show _ = _; rw [HV.out, if_pos (.inr (.inl hu))]
      clear HV HT HT2 HUe hu
      go_enter Tryz.func114, Tryz.ntmps114
      go_wp2_with fail
      refine (HIs.out _).mono ?_
      rintro e w1 ⟨rfl, rfl⟩
      go_wp2_with fail
      refine (HU.out _).mono ?_
      rintro e w1 ⟨rfl, hb1⟩
      have hbw : Below w.heap.size w w1 := ((Below.refl _ w).alloc (Nat.le_refl _) _).trans (hb1.mono (by simp))
      have HE1 := Lib.hid (HE.out.below hb1)
      clear hb1 HE
      obtain ⟨x0, x1, x2, x3, x4, x5, x6, x7, x8, x9, x10⟩ := HE1.out
      go_wp2
      go_ret
      exact ⟨ret_int HR.out.symm, hbw⟩
    · have hT := HT2.out hu
      by_cases hrest : r.iv < 1 ∨ 1000000000000000 < r.iv ∨ r.ct < 0 ∨ 1000000000000000 < r.ct
      · have HR : Hid (R = 4) := by show _ = _; rw [HV.out, if_pos (.inr (.inr hrest))]
        clear HV HT HT2 HUe hu
        by_cases g1 : r.iv < 1
        · clear hrest
          go_enter Tryz.func114, Tryz.ntmps114
          go_wp2_with fail
          refine (HIs.out _).mono ?_
          rintro e w1 ⟨rfl, rfl⟩
          go_wp2_with fail
          refine (HU.out _).mono ?_
          rintro e w1 ⟨rfl, hb1⟩
          have hbw : Below w.heap.size w w1 := ((Below.refl _ w).alloc (Nat.le_refl _) _).trans (hb1.mono (by simp))
          have HE1 := Lib.hid (HE.out.below hb1)
          clear hb1 HE
          obtain ⟨x0, x1, x2, x3, x4, x5, x6, x7, x8, x9, x10⟩ := HE1.out
          go_wp2
          go_ret
          exact ⟨ret_int HR.out.symm, hbw⟩
        · by_cases g2 : 1000000000000000 < r.iv
          · clear hrest
            go_enter Tryz.func114, Tryz.ntmps114
            go_wp2_with fail
            refine (HIs.out _).mono ?_
            rintro e w1 ⟨rfl, rfl⟩
            go_wp2_with fail
            refine (HU.out _).mono ?_
            rintro e w1 ⟨rfl, hb1⟩
            have hbw : Below w.heap.size w w1 := ((Below.refl _ w).alloc (Nat.le_refl _) _).trans (hb1.mono (by simp))
            have HE1 := Lib.hid (HE.out.below hb1)
            clear hb1 HE
            obtain ⟨x0, x1, x2, x3, x4, x5, x6, x7, x8, x9, x10⟩ := HE1.out
            go_wp2
            go_ret
            exact ⟨ret_int HR.out.symm, hbw⟩
          · by_cases g3 : r.ct < 0
            · clear hrest
              go_enter Tryz.func114, Tryz.ntmps114
              go_wp2_with fail
              refine (HIs.out _).mono ?_
              rintro e w1 ⟨rfl, rfl⟩
              go_wp2_with fail
              refine (HU.out _).mono ?_
              rintro e w1 ⟨rfl, hb1⟩
              have hbw : Below w.heap.size w w1 := ((Below.refl _ w).alloc (Nat.le_refl _) _).trans (hb1.mono (by simp))
              have HE1 := Lib.hid (HE.out.below hb1)
              clear hb1 HE
              obtain ⟨x0, x1, x2, x3, x4, x5, x6, x7, x8, x9, x10⟩ := HE1.out
              go_wp2
              go_ret
              exact ⟨ret_int HR.out.symm, hbw⟩
            · have g4 : 1000000000000000 < r.ct := by omega
              clear hrest
              go_enter Tryz.func114, Tryz.ntmps114
              go_wp2_with fail
              refine (HIs.out _).mono ?_
              rintro e w1 ⟨rfl, rfl⟩
              go_wp2_with fail
              refine (HU.out _).mono ?_
              rintro e w1 ⟨rfl, hb1⟩
              have hbw : Below w.heap.size w w1 := ((Below.refl _ w).alloc (Nat.le_refl _) _).trans (hb1.mono (by simp))
              have HE1 := Lib.hid (HE.out.below hb1)
              clear hb1 HE
              obtain ⟨x0, x1, x2, x3, x4, x5, x6, x7, x8, x9, x10⟩ := HE1.out
              go_wp2
              go_ret
              exact ⟨ret_int HR.out.symm, hbw⟩
      · have g1 : ¬ r.iv < 1 := by omega
        have g2 : ¬ 1000000000000000 < r.iv := by omega
        have g3 : ¬ r.ct < 0 := by omega
        have g4 : ¬ 1000000000000000 < r.ct := by omega
        have HV2 := HV.out
        rw [if_neg (by
          rintro (h | h | h)
          · cases h
          · exact hu h
          · exact hrest h)] at HV2
        replace HV2 := Lib.hid HV2
        clear HV HT HT2 HUe hu hrest
        by_cases hun : r.un = -1
        · have hun' : (r.un != -1) = false := by simpa using hun
          have HR : Hid (R = 0) := by show _ = _; rw [HV2.out, if_neg (fun h => h.1 hun), if_neg (fun h => h.1 hun)]
          clear HV2 hun
          go_enter Tryz.func114, Tryz.ntmps114
          go_wp2_with fail
          refine (HIs.out _).mono ?_
          rintro e w1 ⟨rfl, rfl⟩
          go_wp2_with fail
          refine (HU.out _).mono ?_
          rintro e w1 ⟨rfl, hb1⟩
          have hbw : Below w.heap.size w w1 := ((Below.refl _ w).alloc (Nat.le_refl _) _).trans (hb1.mono (by simp))
          have HE1 := Lib.hid (HE.out.below hb1)
          clear hb1 HE
          obtain ⟨x0, x1, x2, x3, x4, x5, x6, x7, x8, x9, x10⟩ := HE1.out
          go_wp2
          go_ret
          exact ⟨ret_int HR.out.symm, hbw⟩
        · have hun' : (r.un != -1) = true := by simpa using hun
          cases iu with
          | false =>
            have HR : Hid (R = 4) := by show _ = _; rw [HV2.out, if_pos ⟨hun, rfl⟩]
            clear HV2 hun
            go_enter Tryz.func114, Tryz.ntmps114
            go_wp2_with fail
            refine (HIs.out _).mono ?_
            rintro e w1 ⟨rfl, rfl⟩
            go_wp2_with fail
            refine (HU.out _).mono ?_
            rintro e w1 ⟨rfl, hb1⟩
            have hbw : Below w.heap.size w w1 := ((Below.refl _ w).alloc (Nat.le_refl _) _).trans (hb1.mono (by simp))
            have HE1 := Lib.hid (HE.out.below hb1)
            clear hb1 HE
            obtain ⟨x0, x1, x2, x3, x4, x5, x6, x7, x8, x9, x10⟩ := HE1.out
            go_wp2_with fail
            refine (HIu.out _).mono ?_
            rintro e w2 ⟨rfl, rfl⟩
            go_wp2
            go_ret
            exact ⟨ret_int HR.out.symm, hbw⟩
          | true =>
            by_cases hct : 0 < r.ct
            · have HR : Hid (R = 12) := by show _ = _; rw [HV2.out, if_neg (fun h => by cases h.2), if_pos ⟨hun, hct⟩]
              clear HV2 hun
              go_enter Tryz.func114, Tryz.ntmps114
              go_wp2_with fail
              refine (HIs.out _).mono ?_
              rintro e w1 ⟨rfl, rfl⟩
              go_wp2_with fail
              refine (HU.out _).mono ?_
              rintro e w1 ⟨rfl, hb1⟩
              have hbw : Below w.heap.size w w1 := ((Below.refl _ w).alloc (Nat.le_refl _) _).trans (hb1.mono (by simp))
              have HE1 := Lib.hid (HE.out.below hb1)
              clear hb1 HE
              obtain ⟨x0, x1, x2, x3, x4, x5, x6, x7, x8, x9, x10⟩ := HE1.out
              go_wp2_with fail
              refine (HIu.out _).mono ?_
              rintro e w2 ⟨rfl, rfl⟩
              go_wp2
              go_ret
              exact ⟨ret_int HR.out.symm, hbw⟩
            · have HR : Hid (R = 0) := by show _ = _; rw [HV2.out, if_neg (fun h => by cases h.2), if_neg (fun h => hct h.2)]
              clear HV2 hun
              go_enter Tryz.func114, Tryz.ntmps114
              go_wp2_with fail
              refine (HIs.out _).mono ?_
              rintro e w1 ⟨rfl, rfl⟩
              go_wp2_with fail
              refine (HU.out _).mono ?_
              rintro e w1 ⟨rfl, hb1⟩
              have hbw : Below w.heap.size w w1 := ((Below.refl _ w).alloc (Nat.le_refl _) _).trans (hb1.mono (by simp))
              have HE1 := Lib.hid (HE.out.below hb1)
              clear hb1 HE
              obtain ⟨x0, x1, x2, x3, x4, x5, x6, x7, x8, x9, x10⟩ := HE1.out
              go_wp2_with fail
              refine (HIu.out _).mono ?_
              rintro e w2 ⟨rfl, rfl⟩
              go_wp2
              go_ret
              exact ⟨ret_int HR.out.symm, hbw⟩
end
end Go.Proofs.YtnelecjjbmjhaaaGreatDoor
