/- What is wrong with a rule: Check. -/
import Derived.Test.YtnelecjjbmjhaaaGreatDoorWRuF
import Derived.Laws.EntriesVeiled
namespace Go.Proofs.YtnelecjjbmjhaaaGreatDoor
open Go.RowKit
set_option linter.unusedSimpArgs false
set_option linter.unusedVariables false

/-- What looks at a rule, in order. -/
def fnV (k : Nat) : Value := .func (.func (if k = 0 then 114 else if k = 1 then 115 else if k = 2 then 117 else if k = 3 then 118 else if k = 4 then 119 else if k = 5 then 120 else 121)) #[] #[]
def RetParts (w : World) (e : Ending) (w' : World) : Prop := ∃ B, w.heap.size ≤ B ∧ e = .returned (.slice (some ⟨B, 0, none⟩) 7 7) ∧ Arr w' B 7 fnV ∧ Below w.heap.size w w'
theorem parts_all (w : World) : Calls Tryz.prog 63 #[] w (RetParts w) := by
  go_enter Tryz.func63, Tryz.ntmps63
  go_wp2
  go_ret
  refine ⟨_, Nat.le_refl _, rfl, ?_, by (repeat' (first | (with_reducible exact Below.refl _ _) | (with_reducible assumption) | (with_reducible refine below_drewN ?_ _) | (with_reducible refine Below.alloc ?_ ?_ _) | (with_reducible refine Below.drew ?_) | (with_reducible refine Below.setCell ?_ ?_ _) | go_size))⟩
  refine arr_new w #[fnV 0, fnV 1, fnV 2, fnV 3, fnV 4, fnV 5, fnV 6] _ fnV ?_
  intro j hj
  obtain rfl | rfl | rfl | rfl | rfl | rfl | rfl : j = 0 ∨ j = 1 ∨ j = 2 ∨ j = 3 ∨ j = 4 ∨ j = 5 ∨ j = 6 := by simp at hj; omega
  all_goals rfl
section
variable {r : RuV} {A : Nat → Option Addr} {n c : Nat → Nat} {w : World} (hA : RdRu w A n r) (hn : ∀ k, n k ≤ 1000000)
include hA hn
theorem fault_any : ∀ k, k < 7 → Calls Tryz.prog (if k = 0 then 114 else if k = 1 then 115 else if k = 2 then 117 else if k = 3 then 118 else if k = 4 then 119 else if k = 5 then 120 else 121) #[ruV r A n c] w (Ret (.int .i64 (faultR r k)) w) := by
  intro k hk
  obtain rfl | rfl | rfl | rfl | rfl | rfl | rfl : k = 0 ∨ k = 1 ∨ k = 2 ∨ k = 3 ∨ k = 4 ∨ k = 5 ∨ k = 6 := by omega
  · exact head_any
  · exact parts1_any hA hn
  · exact days_any hA hn
  · exact weeks_any hA hn
  · exact parts2_any hA hn
  · exact parts3_any hA hn
  · exact parts4_any hA hn
set_option maxRecDepth 20000 in
set_option maxHeartbeats 4000000 in
theorem rcheck_all : Calls Tryz.prog 24 #[ruV r A n c] w (Ret (.int .i64 (chkR r)) w) := by
  have HF := Lib.hid (fun (k : Nat) (hk : k < 7) W (hb : Below w.heap.size w W) => fault_any (c := c) (hA.below hb) hn k hk)
  have HE := Lib.hid (ruAt_new w r A n c 25)
  have HCat := Lib.hid (fun (k : Nat) (hk : k < 7) (H : ∀ j, j < k → faultR r j = 0) (h : faultR r k ≠ 0) => chkR_at hk H h)
  have HCall := Lib.hid (fun (H : ∀ j, j < 7 → faultR r j = 0) => chkR_all H)
  have eg : ∀ (k : Nat), k < 7 → ∀ args w, (callFunc (if k = 0 then 114 else if k = 1 then 115 else if k = 2 then 117 else if k = 3 then 118 else if k = 4 then 119 else if k = 5 then 120 else 121) args).run Tryz.prog w = .ok (.enter (if k = 0 then 114 else if k = 1 then 115 else if k = 2 then 117 else if k = 3 then 118 else if k = 4 then 119 else if k = 5 then 120 else 121) args) w := by
    intro k hk
    obtain rfl | rfl | rfl | rfl | rfl | rfl | rfl : k = 0 ∨ k = 1 ∨ k = 2 ∨ k = 3 ∨ k = 4 ∨ k = 5 ∨ k = 6 := by omega
    · exact enters_of Tryz.func114 (by kernel_rfl) rfl
    · exact enters_of Tryz.func115 (by kernel_rfl) rfl
    · exact enters_of Tryz.func117 (by kernel_rfl) rfl
    · exact enters_of Tryz.func118 (by kernel_rfl) rfl
    · exact enters_of Tryz.func119 (by kernel_rfl) rfl
    · exact enters_of Tryz.func120 (by kernel_rfl) rfl
    · exact enters_of Tryz.func121 (by kernel_rfl) rfl
  have HEg := Lib.hid eg
  clear hA hn eg
  unfold ruV at *
  go_enter Tryz.func24, Tryz.ntmps24
  go_wp2_with fail
  refine (parts_all _).mono ?_
  rintro e w1 ⟨B, hB, rfl, hAr, hb1⟩
  have hbw : Below w.heap.size w w1 := ((Below.refl _ w).alloc (Nat.le_refl _) _).trans (hb1.mono (by simp))
  have HE1 := Lib.hid (HE.out.below hb1)
  have HArr := Lib.hid hAr
  clear hb1 HE hAr hB
  go_wp2
  go_loopw [8] (fun i wr => ∃ k : Nat, k ≤ 7 ∧ i = .int .i64 k ∧ Hid (∀ j, j < k → faultR r j = 0) ∧ Hid (Arr wr B 7 fnV) ∧ Hid (RuAt wr w.heap.size r A n c) ∧ Below w.heap.size w wr) (fun i _ => 7 - (intOf i).toNat)
  case atStart => exact ⟨0, by omega, rfl, fun j h => absurd h (Nat.not_lt_zero _), HArr, HE1, hbw⟩
  case round =>
    clear HE1 HArr hbw
    obtain ⟨k, hk, rfl, H, HA, HE, hb⟩ := hrel
    have hsz := hb.size
    by_cases h7 : k < 7
    · have h7' : (k : Int) < 7 := by omega
      have hx := HA.out.1 k h7
      have hBl := HA.out.lt (by decide)
      have hElt := HE.out.lt
      have heg := HEg.out k h7
      have hf := Lib.hid (HF.out k h7)
      unfold fnV at hx
      generalize (if k = 0 then 114 else if k = 1 then 115 else if k = 2 then 117 else if k = 3 then 118 else if k = 4 then 119 else if k = 5 then 120 else 121) = g at *
      have HE' := Lib.hid (HE.out.below ((Below.refl _ wr).alloc (Nat.le_refl _) (.cells #[.func (.func g) #[] #[]] 105)))
      obtain ⟨x0, x1, x2, x3, x4, x5, x6, x7, x8, x9, x10⟩ := HE.out
      have hcall := Lib.hid (hf.out (wr.alloc (.cells #[.func (.func g) #[] #[]] 105)) (hb.alloc hsz _))
      by_cases h0 : faultR r k = 0
      · have H0 := Lib.hid h0
        rw [h0] at hcall
        clear h0 hf
        go_wp2_with (go_at_fn g; refine hcall.out.mono ?_; rintro e w2 ⟨rfl, hb2⟩)
        go_roundw
        case rel =>
          have hb3 : Below wr.heap.size wr w2 := ((Below.refl _ wr).alloc (Nat.le_refl _) _).trans (hb2.mono (by simp))
          exact ⟨k + 1, by omega, by go_num, upto_succ H.out H0.out, HA.out.below hBl hb3, HE.out.below hb3, bthen hb hb3 hsz⟩
        case measure => simp [intOf]; omega
      · have HR : Hid (chkR r = faultR r k) := HCat.out k h7 H.out h0
        have h0' : (faultR r k != 0) = true := by simpa using h0
        clear h0 hf
        generalize faultR r k = q at *
        go_wp2_with (go_at_fn g; refine hcall.out.mono ?_; rintro e w2 ⟨rfl, hb2⟩)
        go_ret
        exact ⟨ret_int HR.out.symm, bthen hb (((Below.refl _ wr).alloc (Nat.le_refl _) _).trans (hb2.mono (by simp))) hsz⟩
    · obtain rfl : k = 7 := by omega
      have HR : Hid (chkR r = 0) := HCall.out H.out
      go_wp2
      go_ret
      exact ⟨ret_int HR.out.symm, hb⟩
end
end Go.Proofs.YtnelecjjbmjhaaaGreatDoor
