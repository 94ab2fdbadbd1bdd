/- The walk of feriaref24.Same. -/
import Derived.Test.YtpfcgjneeboamaaDoorWCron2
import Derived.Deep.RegionHeld3
namespace Go.Proofs.YtpfcgjneeboamaaDoor
open Go.RowKit
set_option linter.unusedSimpArgs false
set_option linter.unusedVariables false

set_option maxHeartbeats 1000000 in
theorem rsame24_any (A B : Nat → Option Addr) (n c m d : Nat → Nat) (l r : Nat → List It) (w : World) (hA : RdLine w A n l) (hB : RdLine w B m r) (hn : ∀ k, n k ≤ 9223372036854775807) (hm : ∀ k, m k ≤ 9223372036854775807) :
    Calls Tryd.prog 7 #[crV A n c, crV B m d] w (Ret (.bool (sameLine l r)) w) := by
  have HA := Lib.hid hA
  have HB := Lib.hid hB
  have HN := Lib.hid hn
  have HM := Lib.hid hm
  clear hA hB hn hm
  go_enter Tryd.func7, Tryd.ntmps7
  go_wp2
  go_loopw [5] (fun i wr => ∃ k : Nat, k ≤ 5 ∧ i = .int .i64 k ∧ Hid (∀ j, j < k → sameIts (l j) (r j) = true) ∧ Hid (LineAt wr w.heap.size 0 A n c) ∧ Hid (LineAt wr (w.heap.size + 1) 0 B m d) ∧ w.heap.size + 1 < wr.heap.size ∧ Below w.heap.size w wr) (fun i _ => 5 - (intOf i).toNat)
  case atStart =>
    exact ⟨0, by omega, rfl, fun j h => absurd h (Nat.not_lt_zero _), ⟨by simp [go_sem], by simp [go_sem], by simp [go_sem], by simp [go_sem], by simp [go_sem]⟩, ⟨by simp [go_sem], by simp [go_sem], by simp [go_sem], by simp [go_sem], by simp [go_sem]⟩, by (first | (simp; done) | (simp; omega)), by (repeat' (first | (with_reducible exact Below.refl _ _) | (with_reducible assumption) | (with_reducible refine below_drewN ?_ _) | (with_reducible refine Below.alloc ?_ ?_ _) | (with_reducible refine Below.drew ?_) | (with_reducible refine Below.setCell ?_ ?_ _) | go_size))⟩
  case round =>
    obtain ⟨k, hk, rfl, H, HC, HD, hlt, hb⟩ := hrel
    have hsz := hb.size
    by_cases h5 : k < 5
    · have h5' : (k : Int) < 5 := by omega
      have HL := Lib.hid (fun W => rfield_in k h5 A n c W)
      have HR := Lib.hid (fun W => rfield_in k h5 B m d W)
      have HE := Lib.hid (fun W (hW : Below w.heap.size w W) => rsame_any (A k) (B k) (n k) (m k) (c k) (d k) (l k) (r k) W ((HA.out k h5).below hW (Nat.le_refl _)) ((HB.out k h5).below hW (Nat.le_refl _)) (HN.out k) (HM.out k) |>.mono fun _ _ h => h.toB)
      obtain ⟨l0, l1, l2, l3, l4⟩ := HC.out
      obtain ⟨m0, m1, m2, m3, m4⟩ := HD.out
      simp only [Nat.zero_add] at l1 l2 l3 l4 m1 m2 m3 m4
      have HS : Hid (∀ w', Below wr.heap.size wr w' → Below wr.heap.size wr w' ∧ w'.cell? ⟨w.heap.size, 0, none⟩ = some (.slice (A 0) (n 0) (c 0)) ∧ w'.cell? ⟨w.heap.size, 1, none⟩ = some (.slice (A 1) (n 1) (c 1)) ∧ w'.cell? ⟨w.heap.size, 2, none⟩ = some (.slice (A 2) (n 2) (c 2)) ∧ w'.cell? ⟨w.heap.size, 3, none⟩ = some (.slice (A 3) (n 3) (c 3)) ∧ w'.cell? ⟨w.heap.size, 4, none⟩ = some (.slice (A 4) (n 4) (c 4)) ∧ w'.cell? ⟨w.heap.size + 1, 0, none⟩ = some (.slice (B 0) (m 0) (d 0)) ∧ w'.cell? ⟨w.heap.size + 1, 1, none⟩ = some (.slice (B 1) (m 1) (d 1)) ∧ w'.cell? ⟨w.heap.size + 1, 2, none⟩ = some (.slice (B 2) (m 2) (d 2)) ∧ w'.cell? ⟨w.heap.size + 1, 3, none⟩ = some (.slice (B 3) (m 3) (d 3)) ∧ w'.cell? ⟨w.heap.size + 1, 4, none⟩ = some (.slice (B 4) (m 4) (d 4))) := by
        intro w' hW
        have e1 : ∀ o, w'.cell? ⟨w.heap.size, o, none⟩ = wr.cell? ⟨w.heap.size, o, none⟩ := fun o => hW.cell (p := ⟨_, o, none⟩) (by show w.heap.size < _; omega)
        have e2 : ∀ o, w'.cell? ⟨w.heap.size + 1, o, none⟩ = wr.cell? ⟨w.heap.size + 1, o, none⟩ := fun o => hW.cell (p := ⟨_, o, none⟩) (by show w.heap.size + 1 < _; omega)
        simp only [e1, e2]
        exact ⟨hW, l0, l1, l2, l3, l4, m0, m1, m2, m3, m4⟩
      cases hf : sameIts (l k) (r k) with
      | true =>
        have Hf := Lib.hid hf
        rw [hf] at HE
        clear hf
        go_wp2_with fail
        go_region_held3 (fun w' => Below wr.heap.size wr w' ∧ w'.cell? ⟨w.heap.size, 0, none⟩ = some (.slice (A 0) (n 0) (c 0)) ∧ w'.cell? ⟨w.heap.size, 1, none⟩ = some (.slice (A 1) (n 1) (c 1)) ∧ w'.cell? ⟨w.heap.size, 2, none⟩ = some (.slice (A 2) (n 2) (c 2)) ∧ w'.cell? ⟨w.heap.size, 3, none⟩ = some (.slice (A 3) (n 3) (c 3)) ∧ w'.cell? ⟨w.heap.size, 4, none⟩ = some (.slice (A 4) (n 4) (c 4)) ∧ w'.cell? ⟨w.heap.size + 1, 0, none⟩ = some (.slice (B 0) (m 0) (d 0)) ∧ w'.cell? ⟨w.heap.size + 1, 1, none⟩ = some (.slice (B 1) (m 1) (d 1)) ∧ w'.cell? ⟨w.heap.size + 1, 2, none⟩ = some (.slice (B 2) (m 2) (d 2)) ∧ w'.cell? ⟨w.heap.size + 1, 3, none⟩ = some (.slice (B 3) (m 3) (d 3)) ∧ w'.cell? ⟨w.heap.size + 1, 4, none⟩ = some (.slice (B 4) (m 4) (d 4)))
          (first | (go_split_ands; refine HS.out _ (bthen ?_ hb1 ?_); assumption; exact Below.size (by assumption)) | (refine HS.out _ ?_; exact Below.drew (Below.refl _ _)) | (refine HS.out _ ?_; exact below_drewN (Below.refl _ _) _))
          (first | (go_at_call 26; (with_reducible refine (HL.out _).mono ?_); rintro e w1 ⟨rfl, hb1⟩) | (go_at_call 26; (with_reducible refine (HR.out _).mono ?_); rintro e w1 ⟨rfl, hb1⟩) | (go_at_call 25; (with_reducible refine (HE.out _ ?_).mono ?_); (focus (go_split_ands; exact bthen hb (by assumption) hsz)); rintro e w1 ⟨rfl, hb1⟩))
        have hbf : Below wr.heap.size wr w1 := by go_split_ands; assumption
        clear hb1
        go_wp2
        go_roundw
        case rel => exact ⟨k + 1, by omega, by go_num, upto_succ H.out Hf.out, LineAt.below HC.out (fun o => hbf.cell (p := ⟨_, o, none⟩) (by show w.heap.size < _; omega)), LineAt.below HD.out (fun o => hbf.cell (p := ⟨_, o, none⟩) hlt), Nat.lt_of_lt_of_le hlt hbf.size, bthen hb hbf hsz⟩
        case measure => simp [intOf]; omega
      | false =>
        have HK : Hid (sameLine l r = false) := sameLine_no h5 hf
        rw [hf] at HE
        clear hf
        go_wp2_with fail
        go_region_held3 (fun w' => Below wr.heap.size wr w' ∧ w'.cell? ⟨w.heap.size, 0, none⟩ = some (.slice (A 0) (n 0) (c 0)) ∧ w'.cell? ⟨w.heap.size, 1, none⟩ = some (.slice (A 1) (n 1) (c 1)) ∧ w'.cell? ⟨w.heap.size, 2, none⟩ = some (.slice (A 2) (n 2) (c 2)) ∧ w'.cell? ⟨w.heap.size, 3, none⟩ = some (.slice (A 3) (n 3) (c 3)) ∧ w'.cell? ⟨w.heap.size, 4, none⟩ = some (.slice (A 4) (n 4) (c 4)) ∧ w'.cell? ⟨w.heap.size + 1, 0, none⟩ = some (.slice (B 0) (m 0) (d 0)) ∧ w'.cell? ⟨w.heap.size + 1, 1, none⟩ = some (.slice (B 1) (m 1) (d 1)) ∧ w'.cell? ⟨w.heap.size + 1, 2, none⟩ = some (.slice (B 2) (m 2) (d 2)) ∧ w'.cell? ⟨w.heap.size + 1, 3, none⟩ = some (.slice (B 3) (m 3) (d 3)) ∧ w'.cell? ⟨w.heap.size + 1, 4, none⟩ = some (.slice (B 4) (m 4) (d 4)))
          (first | (go_split_ands; refine HS.out _ (bthen ?_ hb1 ?_); assumption; exact Below.size (by assumption)) | (refine HS.out _ ?_; exact Below.drew (Below.refl _ _)) | (refine HS.out _ ?_; exact below_drewN (Below.refl _ _) _))
          (first | (go_at_call 26; (with_reducible refine (HL.out _).mono ?_); rintro e w1 ⟨rfl, hb1⟩) | (go_at_call 26; (with_reducible refine (HR.out _).mono ?_); rintro e w1 ⟨rfl, hb1⟩) | (go_at_call 25; (with_reducible refine (HE.out _ ?_).mono ?_); (focus (go_split_ands; exact bthen hb (by assumption) hsz)); rintro e w1 ⟨rfl, hb1⟩))
        have hbf : Below wr.heap.size wr w1 := by go_split_ands; assumption
        clear hb1
        go_wp2
        go_ret
        exact ⟨ret_bool HK.out.symm, bthen hb hbf hsz⟩
    · obtain rfl : k = 5 := by omega
      have HK : Hid (sameLine l r = true) := sameLine_yes H.out
      go_wp2
      go_ret
      exact ⟨ret_bool HK.out.symm, hb⟩
end Go.Proofs.YtpfcgjneeboamaaDoor
