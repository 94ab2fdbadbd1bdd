/- The law CronFields: its walk. -/
import Derived.Test.YtgliminiiciflaaLCron
namespace Go.Proofs.Ytgliminiiciflaa
open Go.RowKit
set_option linter.unusedSimpArgs false
set_option linter.unusedVariables false

theorem great_le {n : Nat → Nat} (h : greatB n = false) : ∀ k, k < 5 → n k ≤ 200 := by
  intro k hk
  rcases Nat.lt_or_ge 200 (n k) with h1 | h1
  · rw [greatB_yes hk h1] at h; cases h
  · exact h1

set_option maxHeartbeats 4000000 in
theorem cronFields_in (k : Nat) (hk : k < 5) (A B : Nat → Option Addr) (n c m d : Nat → Nat) (l r : Nat → List It) (w : World) (hA : RdLine w A n l) (hB : RdLine w B m r) (hn : ∀ k, n k ≤ 9223372036854775807) (hm : ∀ k, m k ≤ 9223372036854775807) (hz : ∀ k, A k = none → n k = 0) (hgn : greatB n = false) (hgm : greatB m = false) :
    Calls Try.prog 5 #[crV A n c, crV B m d, .int .i64 (k : Int)] w (Ret (.bool true) w) := by
  have HA := Lib.hid hA
  have HB := Lib.hid hB
  have HZ := Lib.hid hz
  have HNN := Lib.hid hn
  have HMM := Lib.hid hm
  have HN : Hid (∀ k, k < 5 → n k ≤ 200) := great_le hgn
  have HG1 := Lib.hid (fun W => great_any A n c W)
  rw [hgn] at HG1
  have HG2 := Lib.hid (fun W => great_any B m d W)
  rw [hgm] at HG2
  clear hA hB hz hn hm hgn hgm
  have HBo := Lib.hid (fun W => bounds_in k hk W)
  have HRB := Lib.hid (fun W => rbounds_any k W)
  have HRF := Lib.hid (fun W => rfield_in k hk A n c W)
  have HF := Lib.hid (fun W (hW : Below w.heap.size w W) => field_in k hk A n c l W (HA.out.below hW (Nat.le_refl _)) (by have := HN.out k hk; omega) (HZ.out k))
  have HSt := Lib.hid (fun W (hW : Below w.heap.size w W) => starred_in k hk A n c l W (HA.out.below hW (Nat.le_refl _)))
  have HRS := Lib.hid (fun W (hW : Below w.heap.size w W) => (rstarred_any (A k) (n k) (c k) (l k) W ((HA.out k hk).below hW (Nat.le_refl _))).mono fun _ _ h => h.toB)
  have HSm := Lib.hid (fun W A' c' (h : RdIts W A' (n k) (l k)) (hW : Below w.heap.size w W) => (rsame_any A' (A k) (n k) (n k) c' (c k) (l k) (l k) W h ((HA.out k hk).below hW (Nat.le_refl _)) (by have := HN.out k hk; omega) (by have := HN.out k hk; omega)).mono fun _ _ h => h.toB)
  rw [show sameIts (l k) (l k) = true from by simp [sameIts]] at HSm
  generalize starB (l k) = sk at HSt HRS
  generalize cLo k = lo at HBo HRB
  generalize cHi k = hi at HBo HRB
  have HS2 := Lib.hid (fun W (hW : Below w.heap.size w W) => (rstarred_any (A 2) (n 2) (c 2) (l 2) W ((HA.out 2 (by omega)).below hW (Nat.le_refl _))).mono fun _ _ h => h.toB)
  have HS4 := Lib.hid (fun W (hW : Below w.heap.size w W) => (rstarred_any (A 4) (n 4) (c 4) (l 4) W ((HA.out 4 (by omega)).below hW (Nat.le_refl _))).mono fun _ _ h => h.toB)
  have HE := Lib.hid (fun W (hW : Below w.heap.size w W) => either_any A n c l W (HA.out.below hW (Nat.le_refl _)))
  unfold eitherB at HE
  have HC1 := Lib.hid (fun W (hW : Below w.heap.size w W) => same_any A B n c m d l r W (HA.out.below hW (Nat.le_refl _)) (HB.out.below hW (Nat.le_refl _)) HNN.out HMM.out)
  have HC2 := Lib.hid (fun W (hW : Below w.heap.size w W) => rsame24_any A B n c m d l r W (HA.out.below hW (Nat.le_refl _)) (HB.out.below hW (Nat.le_refl _)) HNN.out HMM.out)
  have HC3 := Lib.hid (fun W (hW : Below w.heap.size w W) => same_any A A n c n c l l W (HA.out.below hW (Nat.le_refl _)) (HA.out.below hW (Nat.le_refl _)) HNN.out HNN.out)
  rw [sameLine_self] at HC3
  generalize sameLine l r = sl at HC1 HC2
  have HV := Lib.hid (fun W => lives24_any W)
  generalize hs2 : starB (l 2) = s2 at HS2 HE
  generalize hs4 : starB (l 4) = s4 at HS4 HE
  clear hs2 hs4
  have hsz0 : w.heap.size + 1 < ((w.alloc (Obj.cells #[.slice (A 0) (n 0) (c 0), .slice (A 1) (n 1) (c 1), .slice (A 2) (n 2) (c 2), .slice (A 3) (n 3) (c 3), .slice (A 4) (n 4) (c 4)] 24)).alloc
      (Obj.cells #[.slice (B 0) (m 0) (d 0), .slice (B 1) (m 1) (d 1), .slice (B 2) (m 2) (d 2), .slice (B 3) (m 3) (d 3), .slice (B 4) (m 4) (d 4)] 24)).heap.size := by simp
  have HLA : Hid (LineAt ((w.alloc (Obj.cells #[.slice (A 0) (n 0) (c 0), .slice (A 1) (n 1) (c 1), .slice (A 2) (n 2) (c 2), .slice (A 3) (n 3) (c 3), .slice (A 4) (n 4) (c 4)] 24)).alloc
      (Obj.cells #[.slice (B 0) (m 0) (d 0), .slice (B 1) (m 1) (d 1), .slice (B 2) (m 2) (d 2), .slice (B 3) (m 3) (d 3), .slice (B 4) (m 4) (d 4)] 24)) w.heap.size 0 A n c) := ⟨by simp [go_sem], by simp [go_sem], by simp [go_sem], by simp [go_sem], by simp [go_sem]⟩
  have HLB : Hid (LineAt ((w.alloc (Obj.cells #[.slice (A 0) (n 0) (c 0), .slice (A 1) (n 1) (c 1), .slice (A 2) (n 2) (c 2), .slice (A 3) (n 3) (c 3), .slice (A 4) (n 4) (c 4)] 24)).alloc
      (Obj.cells #[.slice (B 0) (m 0) (d 0), .slice (B 1) (m 1) (d 1), .slice (B 2) (m 2) (d 2), .slice (B 3) (m 3) (d 3), .slice (B 4) (m 4) (d 4)] 24)) (w.heap.size + 1) 0 B m d) := ⟨by simp [go_sem], by simp [go_sem], by simp [go_sem], by simp [go_sem], by simp [go_sem]⟩
  have hb0 : Below w.heap.size w ((w.alloc (Obj.cells #[.slice (A 0) (n 0) (c 0), .slice (A 1) (n 1) (c 1), .slice (A 2) (n 2) (c 2), .slice (A 3) (n 3) (c 3), .slice (A 4) (n 4) (c 4)] 24)).alloc
      (Obj.cells #[.slice (B 0) (m 0) (d 0), .slice (B 1) (m 1) (d 1), .slice (B 2) (m 2) (d 2), .slice (B 3) (m 3) (d 3), .slice (B 4) (m 4) (d 4)] 24)) := by (repeat' (first | (with_reducible exact Below.refl _ _) | (with_reducible assumption) | (with_reducible refine below_drewN ?_ _) | (with_reducible refine Below.alloc ?_ ?_ _) | (with_reducible refine Below.drew ?_) | (with_reducible refine Below.setCell ?_ ?_ _) | go_size))
  go_enter Try.func5, Try.ntmps5
  go_wp2_with fail
  generalize ((w.alloc (Obj.cells #[.slice (A 0) (n 0) (c 0), .slice (A 1) (n 1) (c 1), .slice (A 2) (n 2) (c 2), .slice (A 3) (n 3) (c 3), .slice (A 4) (n 4) (c 4)] 24)).alloc
      (Obj.cells #[.slice (B 0) (m 0) (d 0), .slice (B 1) (m 1) (d 1), .slice (B 2) (m 2) (d 2), .slice (B 3) (m 3) (d 3), .slice (B 4) (m 4) (d 4)] 24)) = W0 at hsz0 HLA HLB hb0 ⊢
  have key : ∀ W1, Below W0.heap.size W0 W1 → LineAt W1 w.heap.size 0 A n c ∧ LineAt W1 (w.heap.size + 1) 0 B m d ∧ Below w.heap.size w W1 := fun W1 h1 =>
    ⟨LineAt.below HLA.out (fun o => h1.cell (p := ⟨_, o, none⟩) (by show w.heap.size < _; omega)), LineAt.below HLB.out (fun o => h1.cell (p := ⟨_, o, none⟩) hsz0), bthen hb0 h1 hb0.size⟩
  have KEY := Lib.hid key
  clear key
  refine (HG1.out _).mono ?_
  rintro e w1 ⟨rfl, h1⟩
  obtain ⟨⟨l0, l1, l2, l3, l4⟩, ⟨m0, m1, m2, m3, m4⟩, hw1⟩ := KEY.out _ h1
  simp only [Nat.zero_add] at l1 l2 l3 l4 m1 m2 m3 m4
  go_wp2_with fail
  refine (HG2.out _).mono ?_
  rintro e w2 ⟨rfl, h2⟩
  have h12 := bthen h1 h2 h1.size
  clear l0 l1 l2 l3 l4 m0 m1 m2 m3 m4
  go_wp2_with fail
  refine (HBo.out _).mono ?_
  rintro e w3 ⟨rfl, h3⟩
  have h13 := bthen h12 h3 h12.size
  go_wp2_with fail
  refine (HRB.out _).mono ?_
  rintro e w4 ⟨rfl, rfl⟩
  obtain ⟨⟨l0, l1, l2, l3, l4⟩, ⟨m0, m1, m2, m3, m4⟩, hw3⟩ := KEY.out _ h13
  simp only [Nat.zero_add] at l1 l2 l3 l4 m1 m2 m3 m4
  go_wp2_with fail
  refine (HRF.out _).mono ?_
  rintro e w4 ⟨rfl, h4⟩
  have h14 := bthen h13 h4 h13.size
  obtain ⟨⟨l0, l1, l2, l3, l4⟩, ⟨m0, m1, m2, m3, m4⟩, hw4⟩ := KEY.out _ h14
  simp only [Nat.zero_add] at l1 l2 l3 l4 m1 m2 m3 m4
  clear h1 h2 h3 h4 h12 h13
  go_wp2_with fail
  refine (HS2.out _ hw4).mono ?_
  rintro e w5 ⟨rfl, h5⟩
  have h15 := bthen h14 h5 h14.size
  obtain ⟨⟨l0, l1, l2, l3, l4⟩, ⟨m0, m1, m2, m3, m4⟩, hw5⟩ := KEY.out _ h15
  simp only [Nat.zero_add] at l1 l2 l3 l4 m1 m2 m3 m4
  clear h5 h14 hw4 hw3 hw1
  cases s2 with
  | true =>
    go_wp2_with fail
    obtain ⟨wr, rfl⟩ : ∃ wr : World, wr = w5 := ⟨_, rfl⟩
    have HS : Hid (∀ w', Below wr.heap.size wr w' → Below wr.heap.size wr w' ∧ w'.cell? ⟨w.heap.size, 0, none⟩ = some (.slice (A 0) (n 0) (c 0)) ∧ w'.cell? ⟨w.heap.size, 1, none⟩ = some (.slice (A 1) (n 1) (c 1)) ∧ w'.cell? ⟨w.heap.size, 2, none⟩ = some (.slice (A 2) (n 2) (c 2)) ∧ w'.cell? ⟨w.heap.size, 3, none⟩ = some (.slice (A 3) (n 3) (c 3)) ∧ w'.cell? ⟨w.heap.size, 4, none⟩ = some (.slice (A 4) (n 4) (c 4)) ∧ w'.cell? ⟨w.heap.size + 1, 0, none⟩ = some (.slice (B 0) (m 0) (d 0)) ∧ w'.cell? ⟨w.heap.size + 1, 1, none⟩ = some (.slice (B 1) (m 1) (d 1)) ∧ w'.cell? ⟨w.heap.size + 1, 2, none⟩ = some (.slice (B 2) (m 2) (d 2)) ∧ w'.cell? ⟨w.heap.size + 1, 3, none⟩ = some (.slice (B 3) (m 3) (d 3)) ∧ w'.cell? ⟨w.heap.size + 1, 4, none⟩ = some (.slice (B 4) (m 4) (d 4))) := by
      intro w' hW
      obtain ⟨⟨x0, x1, x2, x3, x4⟩, ⟨y0, y1, y2, y3, y4⟩, _⟩ := KEY.out w' (bthen (by assumption) hW (Below.size (by assumption)))
      simp only [Nat.zero_add] at x1 x2 x3 x4 y1 y2 y3 y4
      exact ⟨hW, x0, x1, x2, x3, x4, y0, y1, y2, y3, y4⟩
    have HW : Hid (∀ w', Below wr.heap.size wr w' → Below w.heap.size w w') := fun w' hW => (KEY.out w' (bthen (by assumption) hW (Below.size (by assumption)))).2.2
    go_region_held3 (fun w' => Below wr.heap.size wr w' ∧ w'.cell? ⟨w.heap.size, 0, none⟩ = some (.slice (A 0) (n 0) (c 0)) ∧ w'.cell? ⟨w.heap.size, 1, none⟩ = some (.slice (A 1) (n 1) (c 1)) ∧ w'.cell? ⟨w.heap.size, 2, none⟩ = some (.slice (A 2) (n 2) (c 2)) ∧ w'.cell? ⟨w.heap.size, 3, none⟩ = some (.slice (A 3) (n 3) (c 3)) ∧ w'.cell? ⟨w.heap.size, 4, none⟩ = some (.slice (A 4) (n 4) (c 4)) ∧ w'.cell? ⟨w.heap.size + 1, 0, none⟩ = some (.slice (B 0) (m 0) (d 0)) ∧ w'.cell? ⟨w.heap.size + 1, 1, none⟩ = some (.slice (B 1) (m 1) (d 1)) ∧ w'.cell? ⟨w.heap.size + 1, 2, none⟩ = some (.slice (B 2) (m 2) (d 2)) ∧ w'.cell? ⟨w.heap.size + 1, 3, none⟩ = some (.slice (B 3) (m 3) (d 3)) ∧ w'.cell? ⟨w.heap.size + 1, 4, none⟩ = some (.slice (B 4) (m 4) (d 4)))
      (first | (go_split_ands; refine HS.out _ (bthen ?_ hb1 ?_); assumption; exact Below.size (by assumption)) | (refine HS.out _ ?_; exact Below.drew (Below.refl _ _)) | (refine HS.out _ ?_; exact below_drewN (Below.refl _ _) _))
      (first | (go_at_call 28; (with_reducible refine (HF.out _ ?_).mono ?_); (focus (go_split_ands; exact HW.out _ (by assumption))); rintro e w1 ⟨A', c', rfl, hr, hb1⟩) | (go_at_call 27; (with_reducible refine (HSm.out _ _ _ ?_ ?_).mono ?_); (focus assumption); (focus (go_split_ands; exact HW.out _ (by assumption))); rintro e w1 ⟨rfl, hb1⟩) | (go_at_call 29; (with_reducible refine (HSt.out _ ?_).mono ?_); (focus (go_split_ands; exact HW.out _ (by assumption))); rintro e w1 ⟨rfl, hb1⟩) | (go_at_call 26; (with_reducible refine (HRS.out _ ?_).mono ?_); (focus (go_split_ands; exact HW.out _ (by assumption))); rintro e w1 ⟨rfl, hb1⟩) | (go_at_call 30; (with_reducible refine (HE.out _ ?_).mono ?_); (focus (go_split_ands; exact HW.out _ (by assumption))); rintro e w1 ⟨rfl, hb1⟩) | (go_at_call 31; (with_reducible refine (HC1.out _ ?_).mono ?_); (focus (go_split_ands; exact HW.out _ (by assumption))); rintro e w1 ⟨rfl, hb1⟩) | (go_at_call 32; (with_reducible refine (HC2.out _ ?_).mono ?_); (focus (go_split_ands; exact HW.out _ (by assumption))); rintro e w1 ⟨rfl, hb1⟩) | (go_at_call 31; (with_reducible refine (HC3.out _ ?_).mono ?_); (focus (go_split_ands; exact HW.out _ (by assumption))); rintro e w1 ⟨rfl, hb1⟩) | (go_at_call 11; (with_reducible refine (HV.out _).mono ?_); rintro e w1 ⟨rfl, hb1⟩))
    have hbf : Below wr.heap.size wr w1 := by go_split_ands; assumption
    clear hb1
    go_wp2
    go_ret
    exact ⟨rfl, HW.out _ hbf⟩
  | false =>
    go_wp2_with fail
    refine (HS4.out _ hw5).mono ?_
    rintro e w6 ⟨rfl, h6⟩
    have h16 := bthen h15 h6 h15.size
    obtain ⟨⟨l0, l1, l2, l3, l4⟩, ⟨m0, m1, m2, m3, m4⟩, hw6⟩ := KEY.out _ h16
    simp only [Nat.zero_add] at l1 l2 l3 l4 m1 m2 m3 m4
    clear h6 h15 hw5
    go_wp2_with fail
    obtain ⟨wr, rfl⟩ : ∃ wr : World, wr = w6 := ⟨_, rfl⟩
    have HS : Hid (∀ w', Below wr.heap.size wr w' → Below wr.heap.size wr w' ∧ w'.cell? ⟨w.heap.size, 0, none⟩ = some (.slice (A 0) (n 0) (c 0)) ∧ w'.cell? ⟨w.heap.size, 1, none⟩ = some (.slice (A 1) (n 1) (c 1)) ∧ w'.cell? ⟨w.heap.size, 2, none⟩ = some (.slice (A 2) (n 2) (c 2)) ∧ w'.cell? ⟨w.heap.size, 3, none⟩ = some (.slice (A 3) (n 3) (c 3)) ∧ w'.cell? ⟨w.heap.size, 4, none⟩ = some (.slice (A 4) (n 4) (c 4)) ∧ w'.cell? ⟨w.heap.size + 1, 0, none⟩ = some (.slice (B 0) (m 0) (d 0)) ∧ w'.cell? ⟨w.heap.size + 1, 1, none⟩ = some (.slice (B 1) (m 1) (d 1)) ∧ w'.cell? ⟨w.heap.size + 1, 2, none⟩ = some (.slice (B 2) (m 2) (d 2)) ∧ w'.cell? ⟨w.heap.size + 1, 3, none⟩ = some (.slice (B 3) (m 3) (d 3)) ∧ w'.cell? ⟨w.heap.size + 1, 4, none⟩ = some (.slice (B 4) (m 4) (d 4))) := by
      intro w' hW
      obtain ⟨⟨x0, x1, x2, x3, x4⟩, ⟨y0, y1, y2, y3, y4⟩, _⟩ := KEY.out w' (bthen (by assumption) hW (Below.size (by assumption)))
      simp only [Nat.zero_add] at x1 x2 x3 x4 y1 y2 y3 y4
      exact ⟨hW, x0, x1, x2, x3, x4, y0, y1, y2, y3, y4⟩
    have HW : Hid (∀ w', Below wr.heap.size wr w' → Below w.heap.size w w') := fun w' hW => (KEY.out w' (bthen (by assumption) hW (Below.size (by assumption)))).2.2
    go_region_held3 (fun w' => Below wr.heap.size wr w' ∧ w'.cell? ⟨w.heap.size, 0, none⟩ = some (.slice (A 0) (n 0) (c 0)) ∧ w'.cell? ⟨w.heap.size, 1, none⟩ = some (.slice (A 1) (n 1) (c 1)) ∧ w'.cell? ⟨w.heap.size, 2, none⟩ = some (.slice (A 2) (n 2) (c 2)) ∧ w'.cell? ⟨w.heap.size, 3, none⟩ = some (.slice (A 3) (n 3) (c 3)) ∧ w'.cell? ⟨w.heap.size, 4, none⟩ = some (.slice (A 4) (n 4) (c 4)) ∧ w'.cell? ⟨w.heap.size + 1, 0, none⟩ = some (.slice (B 0) (m 0) (d 0)) ∧ w'.cell? ⟨w.heap.size + 1, 1, none⟩ = some (.slice (B 1) (m 1) (d 1)) ∧ w'.cell? ⟨w.heap.size + 1, 2, none⟩ = some (.slice (B 2) (m 2) (d 2)) ∧ w'.cell? ⟨w.heap.size + 1, 3, none⟩ = some (.slice (B 3) (m 3) (d 3)) ∧ w'.cell? ⟨w.heap.size + 1, 4, none⟩ = some (.slice (B 4) (m 4) (d 4)))
      (first | (go_split_ands; refine HS.out _ (bthen ?_ hb1 ?_); assumption; exact Below.size (by assumption)) | (refine HS.out _ ?_; exact Below.drew (Below.refl _ _)) | (refine HS.out _ ?_; exact below_drewN (Below.refl _ _) _))
      (first | (go_at_call 28; (with_reducible refine (HF.out _ ?_).mono ?_); (focus (go_split_ands; exact HW.out _ (by assumption))); rintro e w1 ⟨A', c', rfl, hr, hb1⟩) | (go_at_call 27; (with_reducible refine (HSm.out _ _ _ ?_ ?_).mono ?_); (focus assumption); (focus (go_split_ands; exact HW.out _ (by assumption))); rintro e w1 ⟨rfl, hb1⟩) | (go_at_call 29; (with_reducible refine (HSt.out _ ?_).mono ?_); (focus (go_split_ands; exact HW.out _ (by assumption))); rintro e w1 ⟨rfl, hb1⟩) | (go_at_call 26; (with_reducible refine (HRS.out _ ?_).mono ?_); (focus (go_split_ands; exact HW.out _ (by assumption))); rintro e w1 ⟨rfl, hb1⟩) | (go_at_call 30; (with_reducible refine (HE.out _ ?_).mono ?_); (focus (go_split_ands; exact HW.out _ (by assumption))); rintro e w1 ⟨rfl, hb1⟩) | (go_at_call 31; (with_reducible refine (HC1.out _ ?_).mono ?_); (focus (go_split_ands; exact HW.out _ (by assumption))); rintro e w1 ⟨rfl, hb1⟩) | (go_at_call 32; (with_reducible refine (HC2.out _ ?_).mono ?_); (focus (go_split_ands; exact HW.out _ (by assumption))); rintro e w1 ⟨rfl, hb1⟩) | (go_at_call 31; (with_reducible refine (HC3.out _ ?_).mono ?_); (focus (go_split_ands; exact HW.out _ (by assumption))); rintro e w1 ⟨rfl, hb1⟩) | (go_at_call 11; (with_reducible refine (HV.out _).mono ?_); rintro e w1 ⟨rfl, hb1⟩))
    have hbf : Below wr.heap.size wr w1 := by go_split_ands; assumption
    clear hb1
    go_wp2
    go_ret
    exact ⟨rfl, HW.out _ hbf⟩

set_option maxHeartbeats 4000000 in
theorem cronFields_out (f : Int) (hf : f < 0 ∨ 5 ≤ f) (A B : Nat → Option Addr) (n c m d : Nat → Nat) (l r : Nat → List It) (w : World) (hA : RdLine w A n l) (hB : RdLine w B m r) (hn : ∀ k, n k ≤ 9223372036854775807) (hm : ∀ k, m k ≤ 9223372036854775807) (hz : ∀ k, A k = none → n k = 0) (hgn : greatB n = false) (hgm : greatB m = false) :
    Calls Try.prog 5 #[crV A n c, crV B m d, .int .i64 f] w (Ret (.bool true) w) := by
  have HA := Lib.hid hA
  have HB := Lib.hid hB
  have HZ := Lib.hid hz
  have HNN := Lib.hid hn
  have HMM := Lib.hid hm
  have HN : Hid (∀ k, k < 5 → n k ≤ 200) := great_le hgn
  have HG1 := Lib.hid (fun W => great_any A n c W)
  rw [hgn] at HG1
  have HG2 := Lib.hid (fun W => great_any B m d W)
  rw [hgm] at HG2
  clear hA hB hz hn hm hgn hgm
  have HBo := Lib.hid (fun W => bounds_out f hf W)
  have HRB := Lib.hid (fun W => rbounds_any f W)
  rw [show cLo f = 0 from by simp only [cLo]; omega, show cHi f = 0 from by simp only [cHi]; omega] at HRB
  have HRF := Lib.hid (fun W => rfield_out f hf A n c W)
  have HF := Lib.hid (fun W (_ : Below w.heap.size w W) => field_out f hf A n c W)
  have HSt := Lib.hid (fun W (_ : Below w.heap.size w W) => starred_out f hf A n c W)
  have HRS := Lib.hid (fun W (_ : Below w.heap.size w W) => (rstarred_any none 0 0 [] W Rd.nil).mono fun _ _ h => h.toB)
  rw [show starB [] = false from rfl] at HRS
  have HSm := Lib.hid (fun W A' c' (h : RdIts W A' 0 []) (_ : Below w.heap.size w W) => (rsame_any A' none 0 0 c' 0 [] [] W h Rd.nil (by decide) (by decide)).mono fun _ _ h => h.toB)
  rw [show sameIts [] [] = true from by simp [sameIts]] at HSm
  generalize (0 : Int) = lo at HBo HRB
  clear hf
  have HS2 := Lib.hid (fun W (hW : Below w.heap.size w W) => (rstarred_any (A 2) (n 2) (c 2) (l 2) W ((HA.out 2 (by omega)).below hW (Nat.le_refl _))).mono fun _ _ h => h.toB)
  have HS4 := Lib.hid (fun W (hW : Below w.heap.size w W) => (rstarred_any (A 4) (n 4) (c 4) (l 4) W ((HA.out 4 (by omega)).below hW (Nat.le_refl _))).mono fun _ _ h => h.toB)
  have HE := Lib.hid (fun W (hW : Below w.heap.size w W) => either_any A n c l W (HA.out.below hW (Nat.le_refl _)))
  unfold eitherB at HE
  have HC1 := Lib.hid (fun W (hW : Below w.heap.size w W) => same_any A B n c m d l r W (HA.out.below hW (Nat.le_refl _)) (HB.out.below hW (Nat.le_refl _)) HNN.out HMM.out)
  have HC2 := Lib.hid (fun W (hW : Below w.heap.size w W) => rsame24_any A B n c m d l r W (HA.out.below hW (Nat.le_refl _)) (HB.out.below hW (Nat.le_refl _)) HNN.out HMM.out)
  have HC3 := Lib.hid (fun W (hW : Below w.heap.size w W) => same_any A A n c n c l l W (HA.out.below hW (Nat.le_refl _)) (HA.out.below hW (Nat.le_refl _)) HNN.out HNN.out)
  rw [sameLine_self] at HC3
  generalize sameLine l r = sl at HC1 HC2
  have HV := Lib.hid (fun W => lives24_any W)
  generalize hs2 : starB (l 2) = s2 at HS2 HE
  generalize hs4 : starB (l 4) = s4 at HS4 HE
  clear hs2 hs4
  have hsz0 : w.heap.size + 1 < ((w.alloc (Obj.cells #[.slice (A 0) (n 0) (c 0), .slice (A 1) (n 1) (c 1), .slice (A 2) (n 2) (c 2), .slice (A 3) (n 3) (c 3), .slice (A 4) (n 4) (c 4)] 24)).alloc
      (Obj.cells #[.slice (B 0) (m 0) (d 0), .slice (B 1) (m 1) (d 1), .slice (B 2) (m 2) (d 2), .slice (B 3) (m 3) (d 3), .slice (B 4) (m 4) (d 4)] 24)).heap.size := by simp
  have HLA : Hid (LineAt ((w.alloc (Obj.cells #[.slice (A 0) (n 0) (c 0), .slice (A 1) (n 1) (c 1), .slice (A 2) (n 2) (c 2), .slice (A 3) (n 3) (c 3), .slice (A 4) (n 4) (c 4)] 24)).alloc
      (Obj.cells #[.slice (B 0) (m 0) (d 0), .slice (B 1) (m 1) (d 1), .slice (B 2) (m 2) (d 2), .slice (B 3) (m 3) (d 3), .slice (B 4) (m 4) (d 4)] 24)) w.heap.size 0 A n c) := ⟨by simp [go_sem], by simp [go_sem], by simp [go_sem], by simp [go_sem], by simp [go_sem]⟩
  have HLB : Hid (LineAt ((w.alloc (Obj.cells #[.slice (A 0) (n 0) (c 0), .slice (A 1) (n 1) (c 1), .slice (A 2) (n 2) (c 2), .slice (A 3) (n 3) (c 3), .slice (A 4) (n 4) (c 4)] 24)).alloc
      (Obj.cells #[.slice (B 0) (m 0) (d 0), .slice (B 1) (m 1) (d 1), .slice (B 2) (m 2) (d 2), .slice (B 3) (m 3) (d 3), .slice (B 4) (m 4) (d 4)] 24)) (w.heap.size + 1) 0 B m d) := ⟨by simp [go_sem], by simp [go_sem], by simp [go_sem], by simp [go_sem], by simp [go_sem]⟩
  have hb0 : Below w.heap.size w ((w.alloc (Obj.cells #[.slice (A 0) (n 0) (c 0), .slice (A 1) (n 1) (c 1), .slice (A 2) (n 2) (c 2), .slice (A 3) (n 3) (c 3), .slice (A 4) (n 4) (c 4)] 24)).alloc
      (Obj.cells #[.slice (B 0) (m 0) (d 0), .slice (B 1) (m 1) (d 1), .slice (B 2) (m 2) (d 2), .slice (B 3) (m 3) (d 3), .slice (B 4) (m 4) (d 4)] 24)) := by (repeat' (first | (with_reducible exact Below.refl _ _) | (with_reducible assumption) | (with_reducible refine below_drewN ?_ _) | (with_reducible refine Below.alloc ?_ ?_ _) | (with_reducible refine Below.drew ?_) | (with_reducible refine Below.setCell ?_ ?_ _) | go_size))
  go_enter Try.func5, Try.ntmps5
  go_wp2_with fail
  generalize ((w.alloc (Obj.cells #[.slice (A 0) (n 0) (c 0), .slice (A 1) (n 1) (c 1), .slice (A 2) (n 2) (c 2), .slice (A 3) (n 3) (c 3), .slice (A 4) (n 4) (c 4)] 24)).alloc
      (Obj.cells #[.slice (B 0) (m 0) (d 0), .slice (B 1) (m 1) (d 1), .slice (B 2) (m 2) (d 2), .slice (B 3) (m 3) (d 3), .slice (B 4) (m 4) (d 4)] 24)) = W0 at hsz0 HLA HLB hb0 ⊢
  have key : ∀ W1, Below W0.heap.size W0 W1 → LineAt W1 w.heap.size 0 A n c ∧ LineAt W1 (w.heap.size + 1) 0 B m d ∧ Below w.heap.size w W1 := fun W1 h1 =>
    ⟨LineAt.below HLA.out (fun o => h1.cell (p := ⟨_, o, none⟩) (by show w.heap.size < _; omega)), LineAt.below HLB.out (fun o => h1.cell (p := ⟨_, o, none⟩) hsz0), bthen hb0 h1 hb0.size⟩
  have KEY := Lib.hid key
  clear key
  refine (HG1.out _).mono ?_
  rintro e w1 ⟨rfl, h1⟩
  obtain ⟨⟨l0, l1, l2, l3, l4⟩, ⟨m0, m1, m2, m3, m4⟩, hw1⟩ := KEY.out _ h1
  simp only [Nat.zero_add] at l1 l2 l3 l4 m1 m2 m3 m4
  go_wp2_with fail
  refine (HG2.out _).mono ?_
  rintro e w2 ⟨rfl, h2⟩
  have h12 := bthen h1 h2 h1.size
  clear l0 l1 l2 l3 l4 m0 m1 m2 m3 m4
  go_wp2_with fail
  refine (HBo.out _).mono ?_
  rintro e w3 ⟨rfl, h3⟩
  have h13 := bthen h12 h3 h12.size
  go_wp2_with fail
  refine (HRB.out _).mono ?_
  rintro e w4 ⟨rfl, rfl⟩
  obtain ⟨⟨l0, l1, l2, l3, l4⟩, ⟨m0, m1, m2, m3, m4⟩, hw3⟩ := KEY.out _ h13
  simp only [Nat.zero_add] at l1 l2 l3 l4 m1 m2 m3 m4
  go_wp2_with fail
  refine (HRF.out _).mono ?_
  rintro e w4 ⟨rfl, h4⟩
  have h14 := bthen h13 h4 h13.size
  obtain ⟨⟨l0, l1, l2, l3, l4⟩, ⟨m0, m1, m2, m3, m4⟩, hw4⟩ := KEY.out _ h14
  simp only [Nat.zero_add] at l1 l2 l3 l4 m1 m2 m3 m4
  clear h1 h2 h3 h4 h12 h13
  go_wp2_with fail
  refine (HS2.out _ hw4).mono ?_
  rintro e w5 ⟨rfl, h5⟩
  have h15 := bthen h14 h5 h14.size
  obtain ⟨⟨l0, l1, l2, l3, l4⟩, ⟨m0, m1, m2, m3, m4⟩, hw5⟩ := KEY.out _ h15
  simp only [Nat.zero_add] at l1 l2 l3 l4 m1 m2 m3 m4
  clear h5 h14 hw4 hw3 hw1
  cases s2 with
  | true =>
    go_wp2_with fail
    obtain ⟨wr, rfl⟩ : ∃ wr : World, wr = w5 := ⟨_, rfl⟩
    have HS : Hid (∀ w', Below wr.heap.size wr w' → Below wr.heap.size wr w' ∧ w'.cell? ⟨w.heap.size, 0, none⟩ = some (.slice (A 0) (n 0) (c 0)) ∧ w'.cell? ⟨w.heap.size, 1, none⟩ = some (.slice (A 1) (n 1) (c 1)) ∧ w'.cell? ⟨w.heap.size, 2, none⟩ = some (.slice (A 2) (n 2) (c 2)) ∧ w'.cell? ⟨w.heap.size, 3, none⟩ = some (.slice (A 3) (n 3) (c 3)) ∧ w'.cell? ⟨w.heap.size, 4, none⟩ = some (.slice (A 4) (n 4) (c 4)) ∧ w'.cell? ⟨w.heap.size + 1, 0, none⟩ = some (.slice (B 0) (m 0) (d 0)) ∧ w'.cell? ⟨w.heap.size + 1, 1, none⟩ = some (.slice (B 1) (m 1) (d 1)) ∧ w'.cell? ⟨w.heap.size + 1, 2, none⟩ = some (.slice (B 2) (m 2) (d 2)) ∧ w'.cell? ⟨w.heap.size + 1, 3, none⟩ = some (.slice (B 3) (m 3) (d 3)) ∧ w'.cell? ⟨w.heap.size + 1, 4, none⟩ = some (.slice (B 4) (m 4) (d 4))) := by
      intro w' hW
      obtain ⟨⟨x0, x1, x2, x3, x4⟩, ⟨y0, y1, y2, y3, y4⟩, _⟩ := KEY.out w' (bthen (by assumption) hW (Below.size (by assumption)))
      simp only [Nat.zero_add] at x1 x2 x3 x4 y1 y2 y3 y4
      exact ⟨hW, x0, x1, x2, x3, x4, y0, y1, y2, y3, y4⟩
    have HW : Hid (∀ w', Below wr.heap.size wr w' → Below w.heap.size w w') := fun w' hW => (KEY.out w' (bthen (by assumption) hW (Below.size (by assumption)))).2.2
    go_region_held3 (fun w' => Below wr.heap.size wr w' ∧ w'.cell? ⟨w.heap.size, 0, none⟩ = some (.slice (A 0) (n 0) (c 0)) ∧ w'.cell? ⟨w.heap.size, 1, none⟩ = some (.slice (A 1) (n 1) (c 1)) ∧ w'.cell? ⟨w.heap.size, 2, none⟩ = some (.slice (A 2) (n 2) (c 2)) ∧ w'.cell? ⟨w.heap.size, 3, none⟩ = some (.slice (A 3) (n 3) (c 3)) ∧ w'.cell? ⟨w.heap.size, 4, none⟩ = some (.slice (A 4) (n 4) (c 4)) ∧ w'.cell? ⟨w.heap.size + 1, 0, none⟩ = some (.slice (B 0) (m 0) (d 0)) ∧ w'.cell? ⟨w.heap.size + 1, 1, none⟩ = some (.slice (B 1) (m 1) (d 1)) ∧ w'.cell? ⟨w.heap.size + 1, 2, none⟩ = some (.slice (B 2) (m 2) (d 2)) ∧ w'.cell? ⟨w.heap.size + 1, 3, none⟩ = some (.slice (B 3) (m 3) (d 3)) ∧ w'.cell? ⟨w.heap.size + 1, 4, none⟩ = some (.slice (B 4) (m 4) (d 4)))
      (first | (go_split_ands; refine HS.out _ (bthen ?_ hb1 ?_); assumption; exact Below.size (by assumption)) | (refine HS.out _ ?_; exact Below.drew (Below.refl _ _)) | (refine HS.out _ ?_; exact below_drewN (Below.refl _ _) _))
      (first | (go_at_call 28; (with_reducible refine (HF.out _ ?_).mono ?_); (focus (go_split_ands; exact HW.out _ (by assumption))); rintro e w1 ⟨A', c', rfl, hr, hb1⟩) | (go_at_call 27; (with_reducible refine (HSm.out _ _ _ ?_ ?_).mono ?_); (focus assumption); (focus (go_split_ands; exact HW.out _ (by assumption))); rintro e w1 ⟨rfl, hb1⟩) | (go_at_call 29; (with_reducible refine (HSt.out _ ?_).mono ?_); (focus (go_split_ands; exact HW.out _ (by assumption))); rintro e w1 ⟨rfl, hb1⟩) | (go_at_call 26; (with_reducible refine (HRS.out _ ?_).mono ?_); (focus (go_split_ands; exact HW.out _ (by assumption))); rintro e w1 ⟨rfl, hb1⟩) | (go_at_call 30; (with_reducible refine (HE.out _ ?_).mono ?_); (focus (go_split_ands; exact HW.out _ (by assumption))); rintro e w1 ⟨rfl, hb1⟩) | (go_at_call 31; (with_reducible refine (HC1.out _ ?_).mono ?_); (focus (go_split_ands; exact HW.out _ (by assumption))); rintro e w1 ⟨rfl, hb1⟩) | (go_at_call 32; (with_reducible refine (HC2.out _ ?_).mono ?_); (focus (go_split_ands; exact HW.out _ (by assumption))); rintro e w1 ⟨rfl, hb1⟩) | (go_at_call 31; (with_reducible refine (HC3.out _ ?_).mono ?_); (focus (go_split_ands; exact HW.out _ (by assumption))); rintro e w1 ⟨rfl, hb1⟩) | (go_at_call 11; (with_reducible refine (HV.out _).mono ?_); rintro e w1 ⟨rfl, hb1⟩))
    have hbf : Below wr.heap.size wr w1 := by go_split_ands; assumption
    clear hb1
    go_wp2
    go_ret
    exact ⟨rfl, HW.out _ hbf⟩
  | false =>
    go_wp2_with fail
    refine (HS4.out _ hw5).mono ?_
    rintro e w6 ⟨rfl, h6⟩
    have h16 := bthen h15 h6 h15.size
    obtain ⟨⟨l0, l1, l2, l3, l4⟩, ⟨m0, m1, m2, m3, m4⟩, hw6⟩ := KEY.out _ h16
    simp only [Nat.zero_add] at l1 l2 l3 l4 m1 m2 m3 m4
    clear h6 h15 hw5
    go_wp2_with fail
    obtain ⟨wr, rfl⟩ : ∃ wr : World, wr = w6 := ⟨_, rfl⟩
    have HS : Hid (∀ w', Below wr.heap.size wr w' → Below wr.heap.size wr w' ∧ w'.cell? ⟨w.heap.size, 0, none⟩ = some (.slice (A 0) (n 0) (c 0)) ∧ w'.cell? ⟨w.heap.size, 1, none⟩ = some (.slice (A 1) (n 1) (c 1)) ∧ w'.cell? ⟨w.heap.size, 2, none⟩ = some (.slice (A 2) (n 2) (c 2)) ∧ w'.cell? ⟨w.heap.size, 3, none⟩ = some (.slice (A 3) (n 3) (c 3)) ∧ w'.cell? ⟨w.heap.size, 4, none⟩ = some (.slice (A 4) (n 4) (c 4)) ∧ w'.cell? ⟨w.heap.size + 1, 0, none⟩ = some (.slice (B 0) (m 0) (d 0)) ∧ w'.cell? ⟨w.heap.size + 1, 1, none⟩ = some (.slice (B 1) (m 1) (d 1)) ∧ w'.cell? ⟨w.heap.size + 1, 2, none⟩ = some (.slice (B 2) (m 2) (d 2)) ∧ w'.cell? ⟨w.heap.size + 1, 3, none⟩ = some (.slice (B 3) (m 3) (d 3)) ∧ w'.cell? ⟨w.heap.size + 1, 4, none⟩ = some (.slice (B 4) (m 4) (d 4))) := by
      intro w' hW
      obtain ⟨⟨x0, x1, x2, x3, x4⟩, ⟨y0, y1, y2, y3, y4⟩, _⟩ := KEY.out w' (bthen (by assumption) hW (Below.size (by assumption)))
      simp only [Nat.zero_add] at x1 x2 x3 x4 y1 y2 y3 y4
      exact ⟨hW, x0, x1, x2, x3, x4, y0, y1, y2, y3, y4⟩
    have HW : Hid (∀ w', Below wr.heap.size wr w' → Below w.heap.size w w') := fun w' hW => (KEY.out w' (bthen (by assumption) hW (Below.size (by assumption)))).2.2
    go_region_held3 (fun w' => Below wr.heap.size wr w' ∧ w'.cell? ⟨w.heap.size, 0, none⟩ = some (.slice (A 0) (n 0) (c 0)) ∧ w'.cell? ⟨w.heap.size, 1, none⟩ = some (.slice (A 1) (n 1) (c 1)) ∧ w'.cell? ⟨w.heap.size, 2, none⟩ = some (.slice (A 2) (n 2) (c 2)) ∧ w'.cell? ⟨w.heap.size, 3, none⟩ = some (.slice (A 3) (n 3) (c 3)) ∧ w'.cell? ⟨w.heap.size, 4, none⟩ = some (.slice (A 4) (n 4) (c 4)) ∧ w'.cell? ⟨w.heap.size + 1, 0, none⟩ = some (.slice (B 0) (m 0) (d 0)) ∧ w'.cell? ⟨w.heap.size + 1, 1, none⟩ = some (.slice (B 1) (m 1) (d 1)) ∧ w'.cell? ⟨w.heap.size + 1, 2, none⟩ = some (.slice (B 2) (m 2) (d 2)) ∧ w'.cell? ⟨w.heap.size + 1, 3, none⟩ = some (.slice (B 3) (m 3) (d 3)) ∧ w'.cell? ⟨w.heap.size + 1, 4, none⟩ = some (.slice (B 4) (m 4) (d 4)))
      (first | (go_split_ands; refine HS.out _ (bthen ?_ hb1 ?_); assumption; exact Below.size (by assumption)) | (refine HS.out _ ?_; exact Below.drew (Below.refl _ _)) | (refine HS.out _ ?_; exact below_drewN (Below.refl _ _) _))
      (first | (go_at_call 28; (with_reducible refine (HF.out _ ?_).mono ?_); (focus (go_split_ands; exact HW.out _ (by assumption))); rintro e w1 ⟨A', c', rfl, hr, hb1⟩) | (go_at_call 27; (with_reducible refine (HSm.out _ _ _ ?_ ?_).mono ?_); (focus assumption); (focus (go_split_ands; exact HW.out _ (by assumption))); rintro e w1 ⟨rfl, hb1⟩) | (go_at_call 29; (with_reducible refine (HSt.out _ ?_).mono ?_); (focus (go_split_ands; exact HW.out _ (by assumption))); rintro e w1 ⟨rfl, hb1⟩) | (go_at_call 26; (with_reducible refine (HRS.out _ ?_).mono ?_); (focus (go_split_ands; exact HW.out _ (by assumption))); rintro e w1 ⟨rfl, hb1⟩) | (go_at_call 30; (with_reducible refine (HE.out _ ?_).mono ?_); (focus (go_split_ands; exact HW.out _ (by assumption))); rintro e w1 ⟨rfl, hb1⟩) | (go_at_call 31; (with_reducible refine (HC1.out _ ?_).mono ?_); (focus (go_split_ands; exact HW.out _ (by assumption))); rintro e w1 ⟨rfl, hb1⟩) | (go_at_call 32; (with_reducible refine (HC2.out _ ?_).mono ?_); (focus (go_split_ands; exact HW.out _ (by assumption))); rintro e w1 ⟨rfl, hb1⟩) | (go_at_call 31; (with_reducible refine (HC3.out _ ?_).mono ?_); (focus (go_split_ands; exact HW.out _ (by assumption))); rintro e w1 ⟨rfl, hb1⟩) | (go_at_call 11; (with_reducible refine (HV.out _).mono ?_); rintro e w1 ⟨rfl, hb1⟩))
    have hbf : Below wr.heap.size wr w1 := by go_split_ands; assumption
    clear hb1
    go_wp2
    go_ret
    exact ⟨rfl, HW.out _ hbf⟩

set_option maxHeartbeats 1000000 in
theorem cronFields_great (f : Int) (A B : Nat → Option Addr) (n c m d : Nat → Nat) (w : World) (hg : greatB n = true ∨ greatB n = false ∧ greatB m = true) :
    Calls Try.prog 5 #[crV A n c, crV B m d, .int .i64 f] w (Ret (.bool true) w) := by
  have HG1 := Lib.hid (fun W => great_any A n c W)
  have HG2 := Lib.hid (fun W => great_any B m d W)
  have HV := Lib.hid (fun W => lives24_any W)
  rcases hg with hg | ⟨hg, hg2⟩
  · rw [hg] at HG1
    clear hg
    go_enter Try.func5, Try.ntmps5
    go_wp2_with fail
    refine (HG1.out _).mono ?_
    rintro e w1 ⟨rfl, h1⟩
    have hb1 : Below w.heap.size w w1 := Below.trans (by (repeat' (first | (with_reducible exact Below.refl _ _) | (with_reducible assumption) | (with_reducible refine below_drewN ?_ _) | (with_reducible refine Below.alloc ?_ ?_ _) | (with_reducible refine Below.drew ?_) | (with_reducible refine Below.setCell ?_ ?_ _) | go_size))) (h1.mono (by simp; omega))
    go_wp2_with fail
    refine (HV.out _).mono ?_
    rintro e w2 ⟨rfl, h2⟩
    go_wp2
    go_ret
    exact ⟨rfl, bthen hb1 h2 hb1.size⟩
  · rw [hg] at HG1
    rw [hg2] at HG2
    clear hg hg2
    go_enter Try.func5, Try.ntmps5
    go_wp2_with fail
    refine (HG1.out _).mono ?_
    rintro e w1 ⟨rfl, h1⟩
    have hb1 : Below w.heap.size w w1 := Below.trans (by (repeat' (first | (with_reducible exact Below.refl _ _) | (with_reducible assumption) | (with_reducible refine below_drewN ?_ _) | (with_reducible refine Below.alloc ?_ ?_ _) | (with_reducible refine Below.drew ?_) | (with_reducible refine Below.setCell ?_ ?_ _) | go_size))) (h1.mono (by simp; omega))
    have e1 : ∀ o, w1.cell? ⟨w.heap.size + 1, o, none⟩ = (#[Value.slice (B 0) (m 0) (d 0), .slice (B 1) (m 1) (d 1), .slice (B 2) (m 2) (d 2), .slice (B 3) (m 3) (d 3), .slice (B 4) (m 4) (d 4)])[o]? := fun o => by
      rw [h1.cell (p := ⟨w.heap.size + 1, o, none⟩) (by simp)]
      unfold World.cell?
      rw [show (w.heap.size + 1) = (w.alloc (Obj.cells #[.slice (A 0) (n 0) (c 0), .slice (A 1) (n 1) (c 1), .slice (A 2) (n 2) (c 2), .slice (A 3) (n 3) (c 3), .slice (A 4) (n 4) (c 4)] 24)).heap.size from by simp, heap_alloc_new]
      rfl
    have m0 := e1 0; have m1 := e1 1; have m2 := e1 2; have m3 := e1 3; have m4 := e1 4
    clear e1 h1
    simp at m0 m1 m2 m3 m4
    go_wp2_with fail
    refine (HG2.out _).mono ?_
    rintro e w2 ⟨rfl, h2⟩
    have hb2 := bthen hb1 h2 hb1.size
    go_wp2_with fail
    refine (HV.out _).mono ?_
    rintro e w3 ⟨rfl, h3⟩
    go_wp2
    go_ret
    exact ⟨rfl, bthen hb2 h3 hb2.size⟩

theorem cronFields_any (f : Int) (A B : Nat → Option Addr) (n c m d : Nat → Nat) (l r : Nat → List It) (w : World) (hA : RdLine w A n l) (hB : RdLine w B m r) (hn : ∀ k, n k ≤ 9223372036854775807) (hm : ∀ k, m k ≤ 9223372036854775807) (hz : ∀ k, A k = none → n k = 0) :
    Calls Try.prog 5 #[crV A n c, crV B m d, .int .i64 f] w (Ret (.bool true) w) := by
  cases hgn : greatB n with
  | true => exact cronFields_great f A B n c m d w (.inl hgn)
  | false =>
    cases hgm : greatB m with
    | true => exact cronFields_great f A B n c m d w (.inr ⟨hgn, hgm⟩)
    | false =>
      by_cases hf : f < 0 ∨ 5 ≤ f
      · exact cronFields_out f hf A B n c m d l r w hA hB hn hm hz hgn hgm
      · obtain ⟨k, rfl⟩ : ∃ k : Nat, f = (k : Int) := ⟨f.toNat, by omega⟩
        exact cronFields_in k (by omega) A B n c m d l r w hA hB hn hm hz hgn hgm
end Go.Proofs.Ytgliminiiciflaa
