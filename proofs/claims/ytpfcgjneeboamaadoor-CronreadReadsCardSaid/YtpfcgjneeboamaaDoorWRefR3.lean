/- The walks of package feriaref11: Must, Number. -/
import Derived.Test.YtpfcgjneeboamaaDoorWRefR2
namespace Go.Proofs.YtpfcgjneeboamaaDoor
open Go.RowKit
set_option linter.unusedSimpArgs false
set_option linter.unusedVariables false

section
variable (s : ByteArray) (hs : s.size ≤ 1000000) (σ : PS) (hσ : OfR s σ) (w : World)
include hs hσ
set_option maxHeartbeats 2000000 in
theorem must_rf (A : Option Addr) (n c : Nat) (x : UInt8) (hA : RdBytes w A n [x]) : Calls Tryd.prog 23 #[rvP s σ, .slice A n c] w (Ret (tupR s (mustP s.size [x] σ).1 (.int .u8 (mustP s.size [x] σ).2)) w) := by
  have HI := Lib.hid (fun W (hW : Below w.heap.size w W) => is_rf s hs σ hσ W A n c x (hA.below hW (Nat.le_refl _)))
  have HL := Lib.hid (fun W => lacks_rf s σ hσ W)
  have hT := ofR_is hσ [x]
  have hLo : OfR s (lackP s.size σ) := ofR_fail hσ _ _
  obtain ⟨k, hk, hl, ha⟩ := hσ.at_
  unfold mustP
  cases hi : (isP [x] σ).2 with
  | true =>
    rw [if_pos rfl]
    have hpk : k < s.size ∧ peekP σ = (((s.data.toList.drop k).headD 0).toNat : Int) := by
      unfold isP at hi
      by_cases he : σ.e = 0
      · rw [if_pos he, hl] at hi
        unfold peekP
        rw [if_pos he, hl]
        by_cases hlt : k < s.size
        · refine ⟨hlt, ?_⟩
          rw [drop_cons s k hlt]; rfl
        · rw [show s.data.toList.drop k = [] from by rw [List.drop_eq_nil_iff, len_data]; omega] at hi
          cases hi
      · rw [if_neg he] at hi; cases hi
    have hlt := hpk.1
    have hpk2 : peekP σ = (s[k].toNat : Int) := by rw [hpk.2, drop_cons s k hlt]; rfl
    rw [hi] at HI
    dsimp only
    rw [hpk2]
    obtain ⟨j, hj, hlj, haj⟩ := hT.at_
    generalize (isP [x] σ).1 = T at *
    have hk' : (k : Int) < (s.size : Int) := by omega
    have hk0 : ¬ (k : Int) < 0 := by omega
    unfold tupR rvP rV at *
    rw [ha] at HI ⊢
    rw [haj] at HI ⊢
    clear hl ha hσ hpk hpk2 hi HL hT hLo hlj haj hA
    go_enter Tryd.func23, Tryd.ntmps23
    go_wp2_with fail
    refine (HI.out _ (by (repeat' (first | (with_reducible exact Below.refl _ _) | (with_reducible assumption) | (with_reducible refine below_drewN ?_ _) | (with_reducible refine Below.alloc ?_ ?_ _) | (with_reducible refine Below.drew ?_) | (with_reducible refine Below.setCell ?_ ?_ _) | go_size)))).mono ?_
    rintro e w1 ⟨rfl, hb1⟩
    obtain ⟨q0, q1, f0, f1⟩ := rv_cells s w hb1
    have c0 := q0 0 _ rfl
    have c1 := q0 1 _ rfl
    have c2 := q0 2 _ rfl
    have c3 := q0 3 _ rfl
    have r0 := q1 0 _ rfl
    have r1 := q1 1 _ rfl
    have r2 := q1 2 _ rfl
    have r3 := q1 3 _ rfl
    have hz1 : w.heap.size + 1 < w1.heap.size := by have := hb1.size; simp at this; omega
    have hz0 : w.heap.size < w1.heap.size := by omega
    have hbw : Below w.heap.size w w1 := (((Below.refl _ w).alloc (Nat.le_refl _) _).alloc (by simp) _).trans (hb1.mono (by simp; omega))
    clear q0 q1 hb1
    clear HI
    go_wp2
    go_region_with (fail)
    all_goals (
      (try go_wp2)
      (try simp only [Exit.inBlock, Exit.then])
      refine bodyPost_ret (v := .tuple #[.agg #[.string s, .int .i64 j, .int .i64 T.a, .int .i64 T.e], .int .u8 (s[k].toNat : Int)]) ?_ rfl ⟨rfl, by (repeat' (first | (with_reducible exact Below.refl _ _) | (with_reducible assumption) | (with_reducible refine below_drewN ?_ _) | (with_reducible refine Below.alloc ?_ ?_ _) | (with_reducible refine Below.drew ?_) | (with_reducible refine Below.setCell ?_ ?_ _) | go_size))⟩
      rw [results_cell_r2 rfl]
      go_simp)
  | false =>
    rw [if_neg (by simp)]
    rw [hi] at HI
    obtain ⟨j, hj, hlj, haj⟩ := hT.at_
    obtain ⟨i, hi', hli, hai⟩ := hLo.at_
    generalize (isP [x] σ).1 = T at *
    generalize lackP s.size σ = X at *
    unfold tupR rvP rV at *
    rw [ha] at HI HL ⊢
    rw [haj] at HI
    dsimp only
    rw [hai] at HL ⊢
    clear hl ha hσ hi hT hLo hlj haj hA hai hli
    go_enter Tryd.func23, Tryd.ntmps23
    go_wp2_with fail
    refine (HI.out _ (by (repeat' (first | (with_reducible exact Below.refl _ _) | (with_reducible assumption) | (with_reducible refine below_drewN ?_ _) | (with_reducible refine Below.alloc ?_ ?_ _) | (with_reducible refine Below.drew ?_) | (with_reducible refine Below.setCell ?_ ?_ _) | go_size)))).mono ?_
    rintro e w1 ⟨rfl, hb1⟩
    obtain ⟨q0, q1, f0, f1⟩ := rv_cells s w hb1
    have c0 := q0 0 _ rfl
    have c1 := q0 1 _ rfl
    have c2 := q0 2 _ rfl
    have c3 := q0 3 _ rfl
    have r0 := q1 0 _ rfl
    have r1 := q1 1 _ rfl
    have r2 := q1 2 _ rfl
    have r3 := q1 3 _ rfl
    have hz1 : w.heap.size + 1 < w1.heap.size := by have := hb1.size; simp at this; omega
    have hz0 : w.heap.size < w1.heap.size := by omega
    have hbw : Below w.heap.size w w1 := (((Below.refl _ w).alloc (Nat.le_refl _) _).alloc (by simp) _).trans (hb1.mono (by simp; omega))
    clear q0 q1 hb1
    clear HI
    go_wp2_with fail
    refine (HL.out _).mono ?_
    rintro e w2 ⟨rfl, hb2⟩
    obtain ⟨hc2, hf2⟩ := bcell hb2
    have x0 := (hc2 (w.heap.size + 1) 0 (by simp; omega))
    have x1 := (hc2 (w.heap.size + 1) 1 (by simp; omega))
    have x2 := (hc2 (w.heap.size + 1) 2 (by simp; omega))
    have x3 := (hc2 (w.heap.size + 1) 3 (by simp; omega))
    have y0 := (hf2 (w.heap.size + 1) 0 (by simp; omega))
    have hz2 : w.heap.size + 1 < w2.heap.size := by have := hb2.size; simp at this; omega
    have hbx : Below w.heap.size w w2 := (hbw.alloc (by omega) _).trans (hb2.mono (by simp; omega))
    clear HL hb2
    go_wp2
    all_goals (
      (try go_wp2)
      (try simp only [Exit.inBlock, Exit.then])
      refine bodyPost_ret (v := .tuple #[.agg #[.string s, .int .i64 i, .int .i64 X.a, .int .i64 X.e], .int .u8 0]) ?_ rfl ⟨rfl, by (repeat' (first | (with_reducible exact Below.refl _ _) | (with_reducible assumption) | (with_reducible refine below_drewN ?_ _) | (with_reducible refine Below.alloc ?_ ?_ _) | (with_reducible refine Below.drew ?_) | (with_reducible refine Below.setCell ?_ ?_ _) | go_size))⟩
      rw [results_cell_r2 rfl]
      go_simp)
end
end Go.Proofs.YtpfcgjneeboamaaDoor
