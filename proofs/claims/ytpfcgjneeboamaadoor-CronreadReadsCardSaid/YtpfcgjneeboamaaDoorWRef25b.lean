/- The walks of package feriaref25: names, numbers, steps. -/
import Derived.Test.YtpfcgjneeboamaaDoorWRef25
namespace Go.Proofs.YtpfcgjneeboamaaDoor
open Go.RowKit
set_option linter.unusedSimpArgs false
set_option linter.unusedVariables false

theorem rnames_any (f : Nat) (w : World) : Calls Tryd.prog 59 #[.int .i64 (f : Int)] w (RetNames f w) := by
  by_cases h3 : f = 3
  · subst h3
    go_enter Tryd.func59, Tryd.ntmps59
    go_wp2
    go_ret
    refine ⟨_, _, rfl, .inr ⟨w.heap.size, rfl, rfl, by decide, fun j hj => ?_⟩, (Below.refl _ w).alloc (Nat.le_refl _) _, fun B o h => by cases h; exact Nat.le_refl _⟩
    exact cells_at w _ _ ((cNames 3).map strB) rfl j (by simpa using hj)
  · by_cases h4 : f = 4
    · subst h4
      go_enter Tryd.func59, Tryd.ntmps59
      go_wp2
      go_ret
      refine ⟨_, _, rfl, .inr ⟨w.heap.size, rfl, rfl, by decide, fun j hj => ?_⟩, (Below.refl _ w).alloc (Nat.le_refl _) _, fun B o h => by cases h; exact Nat.le_refl _⟩
      exact cells_at w _ _ ((cNames 4).map strB) rfl j (by simpa using hj)
    · have e3 : ((f : Int) == 3) = false := by simp; omega
      have e4 : ((f : Int) == 4) = false := by simp; omega
      have hc : cNames f = [] := by unfold cNames; rw [if_neg h3, if_neg h4]
      have HC := Lib.hid hc
      clear h3 h4 hc
      go_enter Tryd.func59, Tryd.ntmps59
      go_wp2
      go_ret
      exact ⟨_, _, rfl, .inl ⟨rfl, rfl, HC.out⟩, Below.refl _ _, fun B o h => by cases h⟩
theorem wIdx_at {x : List UInt8} {zs : List (List UInt8)} {i : Nat} (h : zs[i]? = some x) (H : ∀ j, j < i → zs[j]? ≠ some x) : wIdx x zs = (i : Int) := by
  unfold wIdx
  have : zs.idxOf? x = some i := by
    rw [List.idxOf?_eq_some_iff]
    obtain ⟨h1, h2⟩ := List.getElem?_eq_some_iff.1 h
    refine ⟨h1, by simpa using h2, fun j hj => ?_⟩
    have h3 := H j hj
    rw [List.getElem?_eq_getElem (by omega)] at h3
    simpa using h3
  rw [this]
theorem wIdx_no {x : List UInt8} {zs : List (List UInt8)} (H : ∀ j, j < zs.length → zs[j]? ≠ some x) : wIdx x zs = -1 := by
  unfold wIdx
  have : zs.idxOf? x = none := by
    rw [List.idxOf?_eq_none_iff]
    intro hx
    obtain ⟨j, hj⟩ := List.getElem?_of_mem hx
    exact H j (List.getElem?_eq_some_iff.1 hj).1 hj
  rw [this]
section
variable (s : ByteArray) (hs : s.size ≤ 1000000) (σ : PS) (hσ : OfR s σ) (w : World)
include hs hσ
set_option maxHeartbeats 2000000 in
theorem rstep_any : Calls Tryd.prog 48 #[rvP s σ] w (Ret (tupR s (rStepR s.size σ).1 (.int .i64 (rStepR s.size σ).2)) w) := by
  have HN := Lib.hid (fun W => number_rf s hs σ hσ W 3 (by decide) (by decide))
  have HF := Lib.hid (fun p q W => fail_rf s σ p q W)
  obtain ⟨k, hk, hl, ha⟩ := hσ.at_
  have hX : atP s.size (failP (k : Int) 4 σ) = (k : Int) := by rw [← ha]; unfold atP failP; split <;> rfl
  have HF4 := Lib.hid (fun W => HF.out (k : Int) 4 W)
  unfold rStepR
  rw [ha]
  clear HF
  generalize failP (k : Int) 4 σ = F at *
  obtain ⟨⟨X, n, ok⟩, hq⟩ : ∃ q, q = numP s.size 3 σ := ⟨_, rfl⟩
  rw [← hq] at HN ⊢
  dsimp only at HN ⊢
  unfold tupR rvP rV at *
  rw [ha] at HN HF4 ⊢
  rw [hX] at HF4
  cases ok with
  | true =>
    by_cases hn : n = 0
    · rw [if_pos ⟨rfl, hn⟩]
      dsimp only
      rw [hX]
      subst hn
      generalize atP s.size X = jX at *
      clear hl ha hσ hX hq
      go_enter Tryd.func48, Tryd.ntmps48
      go_wp2_with fail
      refine (HN.out _).mono ?_
      rintro e w1 ⟨rfl, hb1⟩
      obtain ⟨q0, q1, f0, f1⟩ := rv_cells s w hb1
      have c0 := q0 0 _ rfl
      have c1 := q0 1 _ rfl
      have c2 := q0 2 _ rfl
      have c3 := q0 3 _ rfl
      have r0 := q1 0 _ rfl
      have r1 := q1 1 _ rfl
      have r2 := q1 2 _ rfl
      have r3 := q1 3 _ rfl
      have hz1 : w.heap.size + 1 < w1.heap.size := by have := hb1.size; simp at this; omega
      have hz0 : w.heap.size < w1.heap.size := by omega
      have hbw : Below w.heap.size w w1 := (((Below.refl _ w).alloc (Nat.le_refl _) _).alloc (by simp) _).trans (hb1.mono (by simp; omega))
      clear q0 q1 hb1
      clear HN
      go_wp2_with fail
      refine (HF4.out _).mono ?_
      rintro e w2 ⟨rfl, hb2⟩
      obtain ⟨hc2, hf2⟩ := bcell hb2
      have x0 := (hc2 (w.heap.size + 1) 0 (by simp; omega))
      have x1 := (hc2 (w.heap.size + 1) 1 (by simp; omega))
      have x2 := (hc2 (w.heap.size + 1) 2 (by simp; omega))
      have x3 := (hc2 (w.heap.size + 1) 3 (by simp; omega))
      have y0 := (hf2 (w.heap.size + 1) 0 (by simp; omega))
      have hz2 : w.heap.size + 1 < w2.heap.size := by have := hb2.size; simp at this; omega
      have hbx : Below w.heap.size w w2 := (hbw.alloc (by omega) _).trans (hb2.mono (by simp; omega))
      clear hb2
      clear HF4
      go_wp2
      all_goals (
        (try go_wp2)
        (try simp only [Exit.inBlock, Exit.then])
        refine bodyPost_ret (v := .tuple #[.agg #[.string s, .int .i64 (k), .int .i64 (F.a), .int .i64 (F.e)], .int .i64 0]) ?_ rfl ⟨rfl, by (repeat' (first | (with_reducible exact Below.refl _ _) | (with_reducible assumption) | (with_reducible refine below_drewN ?_ _) | (with_reducible refine Below.alloc ?_ ?_ _) | (with_reducible refine Below.drew ?_) | (with_reducible refine Below.setCell ?_ ?_ _) | go_size))⟩
        rw [results_cell_r2 rfl]
        go_simp)
    · rw [if_neg (fun h => hn h.2)]
      have hn' : (n == 0) = false := by simpa using hn
      dsimp only
      generalize atP s.size X = jX at *
      clear hl ha hσ hX hq HF4 hn
      go_enter Tryd.func48, Tryd.ntmps48
      go_wp2_with fail
      refine (HN.out _).mono ?_
      rintro e w1 ⟨rfl, hb1⟩
      obtain ⟨q0, q1, f0, f1⟩ := rv_cells s w hb1
      have c0 := q0 0 _ rfl
      have c1 := q0 1 _ rfl
      have c2 := q0 2 _ rfl
      have c3 := q0 3 _ rfl
      have r0 := q1 0 _ rfl
      have r1 := q1 1 _ rfl
      have r2 := q1 2 _ rfl
      have r3 := q1 3 _ rfl
      have hz1 : w.heap.size + 1 < w1.heap.size := by have := hb1.size; simp at this; omega
      have hz0 : w.heap.size < w1.heap.size := by omega
      have hbw : Below w.heap.size w w1 := (((Below.refl _ w).alloc (Nat.le_refl _) _).alloc (by simp) _).trans (hb1.mono (by simp; omega))
      clear q0 q1 hb1
      clear HN
      go_wp2
      all_goals (
        (try go_wp2)
        (try simp only [Exit.inBlock, Exit.then])
        refine bodyPost_ret (v := .tuple #[.agg #[.string s, .int .i64 (jX), .int .i64 (X.a), .int .i64 (X.e)], .int .i64 n]) ?_ rfl ⟨rfl, by (repeat' (first | (with_reducible exact Below.refl _ _) | (with_reducible assumption) | (with_reducible refine below_drewN ?_ _) | (with_reducible refine Below.alloc ?_ ?_ _) | (with_reducible refine Below.drew ?_) | (with_reducible refine Below.setCell ?_ ?_ _) | go_size))⟩
        rw [results_cell_r2 rfl]
        go_simp)
  | false =>
    rw [if_neg (by simp)]
    dsimp only
    generalize atP s.size X = jX at *
    clear hl ha hσ hX hq HF4
    go_enter Tryd.func48, Tryd.ntmps48
    go_wp2_with fail
    refine (HN.out _).mono ?_
    rintro e w1 ⟨rfl, hb1⟩
    obtain ⟨q0, q1, f0, f1⟩ := rv_cells s w hb1
    have c0 := q0 0 _ rfl
    have c1 := q0 1 _ rfl
    have c2 := q0 2 _ rfl
    have c3 := q0 3 _ rfl
    have r0 := q1 0 _ rfl
    have r1 := q1 1 _ rfl
    have r2 := q1 2 _ rfl
    have r3 := q1 3 _ rfl
    have hz1 : w.heap.size + 1 < w1.heap.size := by have := hb1.size; simp at this; omega
    have hz0 : w.heap.size < w1.heap.size := by omega
    have hbw : Below w.heap.size w w1 := (((Below.refl _ w).alloc (Nat.le_refl _) _).alloc (by simp) _).trans (hb1.mono (by simp; omega))
    clear q0 q1 hb1
    clear HN
    go_wp2
    all_goals (
      (try go_wp2)
      (try simp only [Exit.inBlock, Exit.then])
      refine bodyPost_ret (v := .tuple #[.agg #[.string s, .int .i64 (jX), .int .i64 (X.a), .int .i64 (X.e)], .int .i64 n]) ?_ rfl ⟨rfl, by (repeat' (first | (with_reducible exact Below.refl _ _) | (with_reducible assumption) | (with_reducible refine below_drewN ?_ _) | (with_reducible refine Below.alloc ?_ ?_ _) | (with_reducible refine Below.drew ?_) | (with_reducible refine Below.setCell ?_ ?_ _) | go_size))⟩
      rw [results_cell_r2 rfl]
      go_simp)
end
end Go.Proofs.YtpfcgjneeboamaaDoor
