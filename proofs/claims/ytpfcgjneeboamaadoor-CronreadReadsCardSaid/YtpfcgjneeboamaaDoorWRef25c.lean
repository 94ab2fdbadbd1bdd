/- The walks of package feriaref25: number. -/
import Derived.Test.YtpfcgjneeboamaaDoorWRef25b
namespace Go.Proofs.YtpfcgjneeboamaaDoor
open Go.RowKit
set_option linter.unusedSimpArgs false
set_option linter.unusedVariables false

/-- It hands back a slice of names that isn't empty. -/
def RetNm (w : World) (x : Ending) (w' : World) : Prop := ∃ A n, x = .returned (.slice A n n) ∧ 0 < n ∧ Below w.heap.size w w'
section
variable (s : ByteArray) (hs : s.size ≤ 1000000) (σ : PS) (hσ : OfR s σ) (w : World)
include hs hσ
set_option maxHeartbeats 8000000 in
theorem rnumber_plain (f : Nat) (hf : f < 5) (hc : ¬ (cNames f ≠ [] ∧ doneP σ = false ∧ headB letterP σ.l = true)) : Calls Tryd.prog 47 #[rvP s σ, .int .i64 (f : Int)] w (Ret (tupR s (rNumR s.size f σ).1 (.int .i64 (rNumR s.size f σ).2)) w) := by
  have HBd := Lib.hid (fun W => rbounds_any (f : Int) W)
  have HNm := Lib.hid (fun W => rnames_any f W)
  have HN := Lib.hid (fun W => number_rf s hs σ hσ W 2 (by decide) (by decide))
  have HF := Lib.hid (fun p q W => fail_rf s σ p q W)
  have HD := Lib.hid (fun W => done_rf s σ hσ W)
  obtain ⟨k, hk, hl, ha⟩ := hσ.at_
  have hX : atP s.size (failP (k : Int) 4 σ) = (k : Int) := by rw [← ha]; unfold atP failP; split <;> rfl
  have HF4 := Lib.hid (fun W => HF.out (k : Int) 4 W)
  unfold rNumR
  rw [if_neg hc, ha]
  clear HF
  have hcase : cNames f = [] ∨ (cNames f ≠ [] ∧ doneP σ = true) ∨ (cNames f ≠ [] ∧ doneP σ = false ∧ k < s.size ∧ ∀ h : k < s.size, letterP s[k] = false) := by
    by_cases h1 : cNames f = []
    · exact .inl h1
    · by_cases h2 : doneP σ = true
      · exact .inr (.inl ⟨h1, h2⟩)
      · have h2' : doneP σ = false := by simpa using h2
        refine .inr (.inr ⟨h1, h2', ?_⟩)
        unfold doneP at h2
        rw [decide_eq_true_eq, not_or, hl, List.drop_eq_nil_iff, len_data] at h2
        have hlt : k < s.size := by omega
        refine ⟨hlt, fun _ => ?_⟩
        have h3 : ¬ headB letterP σ.l = true := fun h => hc ⟨h1, h2', h⟩
        rw [hl, drop_cons s k hlt] at h3
        simpa [headB] using h3
  clear hc
  generalize failP (k : Int) 4 σ = F at *
  obtain ⟨⟨X, n, ok⟩, hq⟩ : ∃ q, q = numP s.size 2 σ := ⟨_, rfl⟩
  rw [← hq] at HN ⊢
  dsimp only at HN ⊢
  unfold tupR rvP rV at *
  rw [ha] at HN HF4 HD ⊢
  rw [hX] at HF4
  generalize hlo : cLo (f : Int) = lo at *
  generalize hhi : cHi (f : Int) = hi at *
  clear hlo hhi hq
  rcases hcase with h1 | ⟨h1, h2⟩ | ⟨h1, h2, hlt, h3⟩
  · have HNm1 : Hid (∀ W, Calls Tryd.prog 59 #[.int .i64 (f : Int)] W (Ret (.slice none 0 0) W)) := by
      intro W
      refine (HNm.out W).mono ?_
      rintro e w' ⟨A, n, rfl, ⟨rfl, rfl, _⟩ | ⟨B, _, _, h, _⟩, hb, _⟩
      · exact ⟨rfl, hb⟩
      · exact absurd h1 h
    clear HNm h1 HD
    cases ok with
    | true =>
      by_cases hb : n < lo ∨ hi < n
      · rw [if_pos ⟨rfl, hb⟩]
        dsimp only
        rw [hX]
        clear hl ha hσ hX
        by_cases hb0 : n < lo
        · clear hb
          go_enter Tryd.func47, Tryd.ntmps47
          go_wp2_with fail
          refine (HBd.out _).mono ?_
          rintro e w1 ⟨rfl, rfl⟩
          go_wp2_with fail
          refine (HNm1.out _).mono ?_
          rintro e w1 ⟨rfl, hb1⟩
          have HB := Lib.hid hb1
          obtain ⟨q0, q1, f0, f1⟩ := rv_cells s w hb1
          have c0 := q0 0 _ rfl
          have c1 := q0 1 _ rfl
          have c2 := q0 2 _ rfl
          have c3 := q0 3 _ rfl
          have r0 := q1 0 _ rfl
          have r1 := q1 1 _ rfl
          have r2 := q1 2 _ rfl
          have r3 := q1 3 _ rfl
          have hz1 : w.heap.size + 1 < w1.heap.size := by have := hb1.size; simp at this; omega
          have hz0 : w.heap.size < w1.heap.size := by omega
          have hbw : Below w.heap.size w w1 := (((Below.refl _ w).alloc (Nat.le_refl _) _).alloc (by simp) _).trans (hb1.mono (by simp; omega))
          clear q0 q1 hb1
          go_wp2_with fail
          refine (HN.out _).mono ?_
          rintro e w2 ⟨rfl, hbn⟩
          have hbc := bthen HB.out hbn HB.out.size
          clear c0 c1 c2 c3 r0 r1 r2 r3 f0 f1 hz1 hz0 hbw
          clear HB HN hbn
          obtain ⟨q0, q1, f0, f1⟩ := rv_cells s w hbc
          have c0 := q0 0 _ rfl
          have c1 := q0 1 _ rfl
          have c2 := q0 2 _ rfl
          have c3 := q0 3 _ rfl
          have r0 := q1 0 _ rfl
          have r1 := q1 1 _ rfl
          have r2 := q1 2 _ rfl
          have r3 := q1 3 _ rfl
          have hz1 : w.heap.size + 1 < w2.heap.size := by have := hbc.size; simp at this; omega
          have hz0 : w.heap.size < w2.heap.size := by omega
          have hbw : Below w.heap.size w w2 := (((Below.refl _ w).alloc (Nat.le_refl _) _).alloc (by simp) _).trans (hbc.mono (by simp; omega))
          clear q0 q1 hbc
          go_wp2_with fail
          refine (HF4.out _).mono ?_
          rintro e w3 ⟨rfl, hb2⟩
          obtain ⟨hc2, hf2⟩ := bcell hb2
          have x0 := (hc2 (w.heap.size + 1) 0 (by simp; omega))
          have x1 := (hc2 (w.heap.size + 1) 1 (by simp; omega))
          have x2 := (hc2 (w.heap.size + 1) 2 (by simp; omega))
          have x3 := (hc2 (w.heap.size + 1) 3 (by simp; omega))
          have y0 := (hf2 (w.heap.size + 1) 0 (by simp; omega))
          have hz2 : w.heap.size + 1 < w3.heap.size := by have := hb2.size; simp at this; omega
          have hbx : Below w.heap.size w w3 := (hbw.alloc (by omega) _).trans (hb2.mono (by simp; omega))
          clear hb2
          clear HF4
          go_wp2
          all_goals (
            (try go_wp2)
            (try simp only [Exit.inBlock, Exit.then])
            refine bodyPost_ret (v := .tuple #[.agg #[.string s, .int .i64 (k), .int .i64 (F.a), .int .i64 (F.e)], .int .i64 0]) ?_ rfl ⟨rfl, by (repeat' (first | (with_reducible exact Below.refl _ _) | (with_reducible assumption) | (with_reducible refine below_drewN ?_ _) | (with_reducible refine Below.alloc ?_ ?_ _) | (with_reducible refine Below.drew ?_) | (with_reducible refine Below.setCell ?_ ?_ _) | go_size))⟩
            rw [results_cell_r2 rfl]
            go_simp)
        · have hb1 : hi < n := by omega
          clear hb
          go_enter Tryd.func47, Tryd.ntmps47
          go_wp2_with fail
          refine (HBd.out _).mono ?_
          rintro e w1 ⟨rfl, rfl⟩
          go_wp2_with fail
          refine (HNm1.out _).mono ?_
          rintro e w1 ⟨rfl, hb1⟩
          have HB := Lib.hid hb1
          obtain ⟨q0, q1, f0, f1⟩ := rv_cells s w hb1
          have c0 := q0 0 _ rfl
          have c1 := q0 1 _ rfl
          have c2 := q0 2 _ rfl
          have c3 := q0 3 _ rfl
          have r0 := q1 0 _ rfl
          have r1 := q1 1 _ rfl
          have r2 := q1 2 _ rfl
          have r3 := q1 3 _ rfl
          have hz1 : w.heap.size + 1 < w1.heap.size := by have := hb1.size; simp at this; omega
          have hz0 : w.heap.size < w1.heap.size := by omega
          have hbw : Below w.heap.size w w1 := (((Below.refl _ w).alloc (Nat.le_refl _) _).alloc (by simp) _).trans (hb1.mono (by simp; omega))
          clear q0 q1 hb1
          go_wp2_with fail
          refine (HN.out _).mono ?_
          rintro e w2 ⟨rfl, hbn⟩
          have hbc := bthen HB.out hbn HB.out.size
          clear c0 c1 c2 c3 r0 r1 r2 r3 f0 f1 hz1 hz0 hbw
          clear HB HN hbn
          obtain ⟨q0, q1, f0, f1⟩ := rv_cells s w hbc
          have c0 := q0 0 _ rfl
          have c1 := q0 1 _ rfl
          have c2 := q0 2 _ rfl
          have c3 := q0 3 _ rfl
          have r0 := q1 0 _ rfl
          have r1 := q1 1 _ rfl
          have r2 := q1 2 _ rfl
          have r3 := q1 3 _ rfl
          have hz1 : w.heap.size + 1 < w2.heap.size := by have := hbc.size; simp at this; omega
          have hz0 : w.heap.size < w2.heap.size := by omega
          have hbw : Below w.heap.size w w2 := (((Below.refl _ w).alloc (Nat.le_refl _) _).alloc (by simp) _).trans (hbc.mono (by simp; omega))
          clear q0 q1 hbc
          go_wp2_with fail
          refine (HF4.out _).mono ?_
          rintro e w3 ⟨rfl, hb2⟩
          obtain ⟨hc2, hf2⟩ := bcell hb2
          have x0 := (hc2 (w.heap.size + 1) 0 (by simp; omega))
          have x1 := (hc2 (w.heap.size + 1) 1 (by simp; omega))
          have x2 := (hc2 (w.heap.size + 1) 2 (by simp; omega))
          have x3 := (hc2 (w.heap.size + 1) 3 (by simp; omega))
          have y0 := (hf2 (w.heap.size + 1) 0 (by simp; omega))
          have hz2 : w.heap.size + 1 < w3.heap.size := by have := hb2.size; simp at this; omega
          have hbx : Below w.heap.size w w3 := (hbw.alloc (by omega) _).trans (hb2.mono (by simp; omega))
          clear hb2
          clear HF4
          go_wp2
          all_goals (
            (try go_wp2)
            (try simp only [Exit.inBlock, Exit.then])
            refine bodyPost_ret (v := .tuple #[.agg #[.string s, .int .i64 (k), .int .i64 (F.a), .int .i64 (F.e)], .int .i64 0]) ?_ rfl ⟨rfl, by (repeat' (first | (with_reducible exact Below.refl _ _) | (with_reducible assumption) | (with_reducible refine below_drewN ?_ _) | (with_reducible refine Below.alloc ?_ ?_ _) | (with_reducible refine Below.drew ?_) | (with_reducible refine Below.setCell ?_ ?_ _) | go_size))⟩
            rw [results_cell_r2 rfl]
            go_simp)
      · rw [if_neg (fun h => hb h.2)]
        have hb0 : ¬ n < lo := by omega
        have hb1 : ¬ hi < n := by omega
        dsimp only
        generalize atP s.size X = jX at *
        clear hl ha hσ hX hb HF4
        go_enter Tryd.func47, Tryd.ntmps47
        go_wp2_with fail
        refine (HBd.out _).mono ?_
        rintro e w1 ⟨rfl, rfl⟩
        go_wp2_with fail
        refine (HNm1.out _).mono ?_
        rintro e w1 ⟨rfl, hb1⟩
        have HB := Lib.hid hb1
        obtain ⟨q0, q1, f0, f1⟩ := rv_cells s w hb1
        have c0 := q0 0 _ rfl
        have c1 := q0 1 _ rfl
        have c2 := q0 2 _ rfl
        have c3 := q0 3 _ rfl
        have r0 := q1 0 _ rfl
        have r1 := q1 1 _ rfl
        have r2 := q1 2 _ rfl
        have r3 := q1 3 _ rfl
        have hz1 : w.heap.size + 1 < w1.heap.size := by have := hb1.size; simp at this; omega
        have hz0 : w.heap.size < w1.heap.size := by omega
        have hbw : Below w.heap.size w w1 := (((Below.refl _ w).alloc (Nat.le_refl _) _).alloc (by simp) _).trans (hb1.mono (by simp; omega))
        clear q0 q1 hb1
        go_wp2_with fail
        refine (HN.out _).mono ?_
        rintro e w2 ⟨rfl, hbn⟩
        have hbc := bthen HB.out hbn HB.out.size
        clear c0 c1 c2 c3 r0 r1 r2 r3 f0 f1 hz1 hz0 hbw
        clear HB HN hbn
        obtain ⟨q0, q1, f0, f1⟩ := rv_cells s w hbc
        have c0 := q0 0 _ rfl
        have c1 := q0 1 _ rfl
        have c2 := q0 2 _ rfl
        have c3 := q0 3 _ rfl
        have r0 := q1 0 _ rfl
        have r1 := q1 1 _ rfl
        have r2 := q1 2 _ rfl
        have r3 := q1 3 _ rfl
        have hz1 : w.heap.size + 1 < w2.heap.size := by have := hbc.size; simp at this; omega
        have hz0 : w.heap.size < w2.heap.size := by omega
        have hbw : Below w.heap.size w w2 := (((Below.refl _ w).alloc (Nat.le_refl _) _).alloc (by simp) _).trans (hbc.mono (by simp; omega))
        clear q0 q1 hbc
        go_wp2
        all_goals (
          (try go_wp2)
          (try simp only [Exit.inBlock, Exit.then])
          refine bodyPost_ret (v := .tuple #[.agg #[.string s, .int .i64 (jX), .int .i64 (X.a), .int .i64 (X.e)], .int .i64 n]) ?_ rfl ⟨rfl, by (repeat' (first | (with_reducible exact Below.refl _ _) | (with_reducible assumption) | (with_reducible refine below_drewN ?_ _) | (with_reducible refine Below.alloc ?_ ?_ _) | (with_reducible refine Below.drew ?_) | (with_reducible refine Below.setCell ?_ ?_ _) | go_size))⟩
          rw [results_cell_r2 rfl]
          go_simp)
    | false =>
      rw [if_neg (by simp)]
      dsimp only
      generalize atP s.size X = jX at *
      clear hl ha hσ hX HF4
      go_enter Tryd.func47, Tryd.ntmps47
      go_wp2_with fail
      refine (HBd.out _).mono ?_
      rintro e w1 ⟨rfl, rfl⟩
      go_wp2_with fail
      refine (HNm1.out _).mono ?_
      rintro e w1 ⟨rfl, hb1⟩
      have HB := Lib.hid hb1
      obtain ⟨q0, q1, f0, f1⟩ := rv_cells s w hb1
      have c0 := q0 0 _ rfl
      have c1 := q0 1 _ rfl
      have c2 := q0 2 _ rfl
      have c3 := q0 3 _ rfl
      have r0 := q1 0 _ rfl
      have r1 := q1 1 _ rfl
      have r2 := q1 2 _ rfl
      have r3 := q1 3 _ rfl
      have hz1 : w.heap.size + 1 < w1.heap.size := by have := hb1.size; simp at this; omega
      have hz0 : w.heap.size < w1.heap.size := by omega
      have hbw : Below w.heap.size w w1 := (((Below.refl _ w).alloc (Nat.le_refl _) _).alloc (by simp) _).trans (hb1.mono (by simp; omega))
      clear q0 q1 hb1
      go_wp2_with fail
      refine (HN.out _).mono ?_
      rintro e w2 ⟨rfl, hbn⟩
      have hbc := bthen HB.out hbn HB.out.size
      clear c0 c1 c2 c3 r0 r1 r2 r3 f0 f1 hz1 hz0 hbw
      clear HB HN hbn
      obtain ⟨q0, q1, f0, f1⟩ := rv_cells s w hbc
      have c0 := q0 0 _ rfl
      have c1 := q0 1 _ rfl
      have c2 := q0 2 _ rfl
      have c3 := q0 3 _ rfl
      have r0 := q1 0 _ rfl
      have r1 := q1 1 _ rfl
      have r2 := q1 2 _ rfl
      have r3 := q1 3 _ rfl
      have hz1 : w.heap.size + 1 < w2.heap.size := by have := hbc.size; simp at this; omega
      have hz0 : w.heap.size < w2.heap.size := by omega
      have hbw : Below w.heap.size w w2 := (((Below.refl _ w).alloc (Nat.le_refl _) _).alloc (by simp) _).trans (hbc.mono (by simp; omega))
      clear q0 q1 hbc
      go_wp2
      all_goals (
        (try go_wp2)
        (try simp only [Exit.inBlock, Exit.then])
        refine bodyPost_ret (v := .tuple #[.agg #[.string s, .int .i64 (jX), .int .i64 (X.a), .int .i64 (X.e)], .int .i64 n]) ?_ rfl ⟨rfl, by (repeat' (first | (with_reducible exact Below.refl _ _) | (with_reducible assumption) | (with_reducible refine below_drewN ?_ _) | (with_reducible refine Below.alloc ?_ ?_ _) | (with_reducible refine Below.drew ?_) | (with_reducible refine Below.setCell ?_ ?_ _) | go_size))⟩
        rw [results_cell_r2 rfl]
        go_simp)
  · have HNm1 : Hid (∀ W, Calls Tryd.prog 59 #[.int .i64 (f : Int)] W (RetNm W)) := by
      intro W
      refine (HNm.out W).mono ?_
      rintro e w' ⟨A, n, rfl, ⟨_, _, h⟩ | ⟨B, _, rfl, h, _⟩, hb, _⟩
      · exact absurd h h1
      · exact ⟨A, _, rfl, List.length_pos_iff.2 h, hb⟩
    rw [h2] at HD
    clear HNm h1 h2
    cases ok with
    | true =>
      by_cases hb : n < lo ∨ hi < n
      · rw [if_pos ⟨rfl, hb⟩]
        dsimp only
        rw [hX]
        clear hl ha hσ hX
        by_cases hb0 : n < lo
        · clear hb
          go_enter Tryd.func47, Tryd.ntmps47
          go_wp2_with fail
          refine (HBd.out _).mono ?_
          rintro e w0 ⟨rfl, rfl⟩
          go_wp2_with fail
          refine (HNm1.out _).mono ?_
          rintro e w0 ⟨A, nn, rfl, hnn, hb0'⟩
          have hnn' : (0 : Int) < (nn : Int) := by omega
          have HB0 := Lib.hid hb0'
          obtain ⟨q0, q1, f0, f1⟩ := rv_cells s w hb0'
          have c0 := q0 0 _ rfl
          have c1 := q0 1 _ rfl
          have c2 := q0 2 _ rfl
          have c3 := q0 3 _ rfl
          have r0 := q1 0 _ rfl
          have r1 := q1 1 _ rfl
          have r2 := q1 2 _ rfl
          have r3 := q1 3 _ rfl
          have hz1 : w.heap.size + 1 < w0.heap.size := by have := hb0'.size; simp at this; omega
          have hz0 : w.heap.size < w0.heap.size := by omega
          have hbw : Below w.heap.size w w0 := (((Below.refl _ w).alloc (Nat.le_refl _) _).alloc (by simp) _).trans (hb0'.mono (by simp; omega))
          clear q0 q1 hb0'
          go_wp2_with fail
          refine (HD.out _).mono ?_
          rintro e w1 ⟨rfl, hbn0⟩
          have hbc0 := bthen HB0.out hbn0 HB0.out.size
          have HB := Lib.hid hbc0
          clear c0 c1 c2 c3 r0 r1 r2 r3 f0 f1 hz1 hz0 hbw
          clear HB0 hbn0
          obtain ⟨q0, q1, f0, f1⟩ := rv_cells s w hbc0
          have c0 := q0 0 _ rfl
          have c1 := q0 1 _ rfl
          have c2 := q0 2 _ rfl
          have c3 := q0 3 _ rfl
          have r0 := q1 0 _ rfl
          have r1 := q1 1 _ rfl
          have r2 := q1 2 _ rfl
          have r3 := q1 3 _ rfl
          have hz1 : w.heap.size + 1 < w1.heap.size := by have := hbc0.size; simp at this; omega
          have hz0 : w.heap.size < w1.heap.size := by omega
          have hbw : Below w.heap.size w w1 := (((Below.refl _ w).alloc (Nat.le_refl _) _).alloc (by simp) _).trans (hbc0.mono (by simp; omega))
          clear q0 q1 hbc0
          go_wp2_with fail
          refine (HN.out _).mono ?_
          rintro e w2 ⟨rfl, hbn⟩
          have hbc := bthen HB.out hbn HB.out.size
          clear c0 c1 c2 c3 r0 r1 r2 r3 f0 f1 hz1 hz0 hbw
          clear HB HN hbn
          obtain ⟨q0, q1, f0, f1⟩ := rv_cells s w hbc
          have c0 := q0 0 _ rfl
          have c1 := q0 1 _ rfl
          have c2 := q0 2 _ rfl
          have c3 := q0 3 _ rfl
          have r0 := q1 0 _ rfl
          have r1 := q1 1 _ rfl
          have r2 := q1 2 _ rfl
          have r3 := q1 3 _ rfl
          have hz1 : w.heap.size + 1 < w2.heap.size := by have := hbc.size; simp at this; omega
          have hz0 : w.heap.size < w2.heap.size := by omega
          have hbw : Below w.heap.size w w2 := (((Below.refl _ w).alloc (Nat.le_refl _) _).alloc (by simp) _).trans (hbc.mono (by simp; omega))
          clear q0 q1 hbc
          go_wp2_with fail
          refine (HF4.out _).mono ?_
          rintro e w3 ⟨rfl, hb2⟩
          obtain ⟨hc2, hf2⟩ := bcell hb2
          have x0 := (hc2 (w.heap.size + 1) 0 (by simp; omega))
          have x1 := (hc2 (w.heap.size + 1) 1 (by simp; omega))
          have x2 := (hc2 (w.heap.size + 1) 2 (by simp; omega))
          have x3 := (hc2 (w.heap.size + 1) 3 (by simp; omega))
          have y0 := (hf2 (w.heap.size + 1) 0 (by simp; omega))
          have hz2 : w.heap.size + 1 < w3.heap.size := by have := hb2.size; simp at this; omega
          have hbx : Below w.heap.size w w3 := (hbw.alloc (by omega) _).trans (hb2.mono (by simp; omega))
          clear hb2
          clear HF4
          go_wp2
          all_goals (
            (try go_wp2)
            (try simp only [Exit.inBlock, Exit.then])
            refine bodyPost_ret (v := .tuple #[.agg #[.string s, .int .i64 (k), .int .i64 (F.a), .int .i64 (F.e)], .int .i64 0]) ?_ rfl ⟨rfl, by (repeat' (first | (with_reducible exact Below.refl _ _) | (with_reducible assumption) | (with_reducible refine below_drewN ?_ _) | (with_reducible refine Below.alloc ?_ ?_ _) | (with_reducible refine Below.drew ?_) | (with_reducible refine Below.setCell ?_ ?_ _) | go_size))⟩
            rw [results_cell_r2 rfl]
            go_simp)
        · have hb1 : hi < n := by omega
          clear hb
          go_enter Tryd.func47, Tryd.ntmps47
          go_wp2_with fail
          refine (HBd.out _).mono ?_
          rintro e w0 ⟨rfl, rfl⟩
          go_wp2_with fail
          refine (HNm1.out _).mono ?_
          rintro e w0 ⟨A, nn, rfl, hnn, hb0'⟩
          have hnn' : (0 : Int) < (nn : Int) := by omega
          have HB0 := Lib.hid hb0'
          obtain ⟨q0, q1, f0, f1⟩ := rv_cells s w hb0'
          have c0 := q0 0 _ rfl
          have c1 := q0 1 _ rfl
          have c2 := q0 2 _ rfl
          have c3 := q0 3 _ rfl
          have r0 := q1 0 _ rfl
          have r1 := q1 1 _ rfl
          have r2 := q1 2 _ rfl
          have r3 := q1 3 _ rfl
          have hz1 : w.heap.size + 1 < w0.heap.size := by have := hb0'.size; simp at this; omega
          have hz0 : w.heap.size < w0.heap.size := by omega
          have hbw : Below w.heap.size w w0 := (((Below.refl _ w).alloc (Nat.le_refl _) _).alloc (by simp) _).trans (hb0'.mono (by simp; omega))
          clear q0 q1 hb0'
          go_wp2_with fail
          refine (HD.out _).mono ?_
          rintro e w1 ⟨rfl, hbn0⟩
          have hbc0 := bthen HB0.out hbn0 HB0.out.size
          have HB := Lib.hid hbc0
          clear c0 c1 c2 c3 r0 r1 r2 r3 f0 f1 hz1 hz0 hbw
          clear HB0 hbn0
          obtain ⟨q0, q1, f0, f1⟩ := rv_cells s w hbc0
          have c0 := q0 0 _ rfl
          have c1 := q0 1 _ rfl
          have c2 := q0 2 _ rfl
          have c3 := q0 3 _ rfl
          have r0 := q1 0 _ rfl
          have r1 := q1 1 _ rfl
          have r2 := q1 2 _ rfl
          have r3 := q1 3 _ rfl
          have hz1 : w.heap.size + 1 < w1.heap.size := by have := hbc0.size; simp at this; omega
          have hz0 : w.heap.size < w1.heap.size := by omega
          have hbw : Below w.heap.size w w1 := (((Below.refl _ w).alloc (Nat.le_refl _) _).alloc (by simp) _).trans (hbc0.mono (by simp; omega))
          clear q0 q1 hbc0
          go_wp2_with fail
          refine (HN.out _).mono ?_
          rintro e w2 ⟨rfl, hbn⟩
          have hbc := bthen HB.out hbn HB.out.size
          clear c0 c1 c2 c3 r0 r1 r2 r3 f0 f1 hz1 hz0 hbw
          clear HB HN hbn
          obtain ⟨q0, q1, f0, f1⟩ := rv_cells s w hbc
          have c0 := q0 0 _ rfl
          have c1 := q0 1 _ rfl
          have c2 := q0 2 _ rfl
          have c3 := q0 3 _ rfl
          have r0 := q1 0 _ rfl
          have r1 := q1 1 _ rfl
          have r2 := q1 2 _ rfl
          have r3 := q1 3 _ rfl
          have hz1 : w.heap.size + 1 < w2.heap.size := by have := hbc.size; simp at this; omega
          have hz0 : w.heap.size < w2.heap.size := by omega
          have hbw : Below w.heap.size w w2 := (((Below.refl _ w).alloc (Nat.le_refl _) _).alloc (by simp) _).trans (hbc.mono (by simp; omega))
          clear q0 q1 hbc
          go_wp2_with fail
          refine (HF4.out _).mono ?_
          rintro e w3 ⟨rfl, hb2⟩
          obtain ⟨hc2, hf2⟩ := bcell hb2
          have x0 := (hc2 (w.heap.size + 1) 0 (by simp; omega))
          have x1 := (hc2 (w.heap.size + 1) 1 (by simp; omega))
          have x2 := (hc2 (w.heap.size + 1) 2 (by simp; omega))
          have x3 := (hc2 (w.heap.size + 1) 3 (by simp; omega))
          have y0 := (hf2 (w.heap.size + 1) 0 (by simp; omega))
          have hz2 : w.heap.size + 1 < w3.heap.size := by have := hb2.size; simp at this; omega
          have hbx : Below w.heap.size w w3 := (hbw.alloc (by omega) _).trans (hb2.mono (by simp; omega))
          clear hb2
          clear HF4
          go_wp2
          all_goals (
            (try go_wp2)
            (try simp only [Exit.inBlock, Exit.then])
            refine bodyPost_ret (v := .tuple #[.agg #[.string s, .int .i64 (k), .int .i64 (F.a), .int .i64 (F.e)], .int .i64 0]) ?_ rfl ⟨rfl, by (repeat' (first | (with_reducible exact Below.refl _ _) | (with_reducible assumption) | (with_reducible refine below_drewN ?_ _) | (with_reducible refine Below.alloc ?_ ?_ _) | (with_reducible refine Below.drew ?_) | (with_reducible refine Below.setCell ?_ ?_ _) | go_size))⟩
            rw [results_cell_r2 rfl]
            go_simp)
      · rw [if_neg (fun h => hb h.2)]
        have hb0 : ¬ n < lo := by omega
        have hb1 : ¬ hi < n := by omega
        dsimp only
        generalize atP s.size X = jX at *
        clear hl ha hσ hX hb HF4
        go_enter Tryd.func47, Tryd.ntmps47
        go_wp2_with fail
        refine (HBd.out _).mono ?_
        rintro e w0 ⟨rfl, rfl⟩
        go_wp2_with fail
        refine (HNm1.out _).mono ?_
        rintro e w0 ⟨A, nn, rfl, hnn, hb0'⟩
        have hnn' : (0 : Int) < (nn : Int) := by omega
        have HB0 := Lib.hid hb0'
        obtain ⟨q0, q1, f0, f1⟩ := rv_cells s w hb0'
        have c0 := q0 0 _ rfl
        have c1 := q0 1 _ rfl
        have c2 := q0 2 _ rfl
        have c3 := q0 3 _ rfl
        have r0 := q1 0 _ rfl
        have r1 := q1 1 _ rfl
        have r2 := q1 2 _ rfl
        have r3 := q1 3 _ rfl
        have hz1 : w.heap.size + 1 < w0.heap.size := by have := hb0'.size; simp at this; omega
        have hz0 : w.heap.size < w0.heap.size := by omega
        have hbw : Below w.heap.size w w0 := (((Below.refl _ w).alloc (Nat.le_refl _) _).alloc (by simp) _).trans (hb0'.mono (by simp; omega))
        clear q0 q1 hb0'
        go_wp2_with fail
        refine (HD.out _).mono ?_
        rintro e w1 ⟨rfl, hbn0⟩
        have hbc0 := bthen HB0.out hbn0 HB0.out.size
        have HB := Lib.hid hbc0
        clear c0 c1 c2 c3 r0 r1 r2 r3 f0 f1 hz1 hz0 hbw
        clear HB0 hbn0
        obtain ⟨q0, q1, f0, f1⟩ := rv_cells s w hbc0
        have c0 := q0 0 _ rfl
        have c1 := q0 1 _ rfl
        have c2 := q0 2 _ rfl
        have c3 := q0 3 _ rfl
        have r0 := q1 0 _ rfl
        have r1 := q1 1 _ rfl
        have r2 := q1 2 _ rfl
        have r3 := q1 3 _ rfl
        have hz1 : w.heap.size + 1 < w1.heap.size := by have := hbc0.size; simp at this; omega
        have hz0 : w.heap.size < w1.heap.size := by omega
        have hbw : Below w.heap.size w w1 := (((Below.refl _ w).alloc (Nat.le_refl _) _).alloc (by simp) _).trans (hbc0.mono (by simp; omega))
        clear q0 q1 hbc0
        go_wp2_with fail
        refine (HN.out _).mono ?_
        rintro e w2 ⟨rfl, hbn⟩
        have hbc := bthen HB.out hbn HB.out.size
        clear c0 c1 c2 c3 r0 r1 r2 r3 f0 f1 hz1 hz0 hbw
        clear HB HN hbn
        obtain ⟨q0, q1, f0, f1⟩ := rv_cells s w hbc
        have c0 := q0 0 _ rfl
        have c1 := q0 1 _ rfl
        have c2 := q0 2 _ rfl
        have c3 := q0 3 _ rfl
        have r0 := q1 0 _ rfl
        have r1 := q1 1 _ rfl
        have r2 := q1 2 _ rfl
        have r3 := q1 3 _ rfl
        have hz1 : w.heap.size + 1 < w2.heap.size := by have := hbc.size; simp at this; omega
        have hz0 : w.heap.size < w2.heap.size := by omega
        have hbw : Below w.heap.size w w2 := (((Below.refl _ w).alloc (Nat.le_refl _) _).alloc (by simp) _).trans (hbc.mono (by simp; omega))
        clear q0 q1 hbc
        go_wp2
        all_goals (
          (try go_wp2)
          (try simp only [Exit.inBlock, Exit.then])
          refine bodyPost_ret (v := .tuple #[.agg #[.string s, .int .i64 (jX), .int .i64 (X.a), .int .i64 (X.e)], .int .i64 n]) ?_ rfl ⟨rfl, by (repeat' (first | (with_reducible exact Below.refl _ _) | (with_reducible assumption) | (with_reducible refine below_drewN ?_ _) | (with_reducible refine Below.alloc ?_ ?_ _) | (with_reducible refine Below.drew ?_) | (with_reducible refine Below.setCell ?_ ?_ _) | go_size))⟩
          rw [results_cell_r2 rfl]
          go_simp)
    | false =>
      rw [if_neg (by simp)]
      dsimp only
      generalize atP s.size X = jX at *
      clear hl ha hσ hX HF4
      go_enter Tryd.func47, Tryd.ntmps47
      go_wp2_with fail
      refine (HBd.out _).mono ?_
      rintro e w0 ⟨rfl, rfl⟩
      go_wp2_with fail
      refine (HNm1.out _).mono ?_
      rintro e w0 ⟨A, nn, rfl, hnn, hb0'⟩
      have hnn' : (0 : Int) < (nn : Int) := by omega
      have HB0 := Lib.hid hb0'
      obtain ⟨q0, q1, f0, f1⟩ := rv_cells s w hb0'
      have c0 := q0 0 _ rfl
      have c1 := q0 1 _ rfl
      have c2 := q0 2 _ rfl
      have c3 := q0 3 _ rfl
      have r0 := q1 0 _ rfl
      have r1 := q1 1 _ rfl
      have r2 := q1 2 _ rfl
      have r3 := q1 3 _ rfl
      have hz1 : w.heap.size + 1 < w0.heap.size := by have := hb0'.size; simp at this; omega
      have hz0 : w.heap.size < w0.heap.size := by omega
      have hbw : Below w.heap.size w w0 := (((Below.refl _ w).alloc (Nat.le_refl _) _).alloc (by simp) _).trans (hb0'.mono (by simp; omega))
      clear q0 q1 hb0'
      go_wp2_with fail
      refine (HD.out _).mono ?_
      rintro e w1 ⟨rfl, hbn0⟩
      have hbc0 := bthen HB0.out hbn0 HB0.out.size
      have HB := Lib.hid hbc0
      clear c0 c1 c2 c3 r0 r1 r2 r3 f0 f1 hz1 hz0 hbw
      clear HB0 hbn0
      obtain ⟨q0, q1, f0, f1⟩ := rv_cells s w hbc0
      have c0 := q0 0 _ rfl
      have c1 := q0 1 _ rfl
      have c2 := q0 2 _ rfl
      have c3 := q0 3 _ rfl
      have r0 := q1 0 _ rfl
      have r1 := q1 1 _ rfl
      have r2 := q1 2 _ rfl
      have r3 := q1 3 _ rfl
      have hz1 : w.heap.size + 1 < w1.heap.size := by have := hbc0.size; simp at this; omega
      have hz0 : w.heap.size < w1.heap.size := by omega
      have hbw : Below w.heap.size w w1 := (((Below.refl _ w).alloc (Nat.le_refl _) _).alloc (by simp) _).trans (hbc0.mono (by simp; omega))
      clear q0 q1 hbc0
      go_wp2_with fail
      refine (HN.out _).mono ?_
      rintro e w2 ⟨rfl, hbn⟩
      have hbc := bthen HB.out hbn HB.out.size
      clear c0 c1 c2 c3 r0 r1 r2 r3 f0 f1 hz1 hz0 hbw
      clear HB HN hbn
      obtain ⟨q0, q1, f0, f1⟩ := rv_cells s w hbc
      have c0 := q0 0 _ rfl
      have c1 := q0 1 _ rfl
      have c2 := q0 2 _ rfl
      have c3 := q0 3 _ rfl
      have r0 := q1 0 _ rfl
      have r1 := q1 1 _ rfl
      have r2 := q1 2 _ rfl
      have r3 := q1 3 _ rfl
      have hz1 : w.heap.size + 1 < w2.heap.size := by have := hbc.size; simp at this; omega
      have hz0 : w.heap.size < w2.heap.size := by omega
      have hbw : Below w.heap.size w w2 := (((Below.refl _ w).alloc (Nat.le_refl _) _).alloc (by simp) _).trans (hbc.mono (by simp; omega))
      clear q0 q1 hbc
      go_wp2
      all_goals (
        (try go_wp2)
        (try simp only [Exit.inBlock, Exit.then])
        refine bodyPost_ret (v := .tuple #[.agg #[.string s, .int .i64 (jX), .int .i64 (X.a), .int .i64 (X.e)], .int .i64 n]) ?_ rfl ⟨rfl, by (repeat' (first | (with_reducible exact Below.refl _ _) | (with_reducible assumption) | (with_reducible refine below_drewN ?_ _) | (with_reducible refine Below.alloc ?_ ?_ _) | (with_reducible refine Below.drew ?_) | (with_reducible refine Below.setCell ?_ ?_ _) | go_size))⟩
        rw [results_cell_r2 rfl]
        go_simp)
  · have HNm1 : Hid (∀ W, Calls Tryd.prog 59 #[.int .i64 (f : Int)] W (RetNm W)) := by
      intro W
      refine (HNm.out W).mono ?_
      rintro e w' ⟨A, n, rfl, ⟨_, _, h⟩ | ⟨B, _, rfl, h, _⟩, hb, _⟩
      · exact absurd h h1
      · exact ⟨A, _, rfl, List.length_pos_iff.2 h, hb⟩
    rw [h2] at HD
    have HCl := Lib.hid (fun W => rclass_at s[k] 2 W)
    rw [show clsP 2 s[k] = false from h3 hlt] at HCl
    have hk' : (k : Int) < (s.size : Int) := by omega
    clear HNm h1 h2 h3
    cases ok with
    | true =>
      by_cases hb : n < lo ∨ hi < n
      · rw [if_pos ⟨rfl, hb⟩]
        dsimp only
        rw [hX]
        clear hl ha hσ hX
        by_cases hb0 : n < lo
        · clear hb
          go_enter Tryd.func47, Tryd.ntmps47
          go_wp2_with fail
          refine (HBd.out _).mono ?_
          rintro e w0 ⟨rfl, rfl⟩
          go_wp2_with fail
          refine (HNm1.out _).mono ?_
          rintro e w0 ⟨A, nn, rfl, hnn, hb0'⟩
          have hnn' : (0 : Int) < (nn : Int) := by omega
          have HB0 := Lib.hid hb0'
          obtain ⟨q0, q1, f0, f1⟩ := rv_cells s w hb0'
          have c0 := q0 0 _ rfl
          have c1 := q0 1 _ rfl
          have c2 := q0 2 _ rfl
          have c3 := q0 3 _ rfl
          have r0 := q1 0 _ rfl
          have r1 := q1 1 _ rfl
          have r2 := q1 2 _ rfl
          have r3 := q1 3 _ rfl
          have hz1 : w.heap.size + 1 < w0.heap.size := by have := hb0'.size; simp at this; omega
          have hz0 : w.heap.size < w0.heap.size := by omega
          have hbw : Below w.heap.size w w0 := (((Below.refl _ w).alloc (Nat.le_refl _) _).alloc (by simp) _).trans (hb0'.mono (by simp; omega))
          clear q0 q1 hb0'
          go_wp2_with fail
          refine (HD.out _).mono ?_
          rintro e w1 ⟨rfl, hbn0⟩
          have hbc0 := bthen HB0.out hbn0 HB0.out.size
          have HB1 := Lib.hid hbc0
          clear c0 c1 c2 c3 r0 r1 r2 r3 f0 f1 hz1 hz0 hbw
          clear HB0 hbn0
          obtain ⟨q0, q1, f0, f1⟩ := rv_cells s w hbc0
          have c0 := q0 0 _ rfl
          have c1 := q0 1 _ rfl
          have c2 := q0 2 _ rfl
          have c3 := q0 3 _ rfl
          have r0 := q1 0 _ rfl
          have r1 := q1 1 _ rfl
          have r2 := q1 2 _ rfl
          have r3 := q1 3 _ rfl
          have hz1 : w.heap.size + 1 < w1.heap.size := by have := hbc0.size; simp at this; omega
          have hz0 : w.heap.size < w1.heap.size := by omega
          have hbw : Below w.heap.size w w1 := (((Below.refl _ w).alloc (Nat.le_refl _) _).alloc (by simp) _).trans (hbc0.mono (by simp; omega))
          clear q0 q1 hbc0
          go_wp2_with fail
          refine (HCl.out _).mono ?_
          rintro e w1' ⟨rfl, hbn1⟩
          have hbc1 := bthen HB1.out hbn1 HB1.out.size
          have HB := Lib.hid hbc1
          clear c0 c1 c2 c3 r0 r1 r2 r3 f0 f1 hz1 hz0 hbw
          clear HB1 hbn1
          obtain ⟨q0, q1, f0, f1⟩ := rv_cells s w hbc1
          have c0 := q0 0 _ rfl
          have c1 := q0 1 _ rfl
          have c2 := q0 2 _ rfl
          have c3 := q0 3 _ rfl
          have r0 := q1 0 _ rfl
          have r1 := q1 1 _ rfl
          have r2 := q1 2 _ rfl
          have r3 := q1 3 _ rfl
          have hz1 : w.heap.size + 1 < w1'.heap.size := by have := hbc1.size; simp at this; omega
          have hz0 : w.heap.size < w1'.heap.size := by omega
          have hbw : Below w.heap.size w w1' := (((Below.refl _ w).alloc (Nat.le_refl _) _).alloc (by simp) _).trans (hbc1.mono (by simp; omega))
          clear q0 q1 hbc1
          go_wp2_with fail
          refine (HN.out _).mono ?_
          rintro e w2 ⟨rfl, hbn⟩
          have hbc := bthen HB.out hbn HB.out.size
          clear c0 c1 c2 c3 r0 r1 r2 r3 f0 f1 hz1 hz0 hbw
          clear HB HN hbn
          obtain ⟨q0, q1, f0, f1⟩ := rv_cells s w hbc
          have c0 := q0 0 _ rfl
          have c1 := q0 1 _ rfl
          have c2 := q0 2 _ rfl
          have c3 := q0 3 _ rfl
          have r0 := q1 0 _ rfl
          have r1 := q1 1 _ rfl
          have r2 := q1 2 _ rfl
          have r3 := q1 3 _ rfl
          have hz1 : w.heap.size + 1 < w2.heap.size := by have := hbc.size; simp at this; omega
          have hz0 : w.heap.size < w2.heap.size := by omega
          have hbw : Below w.heap.size w w2 := (((Below.refl _ w).alloc (Nat.le_refl _) _).alloc (by simp) _).trans (hbc.mono (by simp; omega))
          clear q0 q1 hbc
          go_wp2_with fail
          refine (HF4.out _).mono ?_
          rintro e w3 ⟨rfl, hb2⟩
          obtain ⟨hc2, hf2⟩ := bcell hb2
          have x0 := (hc2 (w.heap.size + 1) 0 (by simp; omega))
          have x1 := (hc2 (w.heap.size + 1) 1 (by simp; omega))
          have x2 := (hc2 (w.heap.size + 1) 2 (by simp; omega))
          have x3 := (hc2 (w.heap.size + 1) 3 (by simp; omega))
          have y0 := (hf2 (w.heap.size + 1) 0 (by simp; omega))
          have hz2 : w.heap.size + 1 < w3.heap.size := by have := hb2.size; simp at this; omega
          have hbx : Below w.heap.size w w3 := (hbw.alloc (by omega) _).trans (hb2.mono (by simp; omega))
          clear hb2
          clear HF4
          go_wp2
          all_goals (
            (try go_wp2)
            (try simp only [Exit.inBlock, Exit.then])
            refine bodyPost_ret (v := .tuple #[.agg #[.string s, .int .i64 (k), .int .i64 (F.a), .int .i64 (F.e)], .int .i64 0]) ?_ rfl ⟨rfl, by (repeat' (first | (with_reducible exact Below.refl _ _) | (with_reducible assumption) | (with_reducible refine below_drewN ?_ _) | (with_reducible refine Below.alloc ?_ ?_ _) | (with_reducible refine Below.drew ?_) | (with_reducible refine Below.setCell ?_ ?_ _) | go_size))⟩
            rw [results_cell_r2 rfl]
            go_simp)
        · have hb1 : hi < n := by omega
          clear hb
          go_enter Tryd.func47, Tryd.ntmps47
          go_wp2_with fail
          refine (HBd.out _).mono ?_
          rintro e w0 ⟨rfl, rfl⟩
          go_wp2_with fail
          refine (HNm1.out _).mono ?_
          rintro e w0 ⟨A, nn, rfl, hnn, hb0'⟩
          have hnn' : (0 : Int) < (nn : Int) := by omega
          have HB0 := Lib.hid hb0'
          obtain ⟨q0, q1, f0, f1⟩ := rv_cells s w hb0'
          have c0 := q0 0 _ rfl
          have c1 := q0 1 _ rfl
          have c2 := q0 2 _ rfl
          have c3 := q0 3 _ rfl
          have r0 := q1 0 _ rfl
          have r1 := q1 1 _ rfl
          have r2 := q1 2 _ rfl
          have r3 := q1 3 _ rfl
          have hz1 : w.heap.size + 1 < w0.heap.size := by have := hb0'.size; simp at this; omega
          have hz0 : w.heap.size < w0.heap.size := by omega
          have hbw : Below w.heap.size w w0 := (((Below.refl _ w).alloc (Nat.le_refl _) _).alloc (by simp) _).trans (hb0'.mono (by simp; omega))
          clear q0 q1 hb0'
          go_wp2_with fail
          refine (HD.out _).mono ?_
          rintro e w1 ⟨rfl, hbn0⟩
          have hbc0 := bthen HB0.out hbn0 HB0.out.size
          have HB1 := Lib.hid hbc0
          clear c0 c1 c2 c3 r0 r1 r2 r3 f0 f1 hz1 hz0 hbw
          clear HB0 hbn0
          obtain ⟨q0, q1, f0, f1⟩ := rv_cells s w hbc0
          have c0 := q0 0 _ rfl
          have c1 := q0 1 _ rfl
          have c2 := q0 2 _ rfl
          have c3 := q0 3 _ rfl
          have r0 := q1 0 _ rfl
          have r1 := q1 1 _ rfl
          have r2 := q1 2 _ rfl
          have r3 := q1 3 _ rfl
          have hz1 : w.heap.size + 1 < w1.heap.size := by have := hbc0.size; simp at this; omega
          have hz0 : w.heap.size < w1.heap.size := by omega
          have hbw : Below w.heap.size w w1 := (((Below.refl _ w).alloc (Nat.le_refl _) _).alloc (by simp) _).trans (hbc0.mono (by simp; omega))
          clear q0 q1 hbc0
          go_wp2_with fail
          refine (HCl.out _).mono ?_
          rintro e w1' ⟨rfl, hbn1⟩
          have hbc1 := bthen HB1.out hbn1 HB1.out.size
          have HB := Lib.hid hbc1
          clear c0 c1 c2 c3 r0 r1 r2 r3 f0 f1 hz1 hz0 hbw
          clear HB1 hbn1
          obtain ⟨q0, q1, f0, f1⟩ := rv_cells s w hbc1
          have c0 := q0 0 _ rfl
          have c1 := q0 1 _ rfl
          have c2 := q0 2 _ rfl
          have c3 := q0 3 _ rfl
          have r0 := q1 0 _ rfl
          have r1 := q1 1 _ rfl
          have r2 := q1 2 _ rfl
          have r3 := q1 3 _ rfl
          have hz1 : w.heap.size + 1 < w1'.heap.size := by have := hbc1.size; simp at this; omega
          have hz0 : w.heap.size < w1'.heap.size := by omega
          have hbw : Below w.heap.size w w1' := (((Below.refl _ w).alloc (Nat.le_refl _) _).alloc (by simp) _).trans (hbc1.mono (by simp; omega))
          clear q0 q1 hbc1
          go_wp2_with fail
          refine (HN.out _).mono ?_
          rintro e w2 ⟨rfl, hbn⟩
          have hbc := bthen HB.out hbn HB.out.size
          clear c0 c1 c2 c3 r0 r1 r2 r3 f0 f1 hz1 hz0 hbw
          clear HB HN hbn
          obtain ⟨q0, q1, f0, f1⟩ := rv_cells s w hbc
          have c0 := q0 0 _ rfl
          have c1 := q0 1 _ rfl
          have c2 := q0 2 _ rfl
          have c3 := q0 3 _ rfl
          have r0 := q1 0 _ rfl
          have r1 := q1 1 _ rfl
          have r2 := q1 2 _ rfl
          have r3 := q1 3 _ rfl
          have hz1 : w.heap.size + 1 < w2.heap.size := by have := hbc.size; simp at this; omega
          have hz0 : w.heap.size < w2.heap.size := by omega
          have hbw : Below w.heap.size w w2 := (((Below.refl _ w).alloc (Nat.le_refl _) _).alloc (by simp) _).trans (hbc.mono (by simp; omega))
          clear q0 q1 hbc
          go_wp2_with fail
          refine (HF4.out _).mono ?_
          rintro e w3 ⟨rfl, hb2⟩
          obtain ⟨hc2, hf2⟩ := bcell hb2
          have x0 := (hc2 (w.heap.size + 1) 0 (by simp; omega))
          have x1 := (hc2 (w.heap.size + 1) 1 (by simp; omega))
          have x2 := (hc2 (w.heap.size + 1) 2 (by simp; omega))
          have x3 := (hc2 (w.heap.size + 1) 3 (by simp; omega))
          have y0 := (hf2 (w.heap.size + 1) 0 (by simp; omega))
          have hz2 : w.heap.size + 1 < w3.heap.size := by have := hb2.size; simp at this; omega
          have hbx : Below w.heap.size w w3 := (hbw.alloc (by omega) _).trans (hb2.mono (by simp; omega))
          clear hb2
          clear HF4
          go_wp2
          all_goals (
            (try go_wp2)
            (try simp only [Exit.inBlock, Exit.then])
            refine bodyPost_ret (v := .tuple #[.agg #[.string s, .int .i64 (k), .int .i64 (F.a), .int .i64 (F.e)], .int .i64 0]) ?_ rfl ⟨rfl, by (repeat' (first | (with_reducible exact Below.refl _ _) | (with_reducible assumption) | (with_reducible refine below_drewN ?_ _) | (with_reducible refine Below.alloc ?_ ?_ _) | (with_reducible refine Below.drew ?_) | (with_reducible refine Below.setCell ?_ ?_ _) | go_size))⟩
            rw [results_cell_r2 rfl]
            go_simp)
      · rw [if_neg (fun h => hb h.2)]
        have hb0 : ¬ n < lo := by omega
        have hb1 : ¬ hi < n := by omega
        dsimp only
        generalize atP s.size X = jX at *
        clear hl ha hσ hX hb HF4
        go_enter Tryd.func47, Tryd.ntmps47
        go_wp2_with fail
        refine (HBd.out _).mono ?_
        rintro e w0 ⟨rfl, rfl⟩
        go_wp2_with fail
        refine (HNm1.out _).mono ?_
        rintro e w0 ⟨A, nn, rfl, hnn, hb0'⟩
        have hnn' : (0 : Int) < (nn : Int) := by omega
        have HB0 := Lib.hid hb0'
        obtain ⟨q0, q1, f0, f1⟩ := rv_cells s w hb0'
        have c0 := q0 0 _ rfl
        have c1 := q0 1 _ rfl
        have c2 := q0 2 _ rfl
        have c3 := q0 3 _ rfl
        have r0 := q1 0 _ rfl
        have r1 := q1 1 _ rfl
        have r2 := q1 2 _ rfl
        have r3 := q1 3 _ rfl
        have hz1 : w.heap.size + 1 < w0.heap.size := by have := hb0'.size; simp at this; omega
        have hz0 : w.heap.size < w0.heap.size := by omega
        have hbw : Below w.heap.size w w0 := (((Below.refl _ w).alloc (Nat.le_refl _) _).alloc (by simp) _).trans (hb0'.mono (by simp; omega))
        clear q0 q1 hb0'
        go_wp2_with fail
        refine (HD.out _).mono ?_
        rintro e w1 ⟨rfl, hbn0⟩
        have hbc0 := bthen HB0.out hbn0 HB0.out.size
        have HB1 := Lib.hid hbc0
        clear c0 c1 c2 c3 r0 r1 r2 r3 f0 f1 hz1 hz0 hbw
        clear HB0 hbn0
        obtain ⟨q0, q1, f0, f1⟩ := rv_cells s w hbc0
        have c0 := q0 0 _ rfl
        have c1 := q0 1 _ rfl
        have c2 := q0 2 _ rfl
        have c3 := q0 3 _ rfl
        have r0 := q1 0 _ rfl
        have r1 := q1 1 _ rfl
        have r2 := q1 2 _ rfl
        have r3 := q1 3 _ rfl
        have hz1 : w.heap.size + 1 < w1.heap.size := by have := hbc0.size; simp at this; omega
        have hz0 : w.heap.size < w1.heap.size := by omega
        have hbw : Below w.heap.size w w1 := (((Below.refl _ w).alloc (Nat.le_refl _) _).alloc (by simp) _).trans (hbc0.mono (by simp; omega))
        clear q0 q1 hbc0
        go_wp2_with fail
        refine (HCl.out _).mono ?_
        rintro e w1' ⟨rfl, hbn1⟩
        have hbc1 := bthen HB1.out hbn1 HB1.out.size
        have HB := Lib.hid hbc1
        clear c0 c1 c2 c3 r0 r1 r2 r3 f0 f1 hz1 hz0 hbw
        clear HB1 hbn1
        obtain ⟨q0, q1, f0, f1⟩ := rv_cells s w hbc1
        have c0 := q0 0 _ rfl
        have c1 := q0 1 _ rfl
        have c2 := q0 2 _ rfl
        have c3 := q0 3 _ rfl
        have r0 := q1 0 _ rfl
        have r1 := q1 1 _ rfl
        have r2 := q1 2 _ rfl
        have r3 := q1 3 _ rfl
        have hz1 : w.heap.size + 1 < w1'.heap.size := by have := hbc1.size; simp at this; omega
        have hz0 : w.heap.size < w1'.heap.size := by omega
        have hbw : Below w.heap.size w w1' := (((Below.refl _ w).alloc (Nat.le_refl _) _).alloc (by simp) _).trans (hbc1.mono (by simp; omega))
        clear q0 q1 hbc1
        go_wp2_with fail
        refine (HN.out _).mono ?_
        rintro e w2 ⟨rfl, hbn⟩
        have hbc := bthen HB.out hbn HB.out.size
        clear c0 c1 c2 c3 r0 r1 r2 r3 f0 f1 hz1 hz0 hbw
        clear HB HN hbn
        obtain ⟨q0, q1, f0, f1⟩ := rv_cells s w hbc
        have c0 := q0 0 _ rfl
        have c1 := q0 1 _ rfl
        have c2 := q0 2 _ rfl
        have c3 := q0 3 _ rfl
        have r0 := q1 0 _ rfl
        have r1 := q1 1 _ rfl
        have r2 := q1 2 _ rfl
        have r3 := q1 3 _ rfl
        have hz1 : w.heap.size + 1 < w2.heap.size := by have := hbc.size; simp at this; omega
        have hz0 : w.heap.size < w2.heap.size := by omega
        have hbw : Below w.heap.size w w2 := (((Below.refl _ w).alloc (Nat.le_refl _) _).alloc (by simp) _).trans (hbc.mono (by simp; omega))
        clear q0 q1 hbc
        go_wp2
        all_goals (
          (try go_wp2)
          (try simp only [Exit.inBlock, Exit.then])
          refine bodyPost_ret (v := .tuple #[.agg #[.string s, .int .i64 (jX), .int .i64 (X.a), .int .i64 (X.e)], .int .i64 n]) ?_ rfl ⟨rfl, by (repeat' (first | (with_reducible exact Below.refl _ _) | (with_reducible assumption) | (with_reducible refine below_drewN ?_ _) | (with_reducible refine Below.alloc ?_ ?_ _) | (with_reducible refine Below.drew ?_) | (with_reducible refine Below.setCell ?_ ?_ _) | go_size))⟩
          rw [results_cell_r2 rfl]
          go_simp)
    | false =>
      rw [if_neg (by simp)]
      dsimp only
      generalize atP s.size X = jX at *
      clear hl ha hσ hX HF4
      go_enter Tryd.func47, Tryd.ntmps47
      go_wp2_with fail
      refine (HBd.out _).mono ?_
      rintro e w0 ⟨rfl, rfl⟩
      go_wp2_with fail
      refine (HNm1.out _).mono ?_
      rintro e w0 ⟨A, nn, rfl, hnn, hb0'⟩
      have hnn' : (0 : Int) < (nn : Int) := by omega
      have HB0 := Lib.hid hb0'
      obtain ⟨q0, q1, f0, f1⟩ := rv_cells s w hb0'
      have c0 := q0 0 _ rfl
      have c1 := q0 1 _ rfl
      have c2 := q0 2 _ rfl
      have c3 := q0 3 _ rfl
      have r0 := q1 0 _ rfl
      have r1 := q1 1 _ rfl
      have r2 := q1 2 _ rfl
      have r3 := q1 3 _ rfl
      have hz1 : w.heap.size + 1 < w0.heap.size := by have := hb0'.size; simp at this; omega
      have hz0 : w.heap.size < w0.heap.size := by omega
      have hbw : Below w.heap.size w w0 := (((Below.refl _ w).alloc (Nat.le_refl _) _).alloc (by simp) _).trans (hb0'.mono (by simp; omega))
      clear q0 q1 hb0'
      go_wp2_with fail
      refine (HD.out _).mono ?_
      rintro e w1 ⟨rfl, hbn0⟩
      have hbc0 := bthen HB0.out hbn0 HB0.out.size
      have HB1 := Lib.hid hbc0
      clear c0 c1 c2 c3 r0 r1 r2 r3 f0 f1 hz1 hz0 hbw
      clear HB0 hbn0
      obtain ⟨q0, q1, f0, f1⟩ := rv_cells s w hbc0
      have c0 := q0 0 _ rfl
      have c1 := q0 1 _ rfl
      have c2 := q0 2 _ rfl
      have c3 := q0 3 _ rfl
      have r0 := q1 0 _ rfl
      have r1 := q1 1 _ rfl
      have r2 := q1 2 _ rfl
      have r3 := q1 3 _ rfl
      have hz1 : w.heap.size + 1 < w1.heap.size := by have := hbc0.size; simp at this; omega
      have hz0 : w.heap.size < w1.heap.size := by omega
      have hbw : Below w.heap.size w w1 := (((Below.refl _ w).alloc (Nat.le_refl _) _).alloc (by simp) _).trans (hbc0.mono (by simp; omega))
      clear q0 q1 hbc0
      go_wp2_with fail
      refine (HCl.out _).mono ?_
      rintro e w1' ⟨rfl, hbn1⟩
      have hbc1 := bthen HB1.out hbn1 HB1.out.size
      have HB := Lib.hid hbc1
      clear c0 c1 c2 c3 r0 r1 r2 r3 f0 f1 hz1 hz0 hbw
      clear HB1 hbn1
      obtain ⟨q0, q1, f0, f1⟩ := rv_cells s w hbc1
      have c0 := q0 0 _ rfl
      have c1 := q0 1 _ rfl
      have c2 := q0 2 _ rfl
      have c3 := q0 3 _ rfl
      have r0 := q1 0 _ rfl
      have r1 := q1 1 _ rfl
      have r2 := q1 2 _ rfl
      have r3 := q1 3 _ rfl
      have hz1 : w.heap.size + 1 < w1'.heap.size := by have := hbc1.size; simp at this; omega
      have hz0 : w.heap.size < w1'.heap.size := by omega
      have hbw : Below w.heap.size w w1' := (((Below.refl _ w).alloc (Nat.le_refl _) _).alloc (by simp) _).trans (hbc1.mono (by simp; omega))
      clear q0 q1 hbc1
      go_wp2_with fail
      refine (HN.out _).mono ?_
      rintro e w2 ⟨rfl, hbn⟩
      have hbc := bthen HB.out hbn HB.out.size
      clear c0 c1 c2 c3 r0 r1 r2 r3 f0 f1 hz1 hz0 hbw
      clear HB HN hbn
      obtain ⟨q0, q1, f0, f1⟩ := rv_cells s w hbc
      have c0 := q0 0 _ rfl
      have c1 := q0 1 _ rfl
      have c2 := q0 2 _ rfl
      have c3 := q0 3 _ rfl
      have r0 := q1 0 _ rfl
      have r1 := q1 1 _ rfl
      have r2 := q1 2 _ rfl
      have r3 := q1 3 _ rfl
      have hz1 : w.heap.size + 1 < w2.heap.size := by have := hbc.size; simp at this; omega
      have hz0 : w.heap.size < w2.heap.size := by omega
      have hbw : Below w.heap.size w w2 := (((Below.refl _ w).alloc (Nat.le_refl _) _).alloc (by simp) _).trans (hbc.mono (by simp; omega))
      clear q0 q1 hbc
      go_wp2
      all_goals (
        (try go_wp2)
        (try simp only [Exit.inBlock, Exit.then])
        refine bodyPost_ret (v := .tuple #[.agg #[.string s, .int .i64 (jX), .int .i64 (X.a), .int .i64 (X.e)], .int .i64 n]) ?_ rfl ⟨rfl, by (repeat' (first | (with_reducible exact Below.refl _ _) | (with_reducible assumption) | (with_reducible refine below_drewN ?_ _) | (with_reducible refine Below.alloc ?_ ?_ _) | (with_reducible refine Below.drew ?_) | (with_reducible refine Below.setCell ?_ ?_ _) | go_size))⟩
        rw [results_cell_r2 rfl]
        go_simp)
end
end Go.Proofs.YtpfcgjneeboamaaDoor
