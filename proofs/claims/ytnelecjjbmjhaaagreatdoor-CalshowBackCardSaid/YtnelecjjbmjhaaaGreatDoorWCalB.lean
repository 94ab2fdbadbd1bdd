/- The walks of package calread's reader: numbers, weekdays. -/
import Derived.Test.YtnelecjjbmjhaaaGreatDoorWCalA
import Derived.StillTailTactics
namespace Go.Proofs.YtnelecjjbmjhaaaGreatDoor
open Go.RowKit
set_option linter.unusedSimpArgs false
set_option linter.unusedVariables false

/-- The bounds of a field. -/
theorem bounds_row (f : Nat) (hf : f < 7) (w : World) : (Instr.index 217 (.agg #[.int .i64 1, .int .i64 7, .int .i64 1970, .int .i64 2369, .int .i64 1, .int .i64 12, .int .i64 1, .int .i64 31, .int .i64 0, .int .i64 23, .int .i64 0, .int .i64 59, .int .i64 0, .int .i64 59]) (.int .i64 (f : Int))).run Tryz.prog w = .ok (.agg #[.int .i64 (kLo f), .int .i64 (kHi f)]) w := by
  obtain rfl | rfl | rfl | rfl | rfl | rfl | rfl : f = 0 ∨ f = 1 ∨ f = 2 ∨ f = 3 ∨ f = 4 ∨ f = 5 ∨ f = 6 := by omega
  all_goals kernel_rfl
set_option maxRecDepth 20000 in
set_option maxHeartbeats 1000000 in
theorem kbounds_any (f : Nat) (hf : f < 7) (w : World) : Calls Tryz.prog 145 #[.int .i64 (f : Int)] w (Ret (.tuple #[.int .i64 (kLo f), .int .i64 (kHi f)]) w) := by
  have hix := fun W => bounds_row f hf W
  have h0 : (0 : Int) ≤ (f : Int) := by omega
  have h7 : (f : Int) < 7 := by omega
  generalize kLo (f : Int) = lo at *
  generalize kHi (f : Int) = hi at *
  go_enter Tryz.func145, Tryz.ntmps145
  go_wp2
  go_quiet (fail)
  go_wp2
  go_ret2
  exact ⟨rfl, by (repeat' (first | (with_reducible exact Below.refl _ _) | (with_reducible assumption) | (with_reducible refine below_drewN ?_ _) | (with_reducible refine Below.alloc ?_ ?_ _) | (with_reducible refine Below.drew ?_) | (with_reducible refine Below.setCell ?_ ?_ _) | go_size))⟩
section
variable {w : World} {b : Nat} {s : ByteArray} {σ : PS} (hs : s.size ≤ 1000000)
include hs
set_option maxRecDepth 20000 in
set_option maxHeartbeats 1000000 in
theorem knum_ps (f : Nat) (hf : f < 7) (h : RdP w b s σ) : Calls Tryz.prog 210 #[kV b s, .int .i64 (f : Int)] w (RetP (.int .i64 (knumP s.size f σ).2) b s (knumP s.size f σ).1 w) := by
  have hs9 : s.size ≤ 9223372036854775807 := by omega
  have hlt := h.lt
  have hne : ¬ w.heap.size = b := by omega
  have H := Lib.hid h
  have HA := Lib.hid (fun W (h : RdP W b s σ) => at_ps h)
  have HN := Lib.hid (fun W (h : RdP W b s σ) => number_ps hs9 (most := digs f) (by unfold digs; split <;> decide) h)
  have HR : Hid (knumP s.size f σ = if (numP s.size (digs f) σ).2.2 = true ∧ ((numP s.size (digs f) σ).2.1 < kLo f ∨ kHi f < (numP s.size (digs f) σ).2.1) then (failP (atP s.size σ) 4 (numP s.size (digs f) σ).1, (numP s.size (digs f) σ).2.1) else ((numP s.size (digs f) σ).1, (numP s.size (digs f) σ).2.1)) := rfl
  generalize knumP s.size f σ = R at *
  generalize atP s.size σ = at0 at *
  generalize numP s.size (digs f) σ = r at *
  obtain ⟨τ, n, ok⟩ := r
  dsimp only at *
  have HF := Lib.hid (fun W (h : RdP W b s τ) => fail_ps at0 4 h)
  have HB := Lib.hid (fun W => kbounds_any f hf W)
  generalize kLo (f : Int) = lo at *
  generalize kHi (f : Int) = hi at *
  have hd : Hid ((digs f : Int) = if f = 1 then 4 else 2) := by show _ = _; unfold digs; split <;> split <;> first | rfl | omega
  clear h
  by_cases h1 : f = 1
  · subst h1
    rw [if_pos rfl] at hd
    rw [hd.out] at HN
    go_enter Tryz.func210, Tryz.ntmps210
    go_wp2_with fail
    refine (HB.out _).mono ?_
    rintro e w1 ⟨rfl, hb1⟩
    obtain ⟨hc1, hf1⟩ := bcell hb1
    have hz1 : w.heap.size < w1.heap.size := by have := hb1.size; simp at this; omega
    have g1 : Chg b w w1 := (Chg.refl b w).alloc _ |>.trans (Chg.of_below hb1)
    have h1 : RdP w1 b s σ := (H.out.alloc _).below hb1
    go_wp2_with fail
    refine (HA.out _ h1).mono ?_
    rintro e w2 ⟨rfl, rfl⟩
    go_wp2_with fail
    refine (HN.out _ h1).mono ?_
    rintro e w3 ⟨rfl, h3, g3⟩
    obtain ⟨hc3, hf3⟩ := gcell g3
    have g13 := g1.trans g3
    cases ok with
    | false =>
      have HE : Hid (R = (τ, n)) := by show _ = _; rw [HR.out, if_neg (by rintro ⟨x, _⟩; cases x)]
      clear HR
      go_wp2
      go_ret
      exact ⟨by rw [HE.out]; rfl, by rw [HE.out]; exact h3, g13⟩
    | true =>
      by_cases hr : n < lo ∨ hi < n
      · have HE : Hid (R = (failP at0 4 τ, n)) := by show _ = _; rw [HR.out, if_pos ⟨rfl, hr⟩]
        clear HR
        rcases hr with hr | hr
        · go_wp2_with fail
          refine (HF.out _ h3).mono ?_
          rintro e w4 ⟨rfl, h4, g4⟩
          go_wp2
          go_ret
          exact ⟨by rw [HE.out]; rfl, by rw [HE.out]; exact h4, g13.trans g4⟩
        · by_cases hr2 : n < lo
          · go_wp2_with fail
            refine (HF.out _ h3).mono ?_
            rintro e w4 ⟨rfl, h4, g4⟩
            go_wp2
            go_ret
            exact ⟨by rw [HE.out]; rfl, by rw [HE.out]; exact h4, g13.trans g4⟩
          · go_wp2_with fail
            refine (HF.out _ h3).mono ?_
            rintro e w4 ⟨rfl, h4, g4⟩
            go_wp2
            go_ret
            exact ⟨by rw [HE.out]; rfl, by rw [HE.out]; exact h4, g13.trans g4⟩
      · have HE : Hid (R = (τ, n)) := by show _ = _; rw [HR.out, if_neg (by rintro ⟨_, x⟩; exact hr x)]
        have hr1 : ¬ n < lo := fun x => hr (.inl x)
        have hr2 : ¬ hi < n := fun x => hr (.inr x)
        clear HR hr
        go_wp2
        go_ret
        exact ⟨by rw [HE.out]; rfl, by rw [HE.out]; exact h3, g13⟩
  · have h1' : ((f : Int) == 1) = false := by simp; omega
    rw [if_neg h1] at hd
    rw [hd.out] at HN
    clear h1
    go_enter Tryz.func210, Tryz.ntmps210
    go_wp2_with fail
    refine (HB.out _).mono ?_
    rintro e w1 ⟨rfl, hb1⟩
    obtain ⟨hc1, hf1⟩ := bcell hb1
    have hz1 : w.heap.size < w1.heap.size := by have := hb1.size; simp at this; omega
    have g1 : Chg b w w1 := (Chg.refl b w).alloc _ |>.trans (Chg.of_below hb1)
    have h1 : RdP w1 b s σ := (H.out.alloc _).below hb1
    go_wp2_with fail
    refine (HA.out _ h1).mono ?_
    rintro e w2 ⟨rfl, rfl⟩
    go_wp2_with fail
    refine (HN.out _ h1).mono ?_
    rintro e w3 ⟨rfl, h3, g3⟩
    obtain ⟨hc3, hf3⟩ := gcell g3
    have g13 := g1.trans g3
    cases ok with
    | false =>
      have HE : Hid (R = (τ, n)) := by show _ = _; rw [HR.out, if_neg (by rintro ⟨x, _⟩; cases x)]
      clear HR
      go_wp2
      go_ret
      exact ⟨by rw [HE.out]; rfl, by rw [HE.out]; exact h3, g13⟩
    | true =>
      by_cases hr : n < lo ∨ hi < n
      · have HE : Hid (R = (failP at0 4 τ, n)) := by show _ = _; rw [HR.out, if_pos ⟨rfl, hr⟩]
        clear HR
        rcases hr with hr | hr
        · go_wp2_with fail
          refine (HF.out _ h3).mono ?_
          rintro e w4 ⟨rfl, h4, g4⟩
          go_wp2
          go_ret
          exact ⟨by rw [HE.out]; rfl, by rw [HE.out]; exact h4, g13.trans g4⟩
        · by_cases hr2 : n < lo
          · go_wp2_with fail
            refine (HF.out _ h3).mono ?_
            rintro e w4 ⟨rfl, h4, g4⟩
            go_wp2
            go_ret
            exact ⟨by rw [HE.out]; rfl, by rw [HE.out]; exact h4, g13.trans g4⟩
          · go_wp2_with fail
            refine (HF.out _ h3).mono ?_
            rintro e w4 ⟨rfl, h4, g4⟩
            go_wp2
            go_ret
            exact ⟨by rw [HE.out]; rfl, by rw [HE.out]; exact h4, g13.trans g4⟩
      · have HE : Hid (R = (τ, n)) := by show _ = _; rw [HR.out, if_neg (by rintro ⟨_, x⟩; exact hr x)]
        have hr1 : ¬ n < lo := fun x => hr (.inl x)
        have hr2 : ¬ hi < n := fun x => hr (.inr x)
        clear HR hr
        go_wp2
        go_ret
        exact ⟨by rw [HE.out]; rfl, by rw [HE.out]; exact h3, g13⟩
end
end Go.Proofs.YtnelecjjbmjhaaaGreatDoor
