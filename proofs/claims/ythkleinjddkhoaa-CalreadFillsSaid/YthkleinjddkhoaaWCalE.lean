/- The walks of package calread's reader: an item of weekdays. -/
import Derived.Test.YthkleinjddkhoaaWCalD
import Derived.Test.YthkleinjddkhoaaWText
import Derived.Test.YthkleinjddkhoaaWBox
namespace Go.Proofs.Ythkleinjddkhoaa
open Go.RowKit
set_option linter.unusedSimpArgs false
set_option linter.unusedVariables false

section
variable {w : World} {b : Nat} {s : ByteArray} {σ : PS} (hs : s.size ≤ 1000000)
include hs
set_option maxRecDepth 20000 in
set_option maxHeartbeats 2000000 in
theorem days_ks (h : RdP w b s σ) : Calls Try.prog 22 #[kV b s] w (RetP (itV (daysP s.size σ).2) b s (daysP s.size σ).1 w) := by
  have hlt := h.lt
  have hne : ¬ w.heap.size = b := by omega
  have hne1 : ¬ w.heap.size + 1 = b := by omega
  have H := Lib.hid h
  have HW1 := Lib.hid (fun W (h : RdP W b s σ) => weekday_ks hs h)
  have HR : Hid (daysP s.size σ = if (textP dots (wkP s.size σ).1).2 then
      (if (wkP s.size (textP dots (wkP s.size σ).1).1).2 < (wkP s.size σ).2 then failP (atP s.size (textP dots (wkP s.size σ).1).1) 4 (wkP s.size (textP dots (wkP s.size σ).1).1).1 else (wkP s.size (textP dots (wkP s.size σ).1).1).1, ⟨2, (wkP s.size σ).2, (wkP s.size (textP dots (wkP s.size σ).1).1).2, 1⟩)
    else ((textP dots (wkP s.size σ).1).1, ⟨1, (wkP s.size σ).2, 0, 0⟩)) := rfl
  generalize daysP s.size σ = R at *
  generalize wkP s.size σ = x1 at *
  obtain ⟨τ1, n1⟩ := x1
  dsimp only at *
  have HT := Lib.hid (fun W (h : RdP W b s τ1) => text_ps (t := ⟨#[46, 46]⟩) hs (by decide) h)
  rw [show (⟨#[46, 46]⟩ : ByteArray).data.toList = dots from rfl] at HT
  generalize textP dots τ1 = x2 at *
  obtain ⟨τ2, yes⟩ := x2
  dsimp only at *
  have HW3 := Lib.hid (fun W (h : RdP W b s τ2) => weekday_ks hs h)
  have HA := Lib.hid (fun W (h : RdP W b s τ2) => at_ps h)
  generalize atP s.size τ2 = at2 at *
  generalize wkP s.size τ2 = x3 at *
  obtain ⟨τ3, n3⟩ := x3
  dsimp only at *
  have HF := Lib.hid (fun W (h : RdP W b s τ3) => fail_ps at2 4 h)
  clear h
  go_enter Try.func22, Try.ntmps22
  go_wp2_with fail
  refine (HW1.out _ ((H.out.alloc _).alloc _)).mono ?_
  rintro e w1 ⟨rfl, h1, g1⟩
  obtain ⟨hc1, hf1⟩ := gcell g1
  have hz1 : w.heap.size + 1 < w1.heap.size := by have := g1.size; simp at this; omega
  have hz1' : w.heap.size < w1.heap.size := by omega
  have hneI : ¬ w1.heap.size = b := by omega
  have g1' := (((Chg.refl b w).alloc _).alloc _).trans g1
  go_wp2_with fail
  refine (HT.out _ (h1.alloc _)).mono ?_
  rintro e w2 ⟨rfl, h2, g2⟩
  obtain ⟨hc2, hf2⟩ := gcell g2
  have g2' := (g1'.alloc _).trans g2
  have hz2 : w1.heap.size < w2.heap.size := by have := g2.size; simp at this; omega
  have hz2a : w.heap.size + 1 < w2.heap.size := by omega
  have hz2b : w.heap.size < w2.heap.size := by omega
  have hneRI : ¬ w.heap.size + 1 = w1.heap.size := by omega
  have hneIR : ¬ w1.heap.size = w.heap.size + 1 := by omega
  have hneBI : ¬ w.heap.size = w1.heap.size := by omega
  have hneIB : ¬ w1.heap.size = w.heap.size := by omega
  cases yes with
  | false =>
    have HE : Hid (R = (τ2, ⟨1, n1, 0, 0⟩)) := by show _ = _; rw [HR.out]; rfl
    clear HR
    go_wp2
    refine bodyPost_ret (v := itV ⟨1, n1, 0, 0⟩) ?_ rfl ⟨by rw [HE.out], ?_, ?_⟩
    · rw [results_cell1 rfl]
      go_simp
    · rw [HE.out]; exact h2.set4 hne1 _ _ _ _
    · exact g2'.set4 (by omega) _ _ _ _
  | true =>
    go_wp2_with fail
    refine (HA.out _ h2).mono ?_
    rintro e w3 ⟨rfl, rfl⟩
    go_wp2_with fail
    refine (HW3.out _ h2).mono ?_
    rintro e w3 ⟨rfl, h3, g3⟩
    obtain ⟨hc3, hf3⟩ := gcell g3
    have g3' := g2'.trans g3
    have hz3 : w1.heap.size < w3.heap.size := by have := g3.size; omega
    have hz3a : w.heap.size + 1 < w3.heap.size := by omega
    have hz3b : w.heap.size < w3.heap.size := by omega
    have h3' := ((h3.set (o := 0) hneI (.int .i64 2)).set (o := 2) hneI (.int .i64 n3)).set (o := 3) hneI (.int .i64 1)
    have g3'' := ((g3'.setNew (B := w1.heap.size) (o := 0) (v := .int .i64 2) (by omega)).setNew (B := w1.heap.size) (o := 2) (v := .int .i64 n3) (by omega)).setNew (B := w1.heap.size) (o := 3) (v := .int .i64 1) (by omega)
    by_cases hl : n3 < n1
    · have HE : Hid (R = (failP at2 4 τ3, ⟨2, n1, n3, 1⟩)) := by show _ = _; rw [HR.out, if_pos trivial, if_pos hl]
      clear HR
      go_wp2_with fail
      refine (HF.out _ h3').mono ?_
      rintro e w4 ⟨rfl, h4, g4⟩
      obtain ⟨hc4, hf4⟩ := gcell g4
      go_wp2
      refine bodyPost_ret (v := itV ⟨2, n1, n3, 1⟩) ?_ rfl ⟨by rw [HE.out], ?_, ?_⟩
      · rw [results_cell1 rfl]
        go_simp
      · rw [HE.out]; exact h4.set4 hne1 _ _ _ _
      · exact (g3''.trans g4).set4 (by omega) _ _ _ _
    · have HE : Hid (R = (τ3, ⟨2, n1, n3, 1⟩)) := by show _ = _; rw [HR.out, if_pos trivial, if_neg hl]
      clear HR
      go_wp2
      refine bodyPost_ret (v := itV ⟨2, n1, n3, 1⟩) ?_ rfl ⟨by rw [HE.out], ?_, ?_⟩
      · rw [results_cell1 rfl]
        go_simp
      · rw [HE.out]; exact h3'.set4 hne1 _ _ _ _
      · exact g3''.set4 (by omega) _ _ _ _
end
end Go.Proofs.Ythkleinjddkhoaa
