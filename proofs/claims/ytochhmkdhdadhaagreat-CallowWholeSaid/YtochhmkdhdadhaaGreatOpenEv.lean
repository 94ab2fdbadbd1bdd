/- Arguments as data: what an event that came in reads as. -/
import Derived.Test.YtochhmkdhdadhaaGreatOpen
import Derived.Test.YtochhmkdhdadhaaGreatWCalS
namespace Go.Proofs.YtochhmkdhdadhaaGreat
open Go.ChangeShapes Go.WideShapes Go.ChangeAt Go.RowKit Go.Deep
set_option linter.unusedSimpArgs false
set_option linter.unusedVariables false

section
variable {H : Type} {enc : TypeId × Value → H} {w : World} {base : Nat} {spare : Nat → Bool} {held : Bool}
theorem ev_cells : Tryz.prog.cellsOf 24 = 8 := by kernel_rfl
set_option maxRecDepth 100000 in
/-- An event that came in. -/
theorem open_event {fuel : Nat} {cs : List Value} {x : DataW H × List MemPlace} (h : DataW.trod enc Tryz.prog w base spare held fuel 24 cs = some x) :
    ∃ (A : Nat → Option Addr) (n m : Nat → Nat) (c : CalV), cs = [.slice (A 0) (n 0) (m 0), .slice (A 1) (n 1) (m 1), .slice (A 2) (n 2) (m 2), .slice (A 3) (n 3) (m 3), .bool c.back, .slice (A 5) (n 5) (m 5), .slice (A 6) (n 6) (m 6), .slice (A 7) (n 7) (m 7)] ∧
      RdEv w A n c ∧ (∀ k, n k ≤ m k) ∧ (∀ k, m k ≤ maxLen) ∧ ∀ j, j < 7 → ∀ it ∈ kget c j, it.wf := by
  obtain ⟨xs, q, _, hx, hlen, hxl, hf⟩ := DataW.trod_struct Tryz.underlying24 h
  rw [ev_cells] at hlen
  match cs, hlen with
  | [c0, c1, c2, c3, c4, c5, c6, c7], _ =>
    have i0 := hf 0 _ rfl
    have i1 := hf 1 _ rfl
    have i2 := hf 2 _ rfl
    have i3 := hf 3 _ rfl
    have i4 := hf 4 _ rfl
    have i5 := hf 5 _ rfl
    have i6 := hf 6 _ rfl
    have i7 := hf 7 _ rfl
    have hl : xs.length = 8 := hxl
    match xs, hl with
    | [y0, y1, y2, y3, y4, y5, y6, y7], _ =>
      have one : Tryz.prog.cellsOf 22 = 1 := by kernel_rfl
      have oneb : Tryz.prog.cellsOf 4 = 1 := by kernel_rfl
      change DataW.trod enc Tryz.prog w base spare held q 22 (([c0, c1, c2, c3, c4, c5, c6, c7].drop 0).take (Tryz.prog.cellsOf 22)) = _ at i0
      change DataW.trod enc Tryz.prog w base spare held q 22 (([c0, c1, c2, c3, c4, c5, c6, c7].drop 1).take (Tryz.prog.cellsOf 22)) = _ at i1
      change DataW.trod enc Tryz.prog w base spare held q 22 (([c0, c1, c2, c3, c4, c5, c6, c7].drop 2).take (Tryz.prog.cellsOf 22)) = _ at i2
      change DataW.trod enc Tryz.prog w base spare held q 22 (([c0, c1, c2, c3, c4, c5, c6, c7].drop 3).take (Tryz.prog.cellsOf 22)) = _ at i3
      change DataW.trod enc Tryz.prog w base spare held q 4 (([c0, c1, c2, c3, c4, c5, c6, c7].drop 4).take (Tryz.prog.cellsOf 4)) = _ at i4
      change DataW.trod enc Tryz.prog w base spare held q 22 (([c0, c1, c2, c3, c4, c5, c6, c7].drop 5).take (Tryz.prog.cellsOf 22)) = _ at i5
      change DataW.trod enc Tryz.prog w base spare held q 22 (([c0, c1, c2, c3, c4, c5, c6, c7].drop 6).take (Tryz.prog.cellsOf 22)) = _ at i6
      change DataW.trod enc Tryz.prog w base spare held q 22 (([c0, c1, c2, c3, c4, c5, c6, c7].drop 7).take (Tryz.prog.cellsOf 22)) = _ at i7
      rw [one] at i0 i1 i2 i3 i5 i6 i7
      rw [oneb] at i4
      obtain ⟨A0, n0, k0, l0, e0, r0, p0, q0, z0, w0⟩ := open_items i0
      obtain ⟨A1, n1, k1, l1, e1, r1, p1, q1, z1, w1⟩ := open_items i1
      obtain ⟨A2, n2, k2, l2, e2, r2, p2, q2, z2, w2⟩ := open_items i2
      obtain ⟨A3, n3, k3, l3, e3, r3, p3, q3, z3, w3⟩ := open_items i3
      obtain ⟨bk, e4, _⟩ := DataW.trod_bool Tryz.underlying4 i4
      obtain ⟨A5, n5, k5, l5, e5, r5, p5, q5, z5, w5⟩ := open_items i5
      obtain ⟨A6, n6, k6, l6, e6, r6, p6, q6, z6, w6⟩ := open_items i6
      obtain ⟨A7, n7, k7, l7, e7, r7, p7, q7, z7, w7⟩ := open_items i7
      simp at e4
      subst e0 e1 e2 e3 e4 e5 e6 e7
      refine ⟨fun k => match k with | 0 => A0 | 1 => A1 | 2 => A2 | 3 => A3 | 5 => A5 | 6 => A6 | 7 => A7 | _ => none, fun k => match k with | 0 => n0 | 1 => n1 | 2 => n2 | 3 => n3 | 5 => n5 | 6 => n6 | 7 => n7 | _ => 0,
        fun k => match k with | 0 => k0 | 1 => k1 | 2 => k2 | 3 => k3 | 5 => k5 | 6 => k6 | 7 => k7 | _ => 0, ⟨l0, l1, l2, l3, bk, l5, l6, l7⟩, rfl, ?_, ?_, ?_, ?_⟩
      · intro j hj h4
        obtain rfl | rfl | rfl | rfl | rfl | rfl | rfl : j = 0 ∨ j = 1 ∨ j = 2 ∨ j = 3 ∨ j = 5 ∨ j = 6 ∨ j = 7 := by omega
        all_goals assumption
      · intro k
        dsimp only
        split
        all_goals first | assumption | exact Nat.le_refl _
      · intro k
        dsimp only
        split
        all_goals first | assumption | exact Nat.zero_le _
      · intro j hj
        obtain rfl | rfl | rfl | rfl | rfl | rfl | rfl : j = 0 ∨ j = 1 ∨ j = 2 ∨ j = 3 ∨ j = 4 ∨ j = 5 ∨ j = 6 := by omega
        all_goals assumption
end
end Go.Proofs.YtochhmkdhdadhaaGreat
