/- Arrays of ints that came in. -/
import Derived.Test.YtgliminiiciflaaDoorOpen
namespace Go.Proofs.YtgliminiiciflaaDoor
open Go.ChangeShapes Go.WideShapes Go.ChangeAt Go.RowKit Go.Deep
set_option linter.unusedSimpArgs false
set_option linter.unusedVariables false

section
variable {H : Type} {enc : TypeId × Value → H} {w : World} {base : Nat} {spare : Nat → Bool} {held : Bool}
theorem int_cells : Tryd.prog.cellsOf 3 = 1 := by kernel_rfl
theorem okWide_arr {P : Program} {r : Reach} {t e : TypeId} {n : Nat} {v : Value} (ht : P.underlying t = some (.array n e)) (h : Value.okWide P w r base t v) : ∃ cs, v = .agg cs ∧ cs.size = P.cellsOf t := by
  simp only [Value.okWide, ht] at h
  obtain ⟨cs, h1, h2, _⟩ := h
  exact ⟨cs, h1, h2⟩
theorem arr2_cells : Tryd.prog.cellsOf 123 = 2 := by kernel_rfl
set_option maxRecDepth 100000 in
theorem open_arr2 {fuel : Nat} {cs : Array Value} {x : DataW H × List MemPlace} (h : DataW.trod enc Tryd.prog w base spare held fuel 123 (Value.agg cs).cells.toList = some x) :
    ∃ x0 x1, cs = #[.int .i64 x0, .int .i64 x1] ∧ In64 x0 ∧ In64 x1 := by
  obtain ⟨xs, n, _, hx, hlen, hxl, hf⟩ := DataW.trod_array Tryd.underlying123 h
  rw [arr2_cells] at hlen
  obtain ⟨cs⟩ := cs
  change cs.length = 2 at hlen
  match cs, hlen with
  | [c0, c1], _ =>
    have i0 := hf 0 (by decide)
    have i1 := hf 1 (by decide)
    match xs, hxl with
    | [y0, y1], _ =>
      rw [int_cells] at i0 i1
      obtain ⟨k, e0, _, w0⟩ := DataW.trod_int Tryd.underlying3 i0
      obtain ⟨f, e1, _, w1⟩ := DataW.trod_int Tryd.underlying3 i1
      simp [Value.cells] at e0 e1
      subst e0 e1
      exact ⟨k, f, rfl, in64_of w0, in64_of w1⟩
end
end Go.Proofs.YtgliminiiciflaaDoor
