/- Arrays of three bytes that came in. -/
import Derived.Test.YtgliminiiciflaaDoorOpenArr
namespace Go.Proofs.YtgliminiiciflaaDoor
open Go.ChangeShapes Go.WideShapes Go.ChangeAt Go.RowKit Go.Deep
set_option linter.unusedSimpArgs false
set_option linter.unusedVariables false

section
variable {H : Type} {enc : TypeId × Value → H} {w : World} {base : Nat} {spare : Nat → Bool} {held : Bool}
theorem uint8_cells : Tryd.prog.cellsOf 5 = 1 := by kernel_rfl
theorem arr38_cells : Tryd.prog.cellsOf 46 = 3 := by kernel_rfl
set_option maxRecDepth 100000 in
theorem open_arr38 {fuel : Nat} {cs : Array Value} {x : DataW H × List MemPlace} (h : DataW.trod enc Tryd.prog w base spare held fuel 46 (Value.agg cs).cells.toList = some x) :
    ∃ x0 x1 x2 : Int, cs = #[.int .u8 x0, .int .u8 x1, .int .u8 x2] ∧ (0 ≤ x0 ∧ x0 ≤ 255) ∧ (0 ≤ x1 ∧ x1 ≤ 255) ∧ (0 ≤ x2 ∧ x2 ≤ 255) := by
  obtain ⟨xs, n, _, hx, hlen, hxl, hf⟩ := DataW.trod_array Tryd.underlying46 h
  rw [arr38_cells] at hlen
  obtain ⟨cs⟩ := cs
  change cs.length = 3 at hlen
  match cs, hlen with
  | [c0, c1, c2], _ =>
    have i0 := hf 0 (by decide)
    have i1 := hf 1 (by decide)
    have i2 := hf 2 (by decide)
    match xs, hxl with
    | [y0, y1, y2], _ =>
      rw [uint8_cells] at i0 i1 i2
      obtain ⟨k, e0, _, w0⟩ := DataW.trod_int Tryd.underlying5 i0
      obtain ⟨f, e1, _, w1⟩ := DataW.trod_int Tryd.underlying5 i1
      obtain ⟨t, e2, _, w2⟩ := DataW.trod_int Tryd.underlying5 i2
      simp [Value.cells] at e0 e1 e2
      subst e0 e1 e2
      exact ⟨k, f, t, rfl, by simpa [Lit.wf, IntKind.min, IntKind.max, IntKind.signed, IntKind.bits] using w0, by simpa [Lit.wf, IntKind.min, IntKind.max, IntKind.signed, IntKind.bits] using w1, by simpa [Lit.wf, IntKind.min, IntKind.max, IntKind.signed, IntKind.bits] using w2⟩
end
end Go.Proofs.YtgliminiiciflaaDoor
