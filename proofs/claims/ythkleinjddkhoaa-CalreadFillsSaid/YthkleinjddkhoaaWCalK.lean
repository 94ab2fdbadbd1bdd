/- The walks of package calread's reader: the words behind the weekdays. -/
import Derived.Test.YthkleinjddkhoaaWCalJ
import Derived.Test.YthkleinjddkhoaaWAny
namespace Go.Proofs.Ythkleinjddkhoaa
open Go.RowKit
set_option linter.unusedSimpArgs false
set_option linter.unusedVariables false

section
variable {w w' : World} {b C B : Nat} {s : ByteArray} {σ : PS} {c : CalV}
theorem cal_drewN {q : Nat} (h : CalAt w C B c) : CalAt (w.drewN q) C B c := h
theorem cal_drew (h : CalAt w C B c) : CalAt w.drew C B c := h
theorem Chg2.drewN2 (h : Chg2 b C w w') (q : Nat) : Chg2 b C w (w'.drewN q) := ⟨h.os, h.tape, h.output, h.size, h.block⟩
theorem Chg2.drew1 (h : Chg2 b C w w') : Chg2 b C w w'.drew := ⟨h.os, h.tape, h.output, h.size, h.block⟩
theorem MaxAt.chg2 (h : MaxAt w) (hr : RdP w b s σ) (hc : CalAt w C B c) (hg : Chg2 b C w w') : MaxAt w' := by
  obtain ⟨m, hm⟩ := h
  obtain ⟨k, _, _, hk⟩ := hr
  obtain ⟨g, h1, _, h3⟩ := hc
  have hne : 0 ≠ b := by
    rintro rfl
    rw [hk.cells.1] at hm; cases hm
  have hnC : 0 ≠ C := by
    rintro rfl
    rw [h1.1 0 (by decide)] at hm
    obtain ⟨A, n, cp, he⟩ := own_slice (h3 0 (by decide) (by decide)).1
    rw [he] at hm; cases hm
  exact ⟨m, hg.cell hne hnC hm⟩
theorem kwords_stops {N q : Nat} {date time : Bool} {c : CalV} {σ : PS} (h : peekP σ = 0 ∨ ltrI (peekP σ) = true ∨ time = true ∨ (date = true ∧ dashed (wordP σ) = true)) : kwordsP N q date time c σ = (kstopP N σ, c) := by
  cases q with
  | zero => rfl
  | succ q => rw [kwordsP, if_pos h]
theorem kwords_dates {N q : Nat} {date : Bool} {c : CalV} {σ : PS} (h : ¬ (peekP σ = 0 ∨ ltrI (peekP σ) = true ∨ false = true ∨ (date = true ∧ dashed (wordP σ) = true))) (hd : dashed (wordP σ) = true) : kwordsP N (q + 1) date false c σ =
    if (knextP N (kdateP N c σ).1).2 then kwordsP N q true false (kdateP N c σ).2 (knextP N (kdateP N c σ).1).1 else ((knextP N (kdateP N c σ).1).1, (kdateP N c σ).2) := by
  rw [kwordsP, if_neg h, if_pos hd]
theorem kwords_times {N q : Nat} {date : Bool} {c : CalV} {σ : PS} (h : ¬ (peekP σ = 0 ∨ ltrI (peekP σ) = true ∨ false = true ∨ (date = true ∧ dashed (wordP σ) = true))) (hd : dashed (wordP σ) = false) : kwordsP N (q + 1) date false c σ =
    if (knextP N (ktimeP N c σ).1).2 then kwordsP N q date true (ktimeP N c σ).2 (knextP N (ktimeP N c σ).1).1 else ((knextP N (ktimeP N c σ).1).1, (ktimeP N c σ).2) := by
  rw [kwordsP, if_neg h, if_neg (by rw [hd]; decide)]
end
end Go.Proofs.Ythkleinjddkhoaa
