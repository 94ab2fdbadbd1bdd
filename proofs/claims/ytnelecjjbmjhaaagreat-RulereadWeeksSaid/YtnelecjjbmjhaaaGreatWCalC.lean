/- The walks of package calread's reader: parts of a second, words, weekdays. -/
import Derived.Test.YtnelecjjbmjhaaaGreatWCalB
import Derived.Lib.IndexMore
namespace Go.Proofs.YtnelecjjbmjhaaaGreat
open Go.RowKit
set_option linter.unusedSimpArgs false
set_option linter.unusedVariables false

/-- The text that is left, as a string. -/
theorem left_data {s : ByteArray} {k : Nat} : (s.extract k s.size).data.toList = s.data.toList.drop k := by
  rw [extract_list, ← len_data, ← List.length_drop, List.take_length]
/-- The library's variable. -/
def MaxAt (w : World) : Prop := ∃ m : Int, w.cell? ⟨0, 0, none⟩ = some (.int .i64 m)
theorem MaxAt.below {w w' : World} (h : MaxAt w) (hb : Below w.heap.size w w') : MaxAt w' := by
  obtain ⟨m, hm⟩ := h
  exact ⟨m, (hb.cell (p := ⟨_, 0, none⟩) (World.block_lt_of_cell? w _ hm)).trans hm⟩
theorem MaxAt.chg {w w' : World} {b : Nat} {s : ByteArray} {σ : PS} (h : MaxAt w) (hr : RdP w b s σ) (hg : Chg b w w') : MaxAt w' := by
  obtain ⟨m, hm⟩ := h
  obtain ⟨k, _, _, hk⟩ := hr
  have hne : 0 ≠ b := by
    rintro rfl
    rw [hk.cells.1] at hm; cases hm
  exact ⟨m, hg.cell hne hm⟩
theorem index_blank (l : List UInt8) : (Lib.cut l [32]).1 = l.takeWhile (fun c => decide (c ≠ 32)) := by
  have hi : ∀ l : List UInt8, (Lib.index l [32] = -1 ∧ l.takeWhile (fun c => decide (c ≠ 32)) = l) ∨ (0 ≤ Lib.index l [32] ∧ l.take (Lib.index l [32]).toNat = l.takeWhile (fun c => decide (c ≠ 32))) := by
    intro l
    induction l with
    | nil => left; exact ⟨rfl, rfl⟩
    | cons c l ih =>
      unfold Lib.index
      by_cases hc : c = 32
      · subst hc
        right
        rw [if_pos (by simp [List.isPrefixOf])]
        exact ⟨by decide, by simp [List.takeWhile_cons]⟩
      · have hp : ([32] : List UInt8).isPrefixOf (c :: l) = false := by
          simp [List.isPrefixOf]; exact fun e => hc e.symm
        rw [hp, if_neg (by decide)]
        have ht : (c :: l).takeWhile (fun c => decide (c ≠ 32)) = c :: l.takeWhile (fun c => decide (c ≠ 32)) := by
          rw [List.takeWhile_cons, if_pos (by simpa using hc)]
        rw [ht]
        rcases ih with ⟨h1, h2⟩ | ⟨h1, h2⟩
        · left; rw [h1, h2]; exact ⟨by simp, rfl⟩
        · right
          rw [if_neg (by simp; omega)]
          refine ⟨by omega, ?_⟩
          rw [show (Lib.index l [32] + 1).toNat = (Lib.index l [32]).toNat + 1 from by omega, List.take_succ_cons, h2]
  unfold Lib.cut
  rcases hi l with ⟨h1, h2⟩ | ⟨h1, h2⟩
  · rw [if_neg (by omega), h2]
  · rw [if_pos h1, h2]
section
variable {w : World} {b : Nat} {s : ByteArray} {σ : PS} (hs : s.size ≤ 1000000)
include hs
end
end Go.Proofs.YtnelecjjbmjhaaaGreat
