/- The first fields of a line: their text. -/
import Derived.Test.YtgliminiiciflaaDoorRText
namespace Go.Proofs.YtgliminiiciflaaDoor
open Go.RowKit
set_option linter.unusedSimpArgs false
set_option linter.unusedVariables false

/-- The five fields, one behind the other. -/
def rowsOf (l : Nat → List It) : List (List It) := (List.range 5).map l
theorem rowsOf_eq (l : Nat → List It) : rowsOf l = [l 0, l 1, l 2, l 3, l 4] := rfl
theorem lineT_take {l : Nat → List It} {k : Nat} (hk : k < 5) : lineT ((rowsOf l).take (k + 1)) = (if k = 0 then [] else lineT ((rowsOf l).take k) ++ [32]) ++ fieldT (l k) := by
  have hx : (rowsOf l)[k]? = some (l k) := by unfold rowsOf; rw [List.getElem?_map, List.getElem?_range hk]; rfl
  rw [List.take_add_one, hx]
  unfold lineT
  rw [show (some (l k)).toList = [l k] from rfl, List.map_append, List.map_cons, List.map_nil, join_snoc]
  by_cases h0 : k = 0
  · subst h0; simp
  · have hl : (rowsOf l).length = 5 := rfl
    rw [if_neg h0, if_neg (by intro h; rw [List.map_eq_nil_iff, List.take_eq_nil_iff] at h; rcases h with h | h; (· omega); rw [h] at hl; simp at hl)]
end Go.Proofs.YtgliminiiciflaaDoor
