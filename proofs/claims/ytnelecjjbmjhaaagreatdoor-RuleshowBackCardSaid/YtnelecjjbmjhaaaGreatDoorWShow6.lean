/- The walk of cronshow.Field: texts collected, and joined. -/
import Derived.Test.YtnelecjjbmjhaaaGreatDoorWShow4
/- The walks of the two texts of a field. -/
namespace Go.Proofs.YtnelecjjbmjhaaaGreatDoor
open Go.RowKit
set_option linter.unusedSimpArgs false
set_option linter.unusedVariables false

theorem rets_eq {S : ByteArray} {l : List UInt8} (h : S = strB l) : Ending.returned (.string S) = .returned (.string (strB l)) := by rw [h]
theorem fieldT_take {l : List It} {k : Nat} {it : It} (hx : l[k]? = some it) : fieldT (l.take (k + 1)) = (if k = 0 then [] else fieldT (l.take k) ++ [44]) ++ itemT it := by
  have hk := (List.getElem?_eq_some_iff.1 hx).1
  rw [List.take_add_one, hx]
  unfold fieldT
  rw [show (some it).toList = [it] from rfl, List.map_append, List.map_cons, List.map_nil, join_snoc]
  by_cases h0 : k = 0
  · subst h0; simp
  · rw [if_neg h0, if_neg (by intro h; rw [List.map_eq_nil_iff, List.take_eq_nil_iff] at h; rcases h with h | h; (· omega); subst h; simp at hk)]
theorem fieldT_len {l : List It} (h : ∀ it ∈ l, it.wf) : (fieldT l).length ≤ l.length * 101 := by
  have := join_len (l.map itemT) [44] 100 (by
    intro x hx
    obtain ⟨i, hi, rfl⟩ := List.mem_map.1 hx
    exact itemT_len (h i hi))
  simpa [fieldT] using this
theorem fieldT_take_len {l : List It} (h : ∀ it ∈ l, it.wf) (k : Nat) (hk : k ≤ l.length) (hl : l.length ≤ 1000) : (fieldT (l.take k)).length ≤ 101000 := by
  have := fieldT_len (l := l.take k) (fun it hit => h it (List.mem_of_mem_take hit))
  rw [List.length_take_of_le hk] at this
  omega

end Go.Proofs.YtnelecjjbmjhaaaGreatDoor

namespace Go.Proofs.YtnelecjjbmjhaaaGreatDoor
open Go.RowKit
set_option linter.unusedSimpArgs false
set_option linter.unusedVariables false

theorem info_str : (Tryz.prog.info? 9).map (fun i => (i.zero, i.size, i.bytes)) = some (some (.string ⟨#[]⟩), 1, 16) := by kernel_rfl
/-- A slice of strings of the call's own. -/
abbrev OwnStrs (w : World) (B : Nat) (v : Value) (l : List ByteArray) : Prop := w.ownsRow B 9 1 v l.length (l.map Value.string)
/-- The texts of items, as strings. -/
def itStrs (l : List It) : List ByteArray := l.map fun i => strB (itemT i)
theorem itStrs_len (l : List It) : (itStrs l).length = l.length := by simp [itStrs]
theorem itStrs_join (l : List It) : Lib.join ((itStrs l).map (·.data.toList)) [44] = fieldT l := by
  unfold itStrs fieldT
  rw [List.map_map]
  congr 1

end Go.Proofs.YtnelecjjbmjhaaaGreatDoor
