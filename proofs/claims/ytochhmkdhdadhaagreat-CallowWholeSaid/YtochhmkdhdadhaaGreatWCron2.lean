/- The walks of package cron, on: the fields of a line, and whether two are the same. -/
import Derived.Test.YtochhmkdhdadhaaGreatWRef12
import Derived.Test.YtochhmkdhdadhaaGreatWSl
import Derived.Test.YtochhmkdhdadhaaGreatWLine
import Derived.Test.YtochhmkdhdadhaaGreatWCron
import Derived.Test.YtochhmkdhdadhaaGreatWClone
/- The walks of package feriaref24. -/
namespace Go.Proofs.YtochhmkdhdadhaaGreat
open Go.RowKit
set_option linter.unusedSimpArgs false
set_option linter.unusedVariables false

theorem starB_cons {l : List It} {it : It} (h : l[0]? = some it) : starB l = decide (it.k = 0) := by
  cases l with
  | nil => simp at h
  | cons a l => obtain rfl : a = it := by simpa using h
                rfl
theorem starB_nil {l : List It} (h : l.length = 0) : starB l = false := by
  rw [List.length_eq_zero_iff.1 h]; rfl

/-- Is a line more than is gone through? -/
def greatB (n : Nat → Nat) : Bool := decide (200 < n 0 ∨ 200 < n 1 ∨ 200 < n 2 ∨ 200 < n 3 ∨ 200 < n 4)
theorem greatB_yes {n : Nat → Nat} {k : Nat} (hk : k < 5) (h : 200 < n k) : greatB n = true := by
  obtain rfl | rfl | rfl | rfl | rfl : k = 0 ∨ k = 1 ∨ k = 2 ∨ k = 3 ∨ k = 4 := by omega
  all_goals simp [greatB, h]
theorem greatB_no {n : Nat → Nat} (H : ∀ j, j < 5 → n j ≤ 200) : greatB n = false := by
  have := H 0; have := H 1; have := H 2; have := H 3; have := H 4
  simp [greatB]; omega

theorem great_le {n : Nat → Nat} (h : greatB n = false) : ∀ k, k < 5 → n k ≤ 200 := by
  intro k hk
  rcases Nat.lt_or_ge 200 (n k) with h1 | h1
  · rw [greatB_yes hk h1] at h; cases h
  · exact h1
end Go.Proofs.YtochhmkdhdadhaaGreat

namespace Go.Proofs.YtochhmkdhdadhaaGreat
open Go.RowKit
set_option linter.unusedSimpArgs false
set_option linter.unusedVariables false

def eitherB (l : Nat → List It) : Bool := !starB (l 2) && !starB (l 4)
/-- Are two lines the same? -/
def sameLine (l r : Nat → List It) : Bool := (List.range 5).all fun k => sameIts (l k) (r k)
theorem sameLine_no {l r : Nat → List It} {k : Nat} (hk : k < 5) (h : sameIts (l k) (r k) = false) : sameLine l r = false := by
  rw [sameLine, List.all_eq_false]
  exact ⟨k, List.mem_range.2 hk, by simp [h]⟩
theorem sameLine_yes {l r : Nat → List It} (H : ∀ k, k < 5 → sameIts (l k) (r k) = true) : sameLine l r = true := by
  rw [sameLine, List.all_eq_true]
  exact fun k hk => H k (List.mem_range.1 hk)
theorem sameLine_self (l : Nat → List It) : sameLine l l = true := sameLine_yes fun k _ => by simp [sameIts]

end Go.Proofs.YtochhmkdhdadhaaGreat
