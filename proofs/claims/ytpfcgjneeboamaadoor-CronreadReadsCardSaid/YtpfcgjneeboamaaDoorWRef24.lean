/- The walks of package feriaref24. -/
import Derived.Test.YtpfcgjneeboamaaDoorWRef12
import Derived.Test.YtpfcgjneeboamaaDoorWSl
import Derived.Test.YtpfcgjneeboamaaDoorWLine
namespace Go.Proofs.YtpfcgjneeboamaaDoor
open Go.RowKit
set_option linter.unusedSimpArgs false
set_option linter.unusedVariables false

theorem rbounds_any (f : Int) (w : World) : Calls Tryd.prog 58 #[.int .i64 f] w (RetQ (.tuple #[.int .i64 (cLo f), .int .i64 (cHi f)]) w) := by
  go_enter Tryd.func58, Tryd.ntmps58
  go_wp2
  all_goals go_ret2
  all_goals refine ⟨ret_int2 ?_ ?_, rfl⟩
  all_goals (simp only [beq_iff_eq, beq_eq_false_iff_ne, ne_eq] at *; simp [cLo, cHi, *])

theorem rfield_in (k : Nat) (hk : k < 5) (A : Nat → Option Addr) (n c : Nat → Nat) (w : World) : Calls Tryd.prog 26 #[crV A n c, .int .i64 k] w (Ret (.slice (A k) (n k) (c k)) w) := by
  obtain rfl | rfl | rfl | rfl | rfl : k = 0 ∨ k = 1 ∨ k = 2 ∨ k = 3 ∨ k = 4 := by omega
  all_goals
    go_enter Tryd.func26, Tryd.ntmps26
    go_wp2
    go_ret
    exact ⟨rfl, by (repeat' (first | (with_reducible exact Below.refl _ _) | (with_reducible assumption) | (with_reducible refine below_drewN ?_ _) | (with_reducible refine Below.alloc ?_ ?_ _) | (with_reducible refine Below.drew ?_) | (with_reducible refine Below.setCell ?_ ?_ _) | go_size))⟩
theorem rfield_out (f : Int) (hf : f < 0 ∨ 5 ≤ f) (A : Nat → Option Addr) (n c : Nat → Nat) (w : World) : Calls Tryd.prog 26 #[crV A n c, .int .i64 f] w (Ret (.slice none 0 0) w) := by
  have h0 : (f == 0) = false := by simp; omega
  have h1 : (f == 1) = false := by simp; omega
  have h2 : (f == 2) = false := by simp; omega
  have h3 : (f == 3) = false := by simp; omega
  have h4 : (f == 4) = false := by simp; omega
  clear hf
  go_enter Tryd.func26, Tryd.ntmps26
  go_wp2
  go_ret
  exact ⟨rfl, by (repeat' (first | (with_reducible exact Below.refl _ _) | (with_reducible assumption) | (with_reducible refine below_drewN ?_ _) | (with_reducible refine Below.alloc ?_ ?_ _) | (with_reducible refine Below.drew ?_) | (with_reducible refine Below.setCell ?_ ?_ _) | go_size))⟩

theorem starB_cons {l : List It} {it : It} (h : l[0]? = some it) : starB l = decide (it.k = 0) := by
  cases l with
  | nil => simp at h
  | cons a l => obtain rfl : a = it := by simpa using h
                rfl
theorem starB_nil {l : List It} (h : l.length = 0) : starB l = false := by
  rw [List.length_eq_zero_iff.1 h]; rfl

/-- Is a line more than is gone through? -/
def greatB (n : Nat → Nat) : Bool := decide (200 < n 0 ∨ 200 < n 1 ∨ 200 < n 2 ∨ 200 < n 3 ∨ 200 < n 4)
theorem greatB_yes {n : Nat → Nat} {k : Nat} (hk : k < 5) (h : 200 < n k) : greatB n = true := by
  obtain rfl | rfl | rfl | rfl | rfl : k = 0 ∨ k = 1 ∨ k = 2 ∨ k = 3 ∨ k = 4 := by omega
  all_goals simp [greatB, h]
theorem greatB_no {n : Nat → Nat} (H : ∀ j, j < 5 → n j ≤ 200) : greatB n = false := by
  have := H 0; have := H 1; have := H 2; have := H 3; have := H 4
  simp [greatB]; omega

theorem great_le {n : Nat → Nat} (h : greatB n = false) : ∀ k, k < 5 → n k ≤ 200 := by
  intro k hk
  rcases Nat.lt_or_ge 200 (n k) with h1 | h1
  · rw [greatB_yes hk h1] at h; cases h
  · exact h1
end Go.Proofs.YtpfcgjneeboamaaDoor
