import Derived.Test.YthkleinjddkhoaaRows
import Derived.Test.YthkleinjddkhoaaPlain
namespace Go.Proofs.Ythkleinjddkhoaa
open Go.RowKit
set_option linter.unusedSimpArgs false
set_option linter.unusedVariables false
def sameIts (l r : List It) : Bool := decide (l = r)
def itEq (a b : It) : Bool := decide (a = b)
def itNe (a b : It) : Bool := !itEq a b
theorem itEq_def (a b : It) : itEq a b = (decide (a.k = b.k) && (decide (a.f = b.f) && (decide (a.t = b.t) && decide (a.s = b.s)))) := by
  cases a; cases b
  simp [itEq]
theorem eql_it (a b : It) (w : World) : (binOp .eql 34 (.agg #[.int .i64 a.k, .int .i64 a.f, .int .i64 a.t, .int .i64 a.s]) (.agg #[.int .i64 b.k, .int .i64 b.f, .int .i64 b.t, .int .i64 b.s])).run Try.prog w = .ok (.bool (itEq a b)) w := by
  rw [run_eql_struct, itEq_def]
  by_cases h1 : a.k = b.k <;> by_cases h2 : a.f = b.f <;> by_cases h3 : a.t = b.t <;> by_cases h4 : a.s = b.s <;> simp [go_sem, h1, h2, h3, h4]
theorem neq_it (a b : It) (w : World) : (binOp .neq 34 (.agg #[.int .i64 a.k, .int .i64 a.f, .int .i64 a.t, .int .i64 a.s]) (.agg #[.int .i64 b.k, .int .i64 b.f, .int .i64 b.t, .int .i64 b.s])).run Try.prog w = .ok (.bool (itNe a b)) w := by
  rw [run_neq_struct, itNe, itEq_def]
  by_cases h1 : a.k = b.k <;> by_cases h2 : a.f = b.f <;> by_cases h3 : a.t = b.t <;> by_cases h4 : a.s = b.s <;> simp [go_sem, h1, h2, h3, h4]
theorem itNe_true {a b : It} (h : itNe a b = true) : a ≠ b := by simpa [itNe, itEq] using h
theorem itNe_false {a b : It} (h : itNe a b = false) : a = b := by simpa [itNe, itEq] using h

theorem sameIts_len {l r : List It} (h : l.length ≠ r.length) : sameIts l r = false := by
  simp only [sameIts, decide_eq_false_iff_not]; rintro rfl; exact h rfl
theorem sameIts_ne {l r : List It} {k : Nat} {a b : It} (ha : l[k]? = some a) (hb : r[k]? = some b) (h : a ≠ b) : sameIts l r = false := by
  simp only [sameIts, decide_eq_false_iff_not]; rintro rfl
  rw [ha] at hb; exact h (Option.some.inj hb)
theorem take_same {l r : List It} {k : Nat} {a b : It} (ht : l.take k = r.take k) (ha : l[k]? = some a) (hb : r[k]? = some b) (h : a = b) : l.take (k + 1) = r.take (k + 1) := by
  rw [List.take_add_one, List.take_add_one, ha, hb, ht, h]

end Go.Proofs.Ythkleinjddkhoaa
