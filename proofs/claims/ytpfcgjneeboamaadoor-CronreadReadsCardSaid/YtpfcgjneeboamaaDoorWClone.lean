/- The walk of slices.Clone at items. -/
import Derived.Test.YtpfcgjneeboamaaDoorRows
import Derived.Test.YtpfcgjneeboamaaDoorWArr
namespace Go.Proofs.YtpfcgjneeboamaaDoor
open Go.RowKit
set_option linter.unusedSimpArgs false
set_option linter.unusedVariables false

abbrev OwnIts (w : World) (B : Nat) (v : Value) (l : List It) : Prop := w.ownsRow B 34 4 v l.length (l.flatMap itEnc)
theorem own_base {w : World} {B B' k n : Nat} {v : Value} {t : TypeId} {xs : List Value} (h : w.ownsRow B t k v n xs) (hB : B' ≤ B) : w.ownsRow B' t k v n xs := by
  refine ⟨h.1, ?_⟩
  rcases h.2 with h | ⟨g, cap, cur, hv, hb, h3⟩
  · exact .inl h
  · exact .inr ⟨g, cap, cur, hv, Nat.le_trans hB hb, h3⟩
theorem own_new (w : World) (cur : Array Value) (e : TypeId) (size n : Nat) (hm : n ≤ maxLen) (hs : cur.size = n * size) : (w.alloc (.cells cur e)).ownsRow w.heap.size e size (.slice (some ⟨w.heap.size, 0, none⟩) n n) n cur.toList :=
  ⟨by simpa using hs, .inr ⟨w.heap.size, n, cur, rfl, Nat.le_refl _, heap_alloc_new w _, Nat.le_refl _, hm, hs, List.take_of_length_le (by rw [← hs]; exact Nat.le_refl _)⟩⟩
theorem info_it : (Tryd.prog.info? 34).map (fun i => (i.zero, i.size, i.bytes)) = some (some (.agg #[.int .i64 0, .int .i64 0, .int .i64 0, .int .i64 0]), 4, 32) := by kernel_rfl
theorem oneCell_its (l : List It) : ∀ u ∈ l.flatMap itEnc, u.oneCell' = true := by
  intro u hu
  simp only [List.mem_flatMap, itEnc, List.mem_cons, List.not_mem_nil, or_false] at hu
  obtain ⟨x, _, h⟩ := hu
  rcases h with rfl | rfl | rfl | rfl <;> rfl

/-- A new slice that reads as the list. -/
def RetIts (n : Nat) (l : List It) (w : World) (e : Ending) (w' : World) : Prop := ∃ A c, e = .returned (.slice A n c) ∧ RdIts w' A n l ∧ Below w.heap.size w w'

end Go.Proofs.YtpfcgjneeboamaaDoor
