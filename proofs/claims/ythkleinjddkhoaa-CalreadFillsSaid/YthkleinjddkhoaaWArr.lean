/- Words for an array of single cells in memory, told cell by cell. -/
import Derived.Test.YthkleinjddkhoaaAid
namespace Go.Proofs.Ythkleinjddkhoaa
open Go.RowKit
set_option linter.unusedSimpArgs false
set_option linter.unusedVariables false

/-- The m cells of block b hold g 0, g 1, .. -/
def Arr (w : World) (b m : Nat) (g : Nat → Value) : Prop := (∀ j, j < m → w.cell? ⟨b, j, none⟩ = some (g j)) ∧ ∀ j, w.frozen? ⟨b, j, none⟩ = false
section
variable {w w' : World} {b m : Nat} {g g' : Nat → Value}
theorem Arr.set (h : Arr w b m g) (i : Nat) (hi : i < m) (v : Value) (h1 : g' i = v) (h2 : ∀ j, j < m → j ≠ i → g' j = g j) : Arr (w.setCell ⟨b, i, none⟩ v) b m g' := by
  refine ⟨fun j hj => ?_, fun j => by rw [World.frozen?_setCell]; exact h.2 j⟩
  by_cases e : j = i
  · subst e
    rw [World.cell?_setCell_same _ _ _ (h.1 j hj), h1]
  · rw [World.cell?_setCell_other _ _ _ _ (by intro e2; injection e2 with _ e3; exact e e3.symm), h.1 j hj, h2 j hj e]
theorem Arr.drew (h : Arr w b m g) : Arr w.drew b m g := h
theorem Arr.drewN (h : Arr w b m g) (n : Nat) : Arr (w.drewN n) b m g := h
theorem Arr.other {b' i : Nat} {v : Value} (h : Arr w b m g) (hne : b' ≠ b) : Arr (w.setCell ⟨b', i, none⟩ v) b m g :=
  ⟨fun j hj => by rw [World.cell?_setCell_other _ _ _ _ (by intro e2; injection e2 with e3; exact hne e3)]; exact h.1 j hj, fun j => by rw [World.frozen?_setCell]; exact h.2 j⟩
theorem Arr.below (h : Arr w b m g) (hb : b < w.heap.size) (hb1 : Below w.heap.size w w') : Arr w' b m g :=
  ⟨fun j hj => (hb1.cell (p := ⟨b, j, none⟩) hb).trans (h.1 j hj), fun j => (hb1.frozen (p := ⟨b, j, none⟩) hb).trans (h.2 j)⟩
theorem Arr.alloc (h : Arr w b m g) (hb : b < w.heap.size) (o : Obj) : Arr (w.alloc o) b m g := h.below hb ((Below.refl _ w).alloc (Nat.le_refl _) _)
theorem Arr.lt (h : Arr w b m g) (hm : 0 < m) : b < w.heap.size := World.block_lt_of_cell? w _ (h.1 0 hm)
theorem arr_new (w : World) (C : Array Value) (t : TypeId) (g : Nat → Value) (h : ∀ j, j < C.size → C[j]? = some (g j)) : Arr (w.alloc (.cells C t)) w.heap.size C.size g := by
  have h1 := heap_alloc_new w (.cells C t)
  refine ⟨fun j hj => ?_, fun j => ?_⟩
  · unfold World.cell?
    rw [h1]
    exact h j hj
  · unfold World.frozen?
    rw [h1]
    rfl
end
end Go.Proofs.Ythkleinjddkhoaa
