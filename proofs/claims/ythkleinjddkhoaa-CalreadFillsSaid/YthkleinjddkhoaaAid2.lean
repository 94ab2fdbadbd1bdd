/- Words for lists of ints that the call itself makes. -/
import Derived.Test.YthkleinjddkhoaaRows
import Derived.Test.YthkleinjddkhoaaPlain
import Derived.Lib.OwnBridge
import Derived.Sort.OwnSortedInts
namespace Go.Proofs.Ythkleinjddkhoaa
open Go.RowKit
set_option linter.unusedSimpArgs false
set_option linter.unusedVariables false

/-- A slice of ints of the call's own. -/
abbrev OwnInts (w : World) (B : Nat) (v : Value) (l : List Int) : Prop := w.ownsRow B 3 1 v l.length (l.map (Value.int .i64))
theorem info_int : (Try.prog.info? 3).map (fun i => (i.zero, i.size, i.bytes)) = some (some (.int .i64 0), 1, 8) := by kernel_rfl
theorem own_some {w : World} {B n : Nat} {v : Value} {t : TypeId} {k : Nat} {xs : List Value} (h : w.ownsRow B t k v n xs) : v = .slice none 0 0 ∧ n = 0 ∨ ∃ g cap, v = .slice (some ⟨g, 0, none⟩) n cap ∧ B ≤ g ∧ g < w.heap.size := by
  rcases h.2 with h | ⟨g, cap, cur, hv, hb, hg, _⟩
  · exact .inl h
  · exact .inr ⟨g, cap, hv, hb, (Array.getElem?_eq_some_iff.1 hg).1⟩
theorem flat_ints (l : List Int) : l.flatMap intEnc = l.map (Value.int .i64) := by
  induction l with
  | nil => rfl
  | cons a l ih => rw [List.flatMap_cons, ih]; rfl
theorem OwnInts.rd {w : World} {B : Nat} {v : Value} {l : List Int} (h : OwnInts w B v l) : ∃ A c, v = .slice A l.length c ∧ l.length ≤ c ∧ c ≤ maxLen ∧ RdInts w A l.length l ∧ (∀ a, A = some a → B ≤ a.block) :=
  Rd.of_own (enc := intEnc) intEnc_len (l := l) (by rw [flat_ints]; exact h) rfl
theorem own_below {w w' : World} {B k n : Nat} {v : Value} {t : TypeId} {xs : List Value} (h : w.ownsRow B t k v n xs) (hb : Below w.heap.size w w') : w'.ownsRow B t k v n xs :=
  h.kept (row := none) ⟨hb.os, hb.tape, hb.output, hb.size, fun i hi _ => hb.block i hi⟩ (by cases v.ownBlock <;> simp)
/-- The call hands back a slice of ints of its own. -/
def RetOwn (l : List Int) (w : World) (e : Ending) (w' : World) : Prop := ∃ v, e = .returned v ∧ OwnInts w' w.heap.size v l ∧ Below w.heap.size w w'
end Go.Proofs.Ythkleinjddkhoaa
