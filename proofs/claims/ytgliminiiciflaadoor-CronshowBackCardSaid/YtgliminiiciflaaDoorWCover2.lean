/- The walks of cover.Len and cover.Of. -/
import Derived.Test.YtgliminiiciflaaDoorWCover
import Derived.Test.YtgliminiiciflaaDoorWMask
namespace Go.Proofs.YtgliminiiciflaaDoor
open Go.RowKit
set_option linter.unusedSimpArgs false
set_option linter.unusedVariables false

/-- How many numbers a piece has. -/
def LenP (p : Pc) : Prop := 0 ≤ p.f ∧ p.f ≤ p.t ∧ p.t ≤ 9999 ∧ 1 ≤ p.s ∧ (p.t - p.f) % p.s = 0
instance (p : Pc) : Decidable (LenP p) := by unfold LenP; infer_instance
def lenC (p : Pc) : Int := if LenP p then (p.t - p.f) / p.s + 1 else 0

/-- The pieces of numbers that may be told so (k rounds at most). -/
def coverF : Nat → List Int → List Pc
  | 0, _ => []
  | _, [] => []
  | k + 1, a :: l => (pieceC a l).1 :: coverF k ((a :: l).drop (pieceC a l).2)
def coverL (l : List Int) : List Pc := if mayC none l then coverF l.length l else []
theorem mayC_in {l : List Int} : ∀ {p : Option Int}, mayC p l = true → InC l := by
  induction l with
  | nil => intro p _ j x h; simp at h
  | cons a l ih =>
    intro p h j x hx
    simp only [mayC, Bool.and_eq_true, decide_eq_true_eq] at h
    rcases j with _ | j
    · obtain rfl : a = x := by simpa using hx
      exact ⟨h.1.1, h.1.2.1⟩
    · exact ih h.2 j x (by simpa using hx)
theorem InC.drop {l : List Int} (h : InC l) (m : Nat) : InC (l.drop m) := fun j x hx => h (m + j) x (by rw [List.getElem?_drop] at hx; exact hx)
theorem RdInts.drop {w : World} {b o n : Nat} {l : List Int} (h : RdInts w (some ⟨b, o, none⟩) n l) (m : Nat) : RdInts w (some ⟨b, o + m, none⟩) (n - m) (l.drop m) :=
  ⟨by rw [List.length_drop, h.1], fun hn => by
    obtain ⟨b', o', e, hlt, hc⟩ := h.2 (by omega)
    cases e
    exact ⟨b, o + m, rfl, hlt, fun i x hi j v hj => by
      have := hc (m + i) x (by rw [List.getElem?_drop] at hi; exact hi) j v hj
      rwa [show o + (m + i) * 1 + j = o + m + i * 1 + j by omega] at this⟩⟩

end Go.Proofs.YtgliminiiciflaaDoor
