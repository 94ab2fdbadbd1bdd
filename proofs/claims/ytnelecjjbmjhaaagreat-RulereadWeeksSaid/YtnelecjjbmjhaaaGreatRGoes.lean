/- From one state of a reader to another one: places stay in the text: plain. -/
import Derived.Test.YtnelecjjbmjhaaaGreatWPs
namespace Go.Proofs.YtnelecjjbmjhaaaGreat
open Go.RowKit
set_option linter.unusedSimpArgs false
set_option linter.unusedVariables false

/-- From σ to τ: a place that lay in the text still does; where nothing is wrong behind, nothing was ahead, and P. -/
structure Goes (N : Nat) (σ τ : PS) (P : Prop) : Prop where
  ok : (σ.e = 0 ∨ 0 ≤ σ.a ∧ σ.a ≤ N) → (τ.e = 0 ∨ 0 ≤ τ.a ∧ τ.a ≤ N)
  z : τ.e = 0 → σ.e = 0 ∧ P
section
variable {N : Nat} {σ τ υ : PS} {P Q : Prop}
theorem Goes.trans (h : Goes N σ τ P) (g : Goes N τ υ Q) : Goes N σ υ (P ∧ Q) :=
  ⟨fun x => g.ok (h.ok x), fun x => ⟨(h.z (g.z x).1).1, (h.z (g.z x).1).2, (g.z x).2⟩⟩
theorem Goes.mono (h : Goes N σ τ P) (g : P → Q) : Goes N σ τ Q := ⟨h.ok, fun x => ⟨(h.z x).1, g (h.z x).2⟩⟩
theorem Goes.refl (N : Nat) (σ : PS) : Goes N σ σ True := ⟨id, fun x => ⟨x, trivial⟩⟩
theorem Goes.never (h : Goes N σ τ False) : Goes N σ τ Q := h.mono False.elim
theorem at_le (N : Nat) (σ : PS) : 0 ≤ atP N σ ∧ atP N σ ≤ N := by unfold atP; omega
theorem goes_fail (p q : Int) (hq : q ≠ 0) (hp : 0 ≤ p ∧ p ≤ N) : Goes N σ (failP p q σ) False := by
  unfold failP
  by_cases he : σ.e = 0
  · rw [if_pos he, if_neg hq]
    exact ⟨fun _ => .inr hp, fun x => absurd x hq⟩
  · rw [if_neg he]
    exact ⟨id, fun x => absurd x he⟩
theorem goes_failAt (τ : PS) (q : Int) (hq : q ≠ 0) : Goes N σ (failP (atP N τ) q σ) False := goes_fail _ _ hq (at_le N τ)
theorem goes_is (cs : List UInt8) : Goes N σ (isP cs σ).1 True := by
  unfold isP
  by_cases he : σ.e = 0
  · rw [if_pos he]
    split
    · exact ⟨fun _ => .inl rfl, fun _ => ⟨he, trivial⟩⟩
    · exact Goes.refl _ _
  · rw [if_neg he]; exact Goes.refl _ _
theorem is_yes_e {cs : List UInt8} (h : (isP cs σ).2 = true) : σ.e = 0 ∧ (isP cs σ).1.e = 0 := by
  unfold isP at *
  by_cases he : σ.e = 0
  · rw [if_pos he] at *
    split at h
    · exact ⟨he, rfl⟩
    · cases h
  · rw [if_neg he] at h; cases h
theorem goes_must (cs : List UInt8) : Goes N σ (mustP N cs σ).1 True := by
  unfold mustP
  split
  · exact goes_is cs
  · unfold lackP; exact (goes_failAt σ _ (pLack_ne _)).never
theorem goes_some (p : UInt8 → Bool) : Goes N σ (someP p σ).1 True := by
  unfold someP
  by_cases he : σ.e = 0
  · rw [if_pos he]; exact ⟨fun _ => .inl rfl, fun _ => ⟨he, trivial⟩⟩
  · rw [if_neg he]; exact Goes.refl _ _
theorem numE_zero {most : Nat} {l : List UInt8} (h : numE most l = 0) : l.takeWhile digitP ≠ [] ∧ (l.takeWhile digitP).length ≤ most := by
  unfold numE at h
  split at h
  · exact absurd h (pLack_ne l)
  · split at h
    · exact absurd h (by decide)
    · exact ⟨by assumption, by omega⟩
theorem goes_num (most : Nat) : Goes N σ (numP N most σ).1 ((numP N most σ).2.2 = true ∧ 0 ≤ (numP N most σ).2.1 ∧ (numP N most σ).2.1 < 10 ^ most) := by
  unfold numP
  by_cases he : σ.e = 0
  · rw [if_pos he]
    by_cases hz : numE most σ.l = 0
    · rw [if_pos hz]
      have hb := numOf_lt _ (all_take digitP σ.l)
      exact ⟨fun _ => .inl rfl, fun _ => ⟨he, rfl, hb.1, Int.lt_of_lt_of_le hb.2 (pow_mono (numE_zero hz).2)⟩⟩
    · rw [if_neg hz]
      exact ⟨fun _ => .inr (at_le N σ), fun x => absurd x hz⟩
  · rw [if_neg he]; exact ⟨id, fun x => absurd x he⟩
theorem goes_text (t : List UInt8) : Goes N σ (textP t σ).1 True := by
  unfold textP
  split
  · rename_i h; exact ⟨fun _ => .inl rfl, fun _ => ⟨h.1, trivial⟩⟩
  · exact Goes.refl _ _
theorem ite_goes {c : Prop} [Decidable c] {x y : PS} {P Q : Prop} (h1 : c → Goes N σ x P) (h2 : ¬ c → Goes N σ y P) : Goes N σ (if c then x else y) P := by
  split
  · exact h1 (by assumption)
  · exact h2 (by assumption)
end
end Go.Proofs.YtnelecjjbmjhaaaGreat
