/- A reader ahead of a text, nothing wrong: plain. -/
import Derived.Test.YtnelecjjbmjhaaaGreatDoorRGoes
import Derived.Test.YtnelecjjbmjhaaaGreatDoorRBack
namespace Go.Proofs.YtnelecjjbmjhaaaGreatDoor
open Go.RowKit
set_option linter.unusedSimpArgs false
set_option linter.unusedVariables false

/-- The reader ahead of l, nothing wrong. -/
abbrev at0 (l : List UInt8) (a : Int) : PS := ⟨l, a, 0⟩
section
variable {N : Nat} {a : Int} {l : List UInt8}
theorem is_at (c : UInt8) (l : List UInt8) (a : Int) : isP [c] (at0 (c :: l) a) = (at0 l a, true) := by
  unfold isP; rw [if_pos rfl, pIs_yes]
theorem is_not {c : UInt8} (h : headB (· == c) l = false) : isP [c] (at0 l a) = (at0 l a, false) := by
  unfold isP; rw [if_pos rfl, pIs_no h]
theorem must_at {cs : List UInt8} {c : UInt8} (h : cs.elem c = true) (l : List UInt8) : mustP N cs (at0 (c :: l) a) = (at0 l a, (c.toNat : Int)) := by
  have h1 : isP cs (at0 (c :: l) a) = (at0 l a, true) := by
    unfold isP; rw [if_pos rfl, pIs_cons, if_pos h]
  unfold mustP
  rw [h1]
  rfl
theorem num_itoa {most u : Nat} (h1 : 1 ≤ most) (hu : u < 10 ^ most) (hl : headB digitP l = false) : numP N most (at0 (Lib.itoa (u : Int) ++ l) a) = (at0 l a, (u : Int), true) := by
  obtain ⟨d1, d2, d3, d4⟩ := dec_digits u
  have h4 := d4 (most - 1) (by rw [show most - 1 + 1 = most by omega]; exact hu)
  rw [itoa_nat]
  obtain ⟨t1, t2⟩ := take_app d1 hl
  have hz : numE most (Lib.decDigits u ++ l) = 0 := by
    unfold numE
    rw [t1, if_neg d3, if_neg (by omega)]
  unfold numP
  rw [if_pos rfl]
  simp only [hz, if_true, t1, t2, d2]
end
end Go.Proofs.YtnelecjjbmjhaaaGreatDoor
