/- The examples of chapter 25, read; what is read, as a line: plain. -/
import Derived.Test.YtochhmkdhdadhaaGreatDoorWCronread7
import Derived.Test.YtochhmkdhdadhaaGreatDoorRBack
namespace Go.Proofs.YtochhmkdhdadhaaGreatDoor
open Go.RowKit
set_option linter.unusedSimpArgs false
set_option linter.unusedVariables false

/-- cItems, by its number. -/
def cItemsS (f : Nat) : Nat → List UInt8 → PR (List It)
  | 0, l => (match cItem f l with
    | .error e => .error e
    | .ok (i, l1) => match pIs [44] l1 with
      | none => .ok ([i], l1)
      | some _ => .error (l1.length, 5))
  | q + 1, l => (match cItem f l with
    | .error e => .error e
    | .ok (i, l1) => match pIs [44] l1 with
      | none => .ok ([i], l1)
      | some l2 => match cItemsS f q l2 with
          | .error e => .error e
          | .ok (is, l3) => .ok (i :: is, l3))
theorem cItemsS_eq (f q : Nat) (l : List UInt8) : cItems f q l = cItemsS f q l := by
  induction q generalizing l with
  | zero => rw [cItems_step, cItemsS]; rfl
  | succ q ih => rw [cItems_step, cItemsS]; simp only [ih]; rfl
def cFieldsS : Nat → Nat → List UInt8 → PR (List (List It))
  | 0, _, l => .ok ([], l)
  | q + 1, f, l => match cItemsS f 63 l with
    | .error e => .error e
    | .ok (is, l1) => if q = 0 then .ok ([is], l1) else match cBetween l1 with
      | .error e => .error e
      | .ok (_, l2) => match cFieldsS q (f + 1) l2 with
        | .error e => .error e
        | .ok (r, l3) => .ok (is :: r, l3)
theorem cFieldsS_eq (q f : Nat) (l : List UInt8) : cFields q f l = cFieldsS q f l := by
  induction q generalizing f l with
  | zero => rw [cFields, cFieldsS]
  | succ q ih => rw [cFields, cFieldsS]; simp only [ih, cItemsS_eq]; rfl
def cReadS (l : List UInt8) : PR (List (List It)) :=
  if 8192 < l.length then .error (l.length - 8192, 5) else if headB (· == 64) (l.dropWhile blankP) = true then .error ((l.dropWhile blankP).length, 13) else (match cFieldsS 5 0 (l.dropWhile blankP) with
  | .error e => .error e
  | .ok (r, l1) => if l1.dropWhile blankP = [] then .ok (r, []) else .error ((l1.dropWhile blankP).length, 3))
theorem cReadS_eq (l : List UInt8) : cRead l = cReadS l := by
  unfold cRead cReadS cTail
  simp only [cFieldsS_eq]
  rfl
def ex25a : List UInt8 := [42, 47, 49, 53, 32, 57, 45, 49, 55, 32, 42, 32, 42, 32, 109, 111, 110, 45, 102, 114, 105]
def ex25b : List UInt8 := [54, 48, 32, 42, 32, 42, 32, 42, 32, 42]
theorem ex25a_read : cRead ex25a = .ok ([[⟨0, 0, 0, 15⟩], [⟨2, 9, 17, 1⟩], [⟨0, 0, 0, 1⟩], [⟨0, 0, 0, 1⟩], [⟨2, 1, 5, 1⟩]], []) := by
  rw [cReadS_eq]; kernel_rfl
theorem ex25b_read : cRead ex25b = .error (10, 4) := by
  rw [cReadS_eq]; kernel_rfl
theorem outR_ok {s : ByteArray} {x : List (List It)} {r : List UInt8} (h : cRead s.data.toList = .ok (x, r)) : outR s = .ok x := by rw [outR_eq, h]
theorem outR_err {s : ByteArray} {m : Nat} {c : Int} (h : cRead s.data.toList = .error (m, c)) : outR s = .error (placeI s m, c) := by rw [outR_eq, h]
theorem outR_inv {s : ByteArray} : (∃ x, cRead s.data.toList = .ok (x, []) ∧ outR s = .ok x) ∨ ∃ m c, cRead s.data.toList = .error (m, c) ∧ outR s = .error (placeI s m, c) := by
  cases h : cRead s.data.toList with
  | ok x => obtain ⟨y, r⟩ := x; exact .inl ⟨y, by rw [cRead_end h], outR_ok h⟩
  | error e => obtain ⟨m, c⟩ := e; exact .inr ⟨m, c, rfl, outR_err h⟩
/-- What is read may be. -/
theorem outR_may {s : ByteArray} {F : Nat → List It} (h : outR s = .ok ((List.range 5).map F)) : ∀ k, k < 5 → faultI k (F k) = 0 := by
  rcases outR_inv (s := s) with ⟨x, h1, h2⟩ | ⟨m, c, _, h2⟩
  · rw [h2] at h
    cases h
    have := (cRead_good s.data.toList).of_ok h1
    intro k hk
    exact this.2.2 k (F k) (by rw [List.getElem?_map, List.getElem?_range hk]; rfl)
  · rw [h2] at h; cases h
theorem outR_place {s : ByteArray} {a e : Int} (h : outR s = .error (a, e)) : 0 ≤ a ∧ a ≤ s.size ∧ e ≠ 0 := by
  rcases outR_inv (s := s) with ⟨x, h1, h2⟩ | ⟨m, c, h1, h2⟩
  · rw [h2] at h; cases h
  · rw [h2] at h
    cases h
    have := (cRead_good s.data.toList).error h1
    exact ⟨by unfold placeI; omega, by unfold placeI; omega, this.2⟩
end Go.Proofs.YtochhmkdhdadhaaGreatDoor
