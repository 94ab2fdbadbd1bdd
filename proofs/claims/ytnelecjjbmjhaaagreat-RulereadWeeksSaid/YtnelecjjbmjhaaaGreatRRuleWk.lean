/- A text that is read, with a part of the week's start behind: plain. -/
import Derived.Test.YtnelecjjbmjhaaaGreatRRuleLoc
namespace Go.Proofs.YtnelecjjbmjhaaaGreat
open Go.RowKit
set_option linter.unusedSimpArgs false
set_option linter.unusedVariables false

theorem parts_one {N q : Nat} {S : RS} (h : (isP [59] (partP N S).σ) = ((partP N S).σ, false)) : partsP N q S = partP N S := by
  cases q with
  | zero => unfold partsP; rw [h]
  | succ q => unfold partsP; rw [h]; rfl
theorem wk_word (u v : UInt8) (a : Int) : someP letterP ⟨wkX u v, a, 0⟩ = (⟨[61, u, v], a, 0⟩, wkst) := by
  unfold someP
  rw [if_pos rfl]
  rfl
theorem wk_at (n : Nat) (u v : UInt8) (a : Int) : atP (n + 8) ⟨wkX u v, a, 0⟩ = (n : Int) + 1 := by
  unfold atP
  show ((n + 8 - 7 : Nat) : Int) = _
  omega
theorem part_twice {n : Nat} {u v : UInt8} {a : Int} {r : RuV} {T : List (List UInt8)} (h : wkst ∈ T) : partP (n + 8) ⟨⟨wkX u v, a, 0⟩, r, T⟩ = ⟨⟨[61, u, v], (n : Int) + 1, 10⟩, r, T⟩ := by
  unfold partP
  dsimp only
  rw [wk_word]
  dsimp only
  rw [if_neg (by decide), if_neg (by decide), if_neg (by decide), if_pos h, wk_at]
  unfold failP
  rw [if_pos rfl, if_neg (by decide)]
theorem wk_must (N : Nat) (u v : UInt8) (a : Int) : (mustP N [61] ⟨[61, u, v], a, 0⟩).1 = ⟨[u, v], a, 0⟩ := by
  have h1 : isP [61] ⟨[61, u, v], a, 0⟩ = (⟨[u, v], a, 0⟩, true) := by
    unfold isP; rw [if_pos rfl, pIs_cons, if_pos (by decide)]
  unfold mustP
  rw [h1]
  rfl
theorem part_once {n : Nat} {u v : UInt8} {a : Int} {r : RuV} {T : List (List UInt8)} (h : wkst ∉ T) : partP (n + 8) ⟨⟨wkX u v, a, 0⟩, r, T⟩ = ⟨startP (n + 8) ⟨[u, v], a, 0⟩, r, wkst :: T⟩ := by
  unfold partP
  dsimp only
  rw [wk_word]
  dsimp only
  rw [if_neg (by decide), if_neg (by decide), if_neg (by decide), if_neg h, wk_must]
  rfl
theorem start_mo (N : Nat) (a : Int) : startP N ⟨[77, 79], a, 0⟩ = ⟨[], a, 0⟩ := by
  have h : oneP N wdN ⟨[77, 79], a, 0⟩ = (⟨[], a, 0⟩, 0) := rfl
  unfold startP
  rw [h]
  rfl
theorem start_su (n : Nat) (a : Int) : startP (n + 8) ⟨[83, 85], a, 0⟩ = ⟨[], (n : Int) + 6, 9⟩ := by
  have h : oneP (n + 8) wdN ⟨[83, 85], a, 0⟩ = (⟨[], a, 0⟩, 6) := rfl
  unfold startP
  rw [h]
  dsimp only
  rw [if_pos (by decide)]
  unfold failP atP
  rw [if_pos rfl, if_neg (by decide)]
  show (⟨[], ((n + 8 - 2 : Nat) : Int), 9⟩ : PS) = _
  rw [show ((n + 8 - 2 : Nat) : Int) = (n : Int) + 6 by omega]
theorem read_wk {l : List UInt8} {r : RuV} (h : rread l = .ok r) (h8 : l.length ≤ 3000) :
    (rread (l ++ 59 :: wkX 77 79) = .error ((l.length : Int) + 1, 10) ∧ rread (l ++ 59 :: wkX 83 85) = .error ((l.length : Int) + 1, 10)) ∨
    (rread (l ++ 59 :: wkX 77 79) = .ok r ∧ rread (l ++ 59 :: wkX 83 85) = .error ((l.length : Int) + 6, 9)) := by
  obtain ⟨q, a, e1, hF, hk⟩ := read_more h h8 77 79
  obtain ⟨q', a', e2, _, _⟩ := read_more h h8 83 85
  rw [e1, e2]
  clear e1 e2
  generalize (rallP l).T = T at *
  have dead : ∀ (L : List UInt8) (x y : Int), y ≠ 0 → isP [59] ⟨L, x, y⟩ = (⟨L, x, y⟩, false) := fun L x y hy => by unfold isP; rw [if_neg hy]
  by_cases hT : wkst ∈ T
  · left
    rw [parts_one (by rw [part_twice hT]; exact dead _ _ _ (by decide)), parts_one (by rw [part_twice hT]; exact dead _ _ _ (by decide)), part_twice hT, part_twice hT]
    have he : ∀ L : List UInt8, endP (l.length + 8) ⟨L, (l.length : Int) + 1, 10⟩ = ⟨L, (l.length : Int) + 1, 10⟩ := fun L => by
      unfold endP doneP
      rw [if_pos (decide_eq_true (.inl (show (10 : Int) ≠ 0 by decide)))]
    constructor
    · dsimp only
      rw [if_pos hF, he]
      rfl
    · dsimp only
      rw [if_pos hF, he]
      rfl
  · right
    have hF' : paN[0] ∈ wkst :: T := List.mem_cons_of_mem _ hF
    rw [parts_one (by rw [part_once hT, start_mo]; rfl), parts_one (by rw [part_once hT, start_su]; exact dead _ _ _ (by decide)), part_once hT, part_once hT, start_mo, start_su]
    constructor
    · dsimp only
      rw [if_pos hF']
      have he : endP (l.length + 8) ⟨[], a, 0⟩ = ⟨[], a, 0⟩ := by
        unfold endP doneP
        rw [if_pos (decide_eq_true (.inr rfl))]
      rw [he]
      dsimp only
      rw [if_neg (by decide), if_neg (by simpa using hk)]
    · dsimp only
      rw [if_pos hF']
      have he : endP (l.length + 8) ⟨[], (l.length : Int) + 6, 9⟩ = ⟨[], (l.length : Int) + 6, 9⟩ := by
        unfold endP doneP
        rw [if_pos (decide_eq_true (.inr rfl))]
      rw [he]
      rfl
end Go.Proofs.YtnelecjjbmjhaaaGreat
