/- The plain law: the numbers of items are the document's. -/
import Derived.Test.YtochhmkdhdadhaaGreatWRefVal
namespace Go.Proofs.YtochhmkdhdadhaaGreat
open Go.RowKit
set_option linter.unusedSimpArgs false
set_option linter.unusedVariables false

theorem lt_ext : ∀ {a b : List Int}, a.Pairwise (· < ·) → b.Pairwise (· < ·) → (∀ x, x ∈ a ↔ x ∈ b) → a = b
  | [], [], _, _, _ => rfl
  | [], y :: b, _, _, h => by have := (h y).2 (by simp); simp at this
  | x :: a, [], _, _, h => by have := (h x).1 (by simp); simp at this
  | x :: a, y :: b, ha, hb, h => by
    have ha1 := List.pairwise_cons.1 ha
    have hb1 := List.pairwise_cons.1 hb
    have hxy : x = y := by
      have h1 := (h x).1 (by simp)
      have h2 := (h y).2 (by simp)
      rcases List.mem_cons.1 h1 with h1 | h1
      · exact h1
      · rcases List.mem_cons.1 h2 with h2 | h2
        · exact h2.symm
        · have := hb1.1 x h1
          have := ha1.1 y h2
          omega
    subst hxy
    congr 1
    refine lt_ext ha1.2 hb1.2 fun z => ⟨fun hz => ?_, fun hz => ?_⟩
    · rcases List.mem_cons.1 ((h z).1 (List.mem_cons_of_mem _ hz)) with rfl | h1
      · exact absurd (ha1.1 z hz) (by omega)
      · exact h1
    · rcases List.mem_cons.1 ((h z).2 (List.mem_cons_of_mem _ hz)) with rfl | h1
      · exact absurd (hb1.1 z hz) (by omega)
      · exact h1

theorem compactUpTo_sorted (d : Array Int) (hd : ∀ i j, i ≤ j → j < d.size → d[i]! ≤ d[j]!) : ∀ m, m ≤ d.size →
    (Lib.compactUpTo d m).Pairwise (· < ·) ∧ (∀ x, x ∈ Lib.compactUpTo d m ↔ ∃ j, j < m ∧ d[j]! = x)
  | 0, _ => by simp [Lib.compactUpTo]
  | m + 1, hm => by
    obtain ⟨h1, h2⟩ := compactUpTo_sorted d hd m (by omega)
    rw [Lib.compactUpTo_succ]
    by_cases hk : m = 0 ∨ d[m]! ≠ d[m - 1]!
    · have hk' : Lib.keeps d m = true := by simp [Lib.keeps, hk]
      rw [if_pos hk']
      refine ⟨List.pairwise_append.2 ⟨h1, by simp, ?_⟩, ?_⟩
      · intro a ha b hb
        obtain rfl : b = d[m]! := by simpa using hb
        obtain ⟨j, hj, rfl⟩ := (h2 a).1 ha
        have h3 := hd j (m - 1) (by omega) (by omega)
        have h4 := hd (m - 1) m (by omega) (by omega)
        rcases hk with hk | hk
        · omega
        · omega
      · intro x
        rw [List.mem_append, h2]
        constructor
        · rintro (⟨j, hj, rfl⟩ | hx)
          · exact ⟨j, by omega, rfl⟩
          · exact ⟨m, by omega, (List.mem_singleton.1 hx).symm⟩
        · rintro ⟨j, hj, rfl⟩
          rcases Nat.lt_or_eq_of_le (Nat.le_of_lt_succ hj) with h | rfl
          · exact .inl ⟨j, h, rfl⟩
          · exact .inr (by simp)
    · have hk' : ¬ Lib.keeps d m = true := by simpa [Lib.keeps] using hk
      rw [if_neg hk', List.append_nil]
      refine ⟨h1, fun x => ?_⟩
      rw [h2]
      constructor
      · rintro ⟨j, hj, rfl⟩
        exact ⟨j, by omega, rfl⟩
      · rintro ⟨j, hj, rfl⟩
        rcases Nat.lt_or_eq_of_le (Nat.le_of_lt_succ hj) with h | rfl
        · exact ⟨j, h, rfl⟩
        · have h5 : j ≠ 0 := fun e => hk (.inl e)
          have h6 : d[j]! = d[j - 1]! := by
            rcases Classical.em (d[j]! = d[j - 1]!) with h | h
            · exact h
            · exact absurd (.inr h) hk
          exact ⟨j - 1, by omega, h6.symm⟩

theorem compact_sorted {l : List Int} (h : l.Pairwise (· ≤ ·)) : (Lib.compact l).Pairwise (· < ·) ∧ ∀ x, x ∈ Lib.compact l ↔ x ∈ l := by
  have hd : ∀ i j, i ≤ j → j < l.toArray.size → l.toArray[i]! ≤ l.toArray[j]! := by
    intro i j hij hj
    have hj' : j < l.length := by simpa using hj
    rw [getElem!_pos l.toArray i (by simp; omega), getElem!_pos l.toArray j (by simp; omega)]
    simp only [List.getElem_toArray]
    rcases Nat.lt_or_eq_of_le hij with h1 | rfl
    · exact (List.pairwise_iff_getElem.1 h) i j (by omega) hj' h1
    · exact Int.le_refl _
  obtain ⟨h1, h2⟩ := compactUpTo_sorted l.toArray hd l.length (by simp)
  refine ⟨h1, fun x => (h2 x).trans ?_⟩
  rw [List.mem_iff_getElem]
  constructor
  · rintro ⟨j, hj, rfl⟩
    exact ⟨j, hj, by rw [getElem!_pos l.toArray j (by simpa using hj)]; simp⟩
  · rintro ⟨j, hj, rfl⟩
    exact ⟨j, hj, by rw [getElem!_pos l.toArray j (by simpa using hj)]; simp⟩

theorem valL_spec (lo hi : Int) (l : List It) : (valL lo hi l).Pairwise (· < ·) ∧ ∀ x, x ∈ valL lo hi l ↔ inB l lo hi x = true := by
  have hs : ((rawL lo hi l).mergeSort fun x y => decide (x ≤ y)).Pairwise (· ≤ ·) := by
    have := List.pairwise_mergeSort (le := fun x y : Int => decide (x ≤ y)) (fun a b c h1 h2 => by simp at *; omega) (fun a b => by simp; omega) (rawL lo hi l)
    simpa using this
  obtain ⟨h1, h2⟩ := compact_sorted hs
  refine ⟨h1, fun x => (h2 x).trans ?_⟩
  rw [List.mem_mergeSort]
  simp only [rawL, List.mem_flatMap, inB, List.any_eq_true, itHas, Bool.and_eq_true]
  constructor
  · rintro ⟨i, hil, hx⟩
    by_cases hm : mayIt i lo hi = true
    · rw [if_pos hm] at hx
      exact ⟨i, hil, hm, (mem_itL hm).1 hx⟩
    · rw [if_neg hm] at hx
      simp at hx
  · rintro ⟨i, hil, hm, hh⟩
    exact ⟨i, hil, by rw [if_pos hm]; exact (mem_itL hm).2 hh⟩

theorem may_bd2 {i : It} {lo hi : Int} (h : mayIt i lo hi = true) : 0 ≤ lo ∧ lo ≤ bF i lo ∧ bT i hi ≤ hi ∧ hi ≤ 9999 := by
  simp only [mayIt, MayP, decide_eq_true_eq] at h
  unfold bF bT
  split <;> (try split) <;> (try split) <;> omega
theorem refVal_spec (lo hi : Int) (l : List It) : (refVal l lo hi).Pairwise (· < ·) ∧ ∀ x, x ∈ refVal l lo hi ↔ inB l lo hi x = true := by
  constructor
  · unfold refVal
    refine List.Pairwise.filter _ ?_
    rw [List.pairwise_map]
    refine List.Pairwise.imp ?_ List.pairwise_lt_range
    intro a b h
    omega
  · intro x
    unfold refVal
    rw [List.mem_filter]
    constructor
    · rintro ⟨_, h⟩; exact h
    · intro h
      refine ⟨?_, h⟩
      simp only [inB, List.any_eq_true, itHas, Bool.and_eq_true, hasB, decide_eq_true_eq] at h
      obtain ⟨i, _, hm, h1, h2, _⟩ := h
      obtain ⟨h3, h4, h5, h6⟩ := may_bd2 hm
      rw [List.mem_map]
      exact ⟨(x - max 0 lo).toNat, List.mem_range.2 (by omega), by omega⟩
/-- The two lists are one. -/
theorem val_eq (lo hi : Int) (l : List It) : valL lo hi l = refVal l lo hi :=
  lt_ext (valL_spec lo hi l).1 (refVal_spec lo hi l).1 fun x => ((valL_spec lo hi l).2 x).trans ((refVal_spec lo hi l).2 x).symm
/-- Bit n of a mask. -/
theorem maskL_mod (l : List Int) (n : Nat) (hn : n < 64) : maskL l / 2 ^ n % 2 = if (n : Int) ∈ l then 1 else 0 := by
  have h := mkN_bit (inL l) 64 n
  rw [Nat.testBit_eq_decide_div_mod_eq] at h
  have h2 : (mkN (inL l) 64 / 2 ^ n) % 2 = 0 ∨ (mkN (inL l) 64 / 2 ^ n) % 2 = 1 := by omega
  have h3 : maskL l / 2 ^ n % 2 = (((mkN (inL l) 64 / 2 ^ n) % 2 : Nat) : Int) := by
    unfold maskL
    push_cast
    rfl
  rw [h3]
  simp only [inL, hn, decide_true, Bool.true_and, decide_eq_decide] at h
  split
  · rename_i hm; rw [h.2 hm]; rfl
  · rename_i hm
    rcases h2 with h2 | h2
    · rw [h2]; rfl
    · exact absurd (h.1 h2) hm

end Go.Proofs.YtochhmkdhdadhaaGreat
