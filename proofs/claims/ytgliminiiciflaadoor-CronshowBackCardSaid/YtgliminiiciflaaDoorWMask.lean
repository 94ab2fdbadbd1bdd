/- Masks: numbers as bits. The walks of mask.Of and of the document's masks. -/
import Derived.Test.YtgliminiiciflaaDoorRows
import Derived.Test.YtgliminiiciflaaDoorPlain
import Derived.Laws.BitsAllLaws
import Derived.Laws.ShiftsVarLaws
namespace Go.Proofs.YtgliminiiciflaaDoor
open Go.RowKit
set_option linter.unusedSimpArgs false
set_option linter.unusedVariables false

/-- The number whose first k bits p tells. -/
def mkN (p : Nat → Bool) : Nat → Nat
  | 0 => 0
  | k + 1 => mkN p k + (if p k then 2 ^ k else 0)
theorem mkN_lt (p : Nat → Bool) : ∀ k, mkN p k < 2 ^ k
  | 0 => by simp [mkN]
  | k + 1 => by
    have := mkN_lt p k
    simp only [mkN, Nat.pow_succ]
    split <;> omega
theorem mkN_bit (p : Nat → Bool) : ∀ k i, (mkN p k).testBit i = (decide (i < k) && p i)
  | 0, i => by simp [mkN]
  | k + 1, i => by
    have ih := mkN_bit p k i
    have hl := mkN_lt p k
    simp only [mkN]
    by_cases hp : p k = true
    · simp only [hp, if_true]
      rw [Nat.add_comm]
      rcases Nat.lt_trichotomy i k with h | h | h
      · rw [Nat.testBit_two_pow_add_gt h, ih]
        simp [h, show i < k + 1 by omega]
      · subst h
        rw [Nat.testBit_two_pow_add_eq, ih]
        simp [hp]
      · rw [Nat.testBit_lt_two_pow (x := 2 ^ k + mkN p k) (i := i) (by
          have : 2 ^ (k + 1) ≤ 2 ^ i := Nat.pow_le_pow_right (by omega) (by omega)
          rw [Nat.pow_succ] at this
          omega)]
        simp [show ¬ i < k + 1 by omega]
    · simp only [hp]
      rcases Nat.lt_trichotomy i k with h | h | h
      · simp [ih, h, show i < k + 1 by omega]
      · subst h; simp [ih]; simp at hp; simp [hp]
      · simp [ih, show ¬ i < k by omega, show ¬ i < k + 1 by omega]
theorem mkN_ext {p q : Nat → Bool} : ∀ {k}, (∀ i, i < k → p i = q i) → mkN p k = mkN q k
  | 0, _ => rfl
  | k + 1, h => by rw [mkN, mkN, mkN_ext (fun i hi => h i (by omega)), h k (by omega)]
theorem mkN_or (p q : Nat → Bool) (k : Nat) : mkN p k ||| mkN q k = mkN (fun i => p i || q i) k := by
  apply Nat.eq_of_testBit_eq
  intro i
  rw [Nat.testBit_or, mkN_bit, mkN_bit, mkN_bit]
  cases decide (i < k) <;> rfl
theorem mkN_and (p q : Nat → Bool) (k : Nat) : mkN p k &&& mkN q k = mkN (fun i => p i && q i) k := by
  apply Nat.eq_of_testBit_eq
  intro i
  rw [Nat.testBit_and, mkN_bit, mkN_bit, mkN_bit]
  cases decide (i < k) <;> simp
theorem mkN_one (n k : Nat) (h : n < k) : mkN (fun i => decide (i = n)) k = 2 ^ n := by
  apply Nat.eq_of_testBit_eq
  intro i
  rw [mkN_bit, Nat.testBit_two_pow]
  by_cases hi : i = n
  · subst hi; simp [h]
  · have : ¬ n = i := fun e => hi e.symm
    simp [hi, this]
theorem mkN_self (m k : Nat) (h : m < 2 ^ k) : mkN (fun i => m.testBit i) k = m := by
  apply Nat.eq_of_testBit_eq
  intro i
  rw [mkN_bit]
  by_cases hi : i < k
  · simp [hi]
  · rw [Nat.testBit_lt_two_pow (Nat.lt_of_lt_of_le h (Nat.pow_le_pow_right (by omega) (by omega)))]
    simp
/-- The least bit taken away. -/
theorem mkN_low (p : Nat → Bool) : ∀ k, mkN p (k + 1) = (if p 0 then 1 else 0) + 2 * mkN (fun i => p (i + 1)) k
  | 0 => by simp [mkN]
  | k + 1 => by
    rw [mkN, mkN_low p k, mkN]
    split <;> split <;> simp [Nat.pow_succ] <;> omega
theorem mkN_none (k : Nat) : mkN (fun _ => false) k = 0 := by
  induction k with
  | zero => rfl
  | succ k ih => simp [mkN, ih]

/-- The mask of numbers. -/
def inL (l : List Int) (i : Nat) : Bool := decide ((i : Int) ∈ l)
def maskL (l : List Int) : Int := (mkN (inL l) 64 : Nat)
theorem maskL_lt (l : List Int) : 0 ≤ maskL l ∧ maskL l < 18446744073709551616 := by
  have := mkN_lt (inL l) 64
  unfold maskL; omega
theorem maskL_nil : maskL [] = 0 := by
  unfold maskL
  have : inL [] = fun _ => false := by funext i; simp [inL]
  rw [this, mkN_none]; rfl
theorem maskL_skip {l : List Int} {x : Int} (h : ¬ (0 ≤ x ∧ x < 64)) : maskL (l ++ [x]) = maskL l := by
  unfold maskL
  rw [mkN_ext (q := inL l)]
  intro i hi
  simp only [inL, List.mem_append, List.mem_singleton]
  have : ¬ (i : Int) = x := by omega
  simp [this]
theorem maskL_put {l : List Int} {x : Int} (h0 : 0 ≤ x) (h1 : x < 64) : bits .or .u64 (maskL l) (2 ^ x.toNat) = maskL (l ++ [x]) := by
  obtain ⟨n, rfl⟩ := Int.eq_ofNat_of_zero_le h0
  have hn : n < 64 := by omega
  have h2 : (2 : Int) ^ ((n : Int)).toNat = ((2 ^ n : Nat) : Int) := by simp
  have h3 : 2 ^ n < 2 ^ 64 := Nat.pow_lt_pow_right (by omega) hn
  rw [h2, maskL, u64_or_nat _ _ (mkN_lt _ _) h3, ← mkN_one n 64 hn, mkN_or, maskL]
  congr 1
  apply mkN_ext
  intro i _
  by_cases hi : (i : Int) ∈ l <;> by_cases hj : i = n <;> simp [inL, hi, hj]
  omega
theorem maskL_put' {l : List Int} {x : Int} (h0 : 0 ≤ x) (h1 : x < 64) : bits .or .u64 (maskL l) (IntKind.u64.wrap (2 ^ x.toNat)) = maskL (l ++ [x]) := by
  have e : IntKind.u64.wrap ((2 : Int) ^ x.toNat) = 2 ^ x.toNat := by
    obtain ⟨n, rfl⟩ := Int.eq_ofNat_of_zero_le h0
    have h2 : (2 : Int) ^ ((n : Int)).toNat = ((2 ^ n : Nat) : Int) := by simp
    have h3 : 2 ^ n < 2 ^ 64 := Nat.pow_lt_pow_right (by omega) (by omega)
    rw [h2]
    have h4 : ((2 ^ n : Nat) : Int) < 18446744073709551616 := by omega
    have h5 : (0 : Int) ≤ ((2 ^ n : Nat) : Int) := Int.natCast_nonneg _
    generalize ((2 ^ n : Nat) : Int) = z at h4 h5 ⊢
    simp [IntKind.wrap, IntKind.bits, IntKind.signed]
    omega
  rw [e, maskL_put h0 h1]

/-- Two lists with the same numbers below 64. -/
theorem maskL_ext {l m : List Int} (h : ∀ i : Nat, i < 64 → ((i : Int) ∈ l ↔ (i : Int) ∈ m)) : maskL l = maskL m := by
  unfold maskL
  rw [mkN_ext]
  intro i hi
  simp only [inL, h i hi]

/-- The bits from n on. -/
def upL (l : List Int) (n : Nat) : Int := (mkN (fun i => inL l (i + n)) (64 - n) : Nat)
theorem upL_zero (l : List Int) : upL l 0 = maskL l := rfl
theorem upL_end (l : List Int) : upL l 64 = 0 := rfl
theorem upL_step (l : List Int) (n : Nat) (h : n < 64) : upL l n = (if inL l n then 1 else 0) + 2 * upL l (n + 1) := by
  obtain ⟨k, hk⟩ : ∃ k, 64 - n = k + 1 := ⟨63 - n, by omega⟩
  unfold upL
  rw [hk, show 64 - (n + 1) = k by omega, mkN_low]
  have : (fun i => inL l (i + 1 + n)) = fun i => inL l (i + (n + 1)) := by funext i; congr 1; omega
  rw [this, Nat.zero_add]
  split <;> simp
theorem upL_bd (l : List Int) (n : Nat) (h : n < 64) : 0 ≤ upL l (n + 1) ∧ upL l (n + 1) < 9223372036854775808 := by
  have h1 := mkN_lt (fun i => inL l (i + (n + 1))) (64 - (n + 1))
  have h2 : 2 ^ (64 - (n + 1)) ≤ 2 ^ 63 := Nat.pow_le_pow_right (by omega) (by omega)
  unfold upL
  omega

end Go.Proofs.YtgliminiiciflaaDoor
