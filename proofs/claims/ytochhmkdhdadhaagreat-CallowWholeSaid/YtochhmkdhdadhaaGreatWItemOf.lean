/- The walk of item.Of. -/
import Derived.Test.YtochhmkdhdadhaaGreatWArr
import Derived.Test.YtochhmkdhdadhaaGreatRows
import Derived.Laws.BitsAllLaws
import Derived.Laws.ShiftsVarLaws
import Derived.Test.YtochhmkdhdadhaaGreatWSl
import Derived.Test.YtochhmkdhdadhaaGreatWClone
/- The walks of cover: may, first, Len, Of. -/
namespace Go.Proofs.YtochhmkdhdadhaaGreat
open Go.RowKit
set_option linter.unusedSimpArgs false
set_option linter.unusedVariables false

theorem wrap64_of {x : Int} (h0 : -9223372036854775808 ≤ x) (h1 : x ≤ 9223372036854775807) : IntKind.i64.wrap x = x := by
  simp [IntKind.wrap, IntKind.bits, IntKind.signed]; omega

/-- Numbers that may be told as pieces: each of 0 .. 9999, rising. -/
def mayPc : Option Int → List Int → Bool
  | _, [] => true
  | p, x :: l => decide (0 ≤ x ∧ x ≤ 9999 ∧ ∀ y, p = some y → y < x) && mayPc (some x) l
def prevC (l : List Int) : Nat → Option Int
  | 0 => none
  | k + 1 => l[k]?
theorem drop_at {α : Type} {l : List α} {k : Nat} {x : α} (h : l[k]? = some x) : l.drop k = x :: l.drop (k + 1) := by
  obtain ⟨h1, h2⟩ := List.getElem?_eq_some_iff.1 h
  rw [List.drop_eq_getElem_cons h1, h2]

/-- A piece. -/
structure Pc where
  f : Int
  t : Int
  s : Int
  deriving DecidableEq
def pcEnc (p : Pc) : List Value := [.int .i64 p.f, .int .i64 p.t, .int .i64 p.s]
theorem pcEnc_len (p : Pc) : (pcEnc p).length = 3 := rfl
abbrev pcV (p : Pc) : Value := .agg #[.int .i64 p.f, .int .i64 p.t, .int .i64 p.s]
abbrev RdPcs (w : World) (A : Option Addr) (n : Nat) (l : List Pc) : Prop := Rd 3 pcEnc w A n l
theorem RdPcs.at_ {w : World} {A : Option Addr} {n : Nat} {l : List Pc} (h : RdPcs w A n l) {i : Nat} (hi : i < n) :
    ∃ b o p, A = some ⟨b, o, none⟩ ∧ b < w.heap.size ∧ l[i]? = some p ∧ w.cell? ⟨b, o + i * 3, none⟩ = some (.int .i64 p.f) ∧ w.cell? ⟨b, o + i * 3 + 1, none⟩ = some (.int .i64 p.t) ∧
    w.cell? ⟨b, o + i * 3 + 2, none⟩ = some (.int .i64 p.s) := by
  obtain ⟨b, o, it, e, hlt, hl, hc⟩ := h.gen hi
  exact ⟨b, o, it, e, hlt, hl, hc 0 _ rfl, hc 1 _ rfl, hc 2 _ rfl⟩

/-- How many more follow, each s above the one ahead. -/
def runC (s : Int) : Int → List Int → Nat
  | _, [] => 0
  | a, b :: l => if b - a = s then runC s b l + 1 else 0
def stepC (a : Int) : List Int → Int
  | [] => 1
  | b :: _ => b - a
def manyC (a : Int) (l : List Int) : Nat := runC (stepC a l) a l + 1
theorem runC_le (s a : Int) (l : List Int) : runC s a l ≤ l.length := by
  induction l generalizing a with
  | nil => simp [runC]
  | cons b l ih => simp only [runC]; split <;> simp [ih]
/-- The first piece, and how many numbers it has. -/
def pieceC (a : Int) (l : List Int) : Pc × Nat := if manyC a l = 1 ∨ manyC a l = 2 ∧ 1 < stepC a l then (⟨a, a, 1⟩, 1) else (⟨a, (a :: l).getD (manyC a l - 1) 0, stepC a l⟩, manyC a l)

/-- The numbers of a list are of 0 .. 9999. -/
def InC (l : List Int) : Prop := ∀ (j : Nat) x, l[j]? = some x → 0 ≤ x ∧ x ≤ 9999

end Go.Proofs.YtochhmkdhdadhaaGreat

/- Masks: numbers as bits. The walks of mask.Of and of the document's masks. -/
namespace Go.Proofs.YtochhmkdhdadhaaGreat
open Go.RowKit
set_option linter.unusedSimpArgs false
set_option linter.unusedVariables false

/-- The number whose first k bits p tells. -/
def mkN (p : Nat → Bool) : Nat → Nat
  | 0 => 0
  | k + 1 => mkN p k + (if p k then 2 ^ k else 0)
theorem mkN_lt (p : Nat → Bool) : ∀ k, mkN p k < 2 ^ k
  | 0 => by simp [mkN]
  | k + 1 => by
    have := mkN_lt p k
    simp only [mkN, Nat.pow_succ]
    split <;> omega
theorem mkN_bit (p : Nat → Bool) : ∀ k i, (mkN p k).testBit i = (decide (i < k) && p i)
  | 0, i => by simp [mkN]
  | k + 1, i => by
    have ih := mkN_bit p k i
    have hl := mkN_lt p k
    simp only [mkN]
    by_cases hp : p k = true
    · simp only [hp, if_true]
      rw [Nat.add_comm]
      rcases Nat.lt_trichotomy i k with h | h | h
      · rw [Nat.testBit_two_pow_add_gt h, ih]
        simp [h, show i < k + 1 by omega]
      · subst h
        rw [Nat.testBit_two_pow_add_eq, ih]
        simp [hp]
      · rw [Nat.testBit_lt_two_pow (x := 2 ^ k + mkN p k) (i := i) (by
          have : 2 ^ (k + 1) ≤ 2 ^ i := Nat.pow_le_pow_right (by omega) (by omega)
          rw [Nat.pow_succ] at this
          omega)]
        simp [show ¬ i < k + 1 by omega]
    · simp only [hp]
      rcases Nat.lt_trichotomy i k with h | h | h
      · simp [ih, h, show i < k + 1 by omega]
      · subst h; simp [ih]; simp at hp; simp [hp]
      · simp [ih, show ¬ i < k by omega, show ¬ i < k + 1 by omega]
theorem mkN_ext {p q : Nat → Bool} : ∀ {k}, (∀ i, i < k → p i = q i) → mkN p k = mkN q k
  | 0, _ => rfl
  | k + 1, h => by rw [mkN, mkN, mkN_ext (fun i hi => h i (by omega)), h k (by omega)]
theorem mkN_or (p q : Nat → Bool) (k : Nat) : mkN p k ||| mkN q k = mkN (fun i => p i || q i) k := by
  apply Nat.eq_of_testBit_eq
  intro i
  rw [Nat.testBit_or, mkN_bit, mkN_bit, mkN_bit]
  cases decide (i < k) <;> rfl
theorem mkN_and (p q : Nat → Bool) (k : Nat) : mkN p k &&& mkN q k = mkN (fun i => p i && q i) k := by
  apply Nat.eq_of_testBit_eq
  intro i
  rw [Nat.testBit_and, mkN_bit, mkN_bit, mkN_bit]
  cases decide (i < k) <;> simp
theorem mkN_one (n k : Nat) (h : n < k) : mkN (fun i => decide (i = n)) k = 2 ^ n := by
  apply Nat.eq_of_testBit_eq
  intro i
  rw [mkN_bit, Nat.testBit_two_pow]
  by_cases hi : i = n
  · subst hi; simp [h]
  · have : ¬ n = i := fun e => hi e.symm
    simp [hi, this]
theorem mkN_self (m k : Nat) (h : m < 2 ^ k) : mkN (fun i => m.testBit i) k = m := by
  apply Nat.eq_of_testBit_eq
  intro i
  rw [mkN_bit]
  by_cases hi : i < k
  · simp [hi]
  · rw [Nat.testBit_lt_two_pow (Nat.lt_of_lt_of_le h (Nat.pow_le_pow_right (by omega) (by omega)))]
    simp
/-- The least bit taken away. -/
theorem mkN_low (p : Nat → Bool) : ∀ k, mkN p (k + 1) = (if p 0 then 1 else 0) + 2 * mkN (fun i => p (i + 1)) k
  | 0 => by simp [mkN]
  | k + 1 => by
    rw [mkN, mkN_low p k, mkN]
    split <;> split <;> simp [Nat.pow_succ] <;> omega
theorem mkN_none (k : Nat) : mkN (fun _ => false) k = 0 := by
  induction k with
  | zero => rfl
  | succ k ih => simp [mkN, ih]

/-- The mask of numbers. -/
def inL (l : List Int) (i : Nat) : Bool := decide ((i : Int) ∈ l)
def maskL (l : List Int) : Int := (mkN (inL l) 64 : Nat)
theorem maskL_lt (l : List Int) : 0 ≤ maskL l ∧ maskL l < 18446744073709551616 := by
  have := mkN_lt (inL l) 64
  unfold maskL; omega
theorem maskL_nil : maskL [] = 0 := by
  unfold maskL
  have : inL [] = fun _ => false := by funext i; simp [inL]
  rw [this, mkN_none]; rfl
theorem maskL_skip {l : List Int} {x : Int} (h : ¬ (0 ≤ x ∧ x < 64)) : maskL (l ++ [x]) = maskL l := by
  unfold maskL
  rw [mkN_ext (q := inL l)]
  intro i hi
  simp only [inL, List.mem_append, List.mem_singleton]
  have : ¬ (i : Int) = x := by omega
  simp [this]
theorem maskL_put {l : List Int} {x : Int} (h0 : 0 ≤ x) (h1 : x < 64) : bits .or .u64 (maskL l) (2 ^ x.toNat) = maskL (l ++ [x]) := by
  obtain ⟨n, rfl⟩ := Int.eq_ofNat_of_zero_le h0
  have hn : n < 64 := by omega
  have h2 : (2 : Int) ^ ((n : Int)).toNat = ((2 ^ n : Nat) : Int) := by simp
  have h3 : 2 ^ n < 2 ^ 64 := Nat.pow_lt_pow_right (by omega) hn
  rw [h2, maskL, u64_or_nat _ _ (mkN_lt _ _) h3, ← mkN_one n 64 hn, mkN_or, maskL]
  congr 1
  apply mkN_ext
  intro i _
  by_cases hi : (i : Int) ∈ l <;> by_cases hj : i = n <;> simp [inL, hi, hj]
  omega
theorem maskL_put' {l : List Int} {x : Int} (h0 : 0 ≤ x) (h1 : x < 64) : bits .or .u64 (maskL l) (IntKind.u64.wrap (2 ^ x.toNat)) = maskL (l ++ [x]) := by
  have e : IntKind.u64.wrap ((2 : Int) ^ x.toNat) = 2 ^ x.toNat := by
    obtain ⟨n, rfl⟩ := Int.eq_ofNat_of_zero_le h0
    have h2 : (2 : Int) ^ ((n : Int)).toNat = ((2 ^ n : Nat) : Int) := by simp
    have h3 : 2 ^ n < 2 ^ 64 := Nat.pow_lt_pow_right (by omega) (by omega)
    rw [h2]
    have h4 : ((2 ^ n : Nat) : Int) < 18446744073709551616 := by omega
    have h5 : (0 : Int) ≤ ((2 ^ n : Nat) : Int) := Int.natCast_nonneg _
    generalize ((2 ^ n : Nat) : Int) = z at h4 h5 ⊢
    simp [IntKind.wrap, IntKind.bits, IntKind.signed]
    omega
  rw [e, maskL_put h0 h1]

set_option maxHeartbeats 1000000 in
theorem maskOf_any (A : Option Addr) (n c : Nat) (l : List Int) (w : World) (hA : RdInts w A n l) (hn : n ≤ 9223372036854775807) :
    Calls Tryz.prog 53 #[.slice A n c] w (RetQ (.int .u64 (maskL l)) w) := by
  have HL : Hid (l.length = n) := hA.1
  have HA := Lib.hid hA
  clear hA
  go_enter Tryz.func53, Tryz.ntmps53
  go_wp2
  go_loopw [3, 8] (fun m i wr => ∃ k : Nat, k ≤ n ∧ i = .int .i64 k ∧ Hid (m = .int .u64 (maskL (l.take k))) ∧ wr = w) (fun _ i _ => n - (intOf i).toNat)
  case atStart => exact ⟨0, Nat.zero_le _, rfl, by show _ = _; rw [List.take_zero, maskL_nil], rfl⟩
  case round =>
    obtain ⟨k, hk, rfl, HM, rfl⟩ := hrel
    by_cases hlt : k < n
    · obtain ⟨b, o, x, rfl, hbl, hx, c0⟩ := RdInts.at_ HA.out hlt
      have hlt' : (k : Int) < (n : Int) := by omega
      have hts : l.take (k + 1) = l.take k ++ [x] := by rw [List.take_add_one, hx]; rfl
      obtain rfl := HM.out
      clear hx HM
      by_cases hx : 0 ≤ x ∧ x < 64
      · obtain ⟨hx0, hx1⟩ := hx
        have HP : Hid (bits .or .u64 (maskL (l.take k)) (IntKind.u64.wrap (2 ^ x.toNat)) = maskL (l.take (k + 1))) := by
          show _ = _
          rw [hts]; exact maskL_put' hx0 hx1
        clear hts
        go_wp2
        go_roundw
        case rel => exact ⟨k + 1, by omega, by go_num, by show _ = _; rw [HP.out], by trivial⟩
        case measure => simp [intOf]; omega
      · have HP : Hid (maskL (l.take k) = maskL (l.take (k + 1))) := by
          show _ = _
          rw [hts, maskL_skip hx]
        clear hts
        by_cases hx0 : x < 0
        · clear hx
          go_wp2
          go_roundw
          case rel => exact ⟨k + 1, by omega, by go_num, by show _ = _; rw [HP.out], by trivial⟩
          case measure => simp [intOf]; omega
        · have hx1 : ¬ x < 64 := by omega
          clear hx
          go_wp2
          go_roundw
          case rel => exact ⟨k + 1, by omega, by go_num, by show _ = _; rw [HP.out], by trivial⟩
          case measure => simp [intOf]; omega
    · obtain rfl : k = n := by omega
      have HE : Hid (maskL (l.take k) = maskL l) := by
        show _ = _
        rw [List.take_of_length_le (by have := HL.out; omega)]
      obtain rfl := HM.out
      clear HM
      go_wp2
      go_ret
      refine ⟨?_, rfl⟩
      rw [← HE.out]
      rfl

/-- Two lists with the same numbers below 64. -/
theorem maskL_ext {l m : List Int} (h : ∀ i : Nat, i < 64 → ((i : Int) ∈ l ↔ (i : Int) ∈ m)) : maskL l = maskL m := by
  unfold maskL
  rw [mkN_ext]
  intro i hi
  simp only [inL, h i hi]

/-- The bits from n on. -/
def upL (l : List Int) (n : Nat) : Int := (mkN (fun i => inL l (i + n)) (64 - n) : Nat)
theorem upL_zero (l : List Int) : upL l 0 = maskL l := rfl
theorem upL_end (l : List Int) : upL l 64 = 0 := rfl
theorem upL_step (l : List Int) (n : Nat) (h : n < 64) : upL l n = (if inL l n then 1 else 0) + 2 * upL l (n + 1) := by
  obtain ⟨k, hk⟩ : ∃ k, 64 - n = k + 1 := ⟨63 - n, by omega⟩
  unfold upL
  rw [hk, show 64 - (n + 1) = k by omega, mkN_low]
  have : (fun i => inL l (i + 1 + n)) = fun i => inL l (i + (n + 1)) := by funext i; congr 1; omega
  rw [this, Nat.zero_add]
  split <;> simp
theorem upL_bd (l : List Int) (n : Nat) (h : n < 64) : 0 ≤ upL l (n + 1) ∧ upL l (n + 1) < 9223372036854775808 := by
  have h1 := mkN_lt (fun i => inL l (i + (n + 1))) (64 - (n + 1))
  have h2 : 2 ^ (64 - (n + 1)) ≤ 2 ^ 63 := Nat.pow_le_pow_right (by omega) (by omega)
  unfold upL
  omega

set_option maxHeartbeats 1000000 in
/-- The document's mask of a list. -/
theorem rmaskOf_any (A : Option Addr) (n c : Nat) (l : List Int) (w : World) (hA : RdInts w A n l) (hn : n ≤ 9223372036854775806) :
    Calls Tryz.prog 28 #[.slice A n c] w (RetQ (.int .u64 (maskL l)) w) := by
  have HL : Hid (l.length = n) := hA.1
  have HA := Lib.hid hA
  clear hA
  go_enter Tryz.func28, Tryz.ntmps28
  go_wp2
  go_loopw [3, 4] (fun m i wr => ∃ k : Nat, k ≤ 64 ∧ i = .int .i64 ((k : Int) - 1) ∧ Hid (m = .int .u64 (upL l k)) ∧ wr = w) (fun _ i _ => (intOf i + 1).toNat)
  case atStart => exact ⟨64, Nat.le_refl _, by go_num, rfl, rfl⟩
  case round =>
    obtain ⟨k, hk, rfl, HM, rfl⟩ := hrel
    rcases k with _ | k
    · have HE : Hid (upL l 0 = maskL l) := rfl
      obtain rfl := HM.out
      clear HM
      go_wp2
      go_ret
      exact ⟨by rw [← HE.out]; rfl, rfl⟩
    · have e1 : ((k + 1 : Nat) : Int) - 1 = (k : Int) := by omega
      rw [e1]
      clear e1
      obtain rfl := HM.out
      clear HM
      have hu := upL_bd l k (by omega)
      have HU := Lib.hid (upL_step l k (by omega))
      obtain ⟨hu0, hu1⟩ := hu
      go_wp2
      go_loopw [3, 5] (fun m i wq => ∃ j : Nat, m = .int .u64 (2 * upL l (k + 1)) ∧ j ≤ n ∧ i = .int .i64 j ∧ Hid (∀ i, i < j → l[i]? ≠ some (k : Int)) ∧ wq = wr) (fun _ i _ => n - (intOf i).toNat)
      case atStart => exact ⟨0, by go_num, Nat.zero_le _, rfl, fun i h => absurd h (Nat.not_lt_zero _), rfl⟩
      case round =>
        obtain ⟨j, rfl, hj, rfl, HN, rfl⟩ := hrel
        by_cases hlt : j < n
        · obtain ⟨b, o, x, rfl, hbl, hx, c0⟩ := RdInts.at_ HA.out hlt
          have hlt' : (j : Int) < (n : Int) := by omega
          by_cases he : x = (k : Int)
          · have HI : Hid (inL l k = true) := by
              show _ = _
              simp only [inL, decide_eq_true_eq]
              exact List.mem_of_getElem? (he ▸ hx)
            subst he
            have he' : (((k : Int)) == (k : Int)) = true := by simp
            clear hx
            go_wp2
            go_roundw
            case rel => exact ⟨k, by omega, by go_num, by show _ = _; rw [HU.out, HI.out]; simp; omega, by trivial⟩
            case measure => simp [intOf]
          · have he' : (x == (k : Int)) = false := by simpa using he
            have HN2 : Hid (∀ i, i < j + 1 → l[i]? ≠ some (k : Int)) := by
              intro i hi
              rcases Nat.lt_or_eq_of_le (Nat.le_of_lt_succ hi) with h | rfl
              · exact HN.out i h
              · rw [hx]; intro e; exact he (by injection e)
            clear hx he
            go_wp2
            go_roundw
            case rel => exact ⟨j + 1, rfl, by omega, by go_num, HN2, by trivial⟩
            case measure => simp [intOf] <;> omega
        · obtain rfl : j = n := by omega
          have HI : Hid (inL l k = false) := by
            show _ = _
            simp only [inL, decide_eq_false_iff_not]
            intro hm
            obtain ⟨i, hi, e⟩ := List.mem_iff_getElem.1 hm
            exact HN.out i (by have := HL.out; omega) (by rw [List.getElem?_eq_getElem hi, e])
          clear HN
          go_wp2
          go_roundw
          case rel => exact ⟨k, by omega, by go_num, by show _ = _; rw [HU.out, HI.out]; simp, by trivial⟩
          case measure => simp [intOf]
end Go.Proofs.YtochhmkdhdadhaaGreat

/- The walks of cover.Len and cover.Of. -/
namespace Go.Proofs.YtochhmkdhdadhaaGreat
open Go.RowKit
set_option linter.unusedSimpArgs false
set_option linter.unusedVariables false

/-- How many numbers a piece has. -/
def LenP (p : Pc) : Prop := 0 ≤ p.f ∧ p.f ≤ p.t ∧ p.t ≤ 9999 ∧ 1 ≤ p.s ∧ (p.t - p.f) % p.s = 0
instance (p : Pc) : Decidable (LenP p) := by unfold LenP; infer_instance
def lenPc (p : Pc) : Int := if LenP p then (p.t - p.f) / p.s + 1 else 0

/-- The pieces of numbers that may be told so (k rounds at most). -/
def coverF : Nat → List Int → List Pc
  | 0, _ => []
  | _, [] => []
  | k + 1, a :: l => (pieceC a l).1 :: coverF k ((a :: l).drop (pieceC a l).2)
def coverL (l : List Int) : List Pc := if mayPc none l then coverF l.length l else []
theorem mayC_in {l : List Int} : ∀ {p : Option Int}, mayPc p l = true → InC l := by
  induction l with
  | nil => intro p _ j x h; simp at h
  | cons a l ih =>
    intro p h j x hx
    simp only [mayPc, Bool.and_eq_true, decide_eq_true_eq] at h
    rcases j with _ | j
    · obtain rfl : a = x := by simpa using hx
      exact ⟨h.1.1, h.1.2.1⟩
    · exact ih h.2 j x (by simpa using hx)
theorem InC.drop {l : List Int} (h : InC l) (m : Nat) : InC (l.drop m) := fun j x hx => h (m + j) x (by rw [List.getElem?_drop] at hx; exact hx)
theorem RdInts.drop {w : World} {b o n : Nat} {l : List Int} (h : RdInts w (some ⟨b, o, none⟩) n l) (m : Nat) : RdInts w (some ⟨b, o + m, none⟩) (n - m) (l.drop m) :=
  ⟨by rw [List.length_drop, h.1], fun hn => by
    obtain ⟨b', o', e, hlt, hc⟩ := h.2 (by omega)
    cases e
    exact ⟨b, o + m, rfl, hlt, fun i x hi j v hj => by
      have := hc (m + i) x (by rw [List.getElem?_drop] at hi; exact hi) j v hj
      rwa [show o + (m + i) * 1 + j = o + m + i * 1 + j by omega] at this⟩⟩

end Go.Proofs.YtochhmkdhdadhaaGreat

namespace Go.Proofs.YtochhmkdhdadhaaGreat
open Go.RowKit
set_option linter.unusedSimpArgs false
set_option linter.unusedVariables false

def itP (p : Pc) : It := if lenPc p = 1 then ⟨1, p.f, 0, 0⟩ else ⟨2, p.f, p.t, p.s⟩
def itemsOf (lo hi : Int) (l : List Int) (star : Bool) : List It := if star = true ∧ coverL l = [⟨lo, hi, 1⟩] then [⟨0, 0, 0, 1⟩] else (coverL l).map itP
def RetOwnIts (l : List It) (w : World) (e : Ending) (w' : World) : Prop := ∃ v, e = .returned v ∧ OwnIts w' w.heap.size v l ∧ Below w.heap.size w w'
theorem coverF_len : ∀ k l, (coverF k l).length ≤ k
  | 0, _ => by simp [coverF]
  | k + 1, [] => by simp [coverF]
  | k + 1, a :: l => by simp only [coverF, List.length_cons]; have := coverF_len k ((a :: l).drop (pieceC a l).2); omega
theorem coverL_len (l : List Int) : (coverL l).length ≤ l.length := by
  unfold coverL
  split
  · exact coverF_len _ _
  · simp
def pcEq (a b : Pc) : Bool := decide (a = b)
theorem pcEq_def (a b : Pc) : pcEq a b = (decide (a.f = b.f) && (decide (a.t = b.t) && decide (a.s = b.s))) := by
  cases a; cases b
  simp [pcEq]
end Go.Proofs.YtochhmkdhdadhaaGreat
