/- A field of many items: plain. -/
import Derived.Test.YtgliminiiciflaaDoorRBack
namespace Go.Proofs.YtgliminiiciflaaDoor
open Go.RowKit
set_option linter.unusedSimpArgs false
set_option linter.unusedVariables false

def one1 : It := ⟨1, 1, 0, 0⟩
def star1 : It := ⟨0, 0, 0, 1⟩
theorem one1_may (f : Nat) (hf : f < 5) : one1.k ≠ 3 ∧ MayP one1 (cLo f) (cHi f) := by
  obtain rfl | rfl | rfl | rfl | rfl : f = 0 ∨ f = 1 ∨ f = 2 ∨ f = 3 ∨ f = 4 := by omega
  all_goals decide
theorem star1_may (f : Nat) (hf : f < 5) : star1.k ≠ 3 ∧ MayP star1 (cLo f) (cHi f) := by
  obtain rfl | rfl | rfl | rfl | rfl : f = 0 ∨ f = 1 ∨ f = 2 ∨ f = 3 ∨ f = 4 := by omega
  all_goals decide
theorem itemT_one1 : itemT one1 = [49] := by
  show Lib.itoa 1 = [49]
  have : Lib.itoa ((1 : Nat) : Int) = [49] := by rw [itoa_nat, Lib.decDigits]; rfl
  exact this
theorem fieldT_star1 : fieldT [star1] = [42] := by rw [fieldT_cons]; rfl
/-- So many ones, with commas between. -/
def onesT (j : Nat) : List UInt8 := fieldT (List.replicate (j + 1) one1)
theorem onesT_succ (j : Nat) : onesT (j + 1) = 49 :: 44 :: onesT j := by
  unfold onesT
  rw [List.replicate_succ, fieldT_cons, if_neg (by simp), itemT_one1]; rfl
theorem onesT_zero : onesT 0 = [49] := by
  unfold onesT
  show fieldT [one1] = _
  rw [fieldT_cons, itemT_one1]; rfl
theorem onesT_len (j : Nat) : (onesT j).length = 2 * j + 1 := by
  induction j with
  | zero => rw [onesT_zero]; rfl
  | succ j ih => rw [onesT_succ]; simp [ih]; omega
theorem cItems_over (f : Nat) (hf : f < 5) (q j : Nat) (l : List UInt8) : cItems f q (onesT (q + 1 + j) ++ l) = .error (2 * j + 2 + l.length, 5) := by
  have h0 := one1_may f hf
  induction q with
  | zero =>
    rw [show 0 + 1 + j = j + 1 from by omega, onesT_succ, cItems]
    have := cItem_back f hf one1 (44 :: (onesT j ++ l)) h0.1 h0.2 (.inr rfl)
    rw [itemT_one1] at this
    rw [List.cons_append, List.nil_append] at this
    rw [List.cons_append, List.cons_append, this]
    dsimp only
    rw [pIs_yes]
    dsimp only
    rw [List.length_cons, List.length_append, onesT_len]
    congr 2; omega
  | succ q ih =>
    rw [show q + 1 + 1 + j = (q + 1 + j) + 1 from by omega, onesT_succ, cItems]
    have := cItem_back f hf one1 (44 :: (onesT (q + 1 + j) ++ l)) h0.1 h0.2 (.inr rfl)
    rw [itemT_one1] at this
    rw [List.cons_append, List.nil_append] at this
    rw [List.cons_append, List.cons_append, this]
    dsimp only
    rw [pIs_yes]
    dsimp only
    rw [ih]
/-- The fields: one of so many ones, the others stars. -/
def longF (j i : Nat) : List (List It) := (List.range 5).map fun f => if f = i then List.replicate (j + 1) one1 else [star1]
def longT (j i : Nat) : List UInt8 := lineT (longF j i)
theorem lineT_one (is : List It) : lineT [is] = fieldT is := by rw [lineT_cons, if_pos rfl, List.append_nil]
theorem lineT_more (is js : List It) (r : List (List It)) : lineT (is :: js :: r) = fieldT is ++ 32 :: lineT (js :: r) := by rw [lineT_cons, if_neg (by simp)]
theorem longT_len (j i : Nat) (hi : i < 5) : (longT j i).length = 2 * j + 9 := by
  have e : fieldT (List.replicate (j + 1) one1) = onesT j := rfl
  have h := onesT_len j
  unfold longT longF
  obtain rfl | rfl | rfl | rfl | rfl : i = 0 ∨ i = 1 ∨ i = 2 ∨ i = 3 ∨ i = 4 := by omega
  all_goals simp only [List.range, List.range.loop, List.map_cons, List.map_nil, lineT_one, lineT_more, fieldT_star1, e, h, reduceIte, reduceCtorEq, Nat.reduceEqDiff, List.length_append, List.length_cons, List.length_nil]
  all_goals omega
theorem longF_ok (j i : Nat) (hj : j ≤ 63) : ∀ k is, (longF j i)[k]? = some is → faultI k is = 0 := by
  intro k is h
  unfold longF at h
  rw [List.getElem?_map] at h
  have hk : k < 5 := by
    rcases Nat.lt_or_ge k 5 with h5 | h5
    · exact h5
    · rw [List.getElem?_eq_none (by simpa using h5)] at h; cases h
  rw [List.getElem?_range hk] at h
  simp only [Option.map_some, Option.some.injEq] at h
  subst h
  apply faultI_zero
  split
  · refine ⟨by simp, by simp; omega, fun x hx => ?_⟩
    rw [(List.mem_replicate.1 hx).2]; exact one1_may k hk
  · refine ⟨by simp, by simp, fun x hx => ?_⟩
    rw [List.mem_singleton.1 hx]; exact star1_may k hk
theorem cRead_long_ok (j i : Nat) (hi : i < 5) (hj : j ≤ 63) : cRead (longT j i) = .ok (longF j i, []) :=
  cRead_back _ rfl (longF_ok j i hj) (by have := longT_len j i hi; show (longT j i).length ≤ 8192; omega)
theorem star_step (q f : Nat) (hf : f < 5) (hq : q ≠ 0) (l : List UInt8) (hl : headB blankP l = false) : cFields (q + 1) f (42 :: 32 :: l) = (match cFields q (f + 1) l with | .error e => .error e | .ok (r, l3) => .ok ([star1] :: r, l3)) := by
  rw [cFields]
  have h := cItems_back f hf [star1] 63 (32 :: l) (by simp) (by simp) (by intro i hi; rw [List.mem_singleton.1 hi]; exact star1_may f hf) (.inr rfl)
  rw [fieldT_star1] at h
  rw [show (42 :: 32 :: l : List UInt8) = [42] ++ 32 :: l from rfl, h]
  dsimp only
  have hb : cBetween (32 :: l) = .ok ((), l) := by
    unfold cBetween
    have h2 : (32 :: l).takeWhile blankP ≠ [] := by
      rw [List.takeWhile_cons, if_pos (by decide)]; simp
    rw [if_neg h2, List.dropWhile_cons, if_pos (by decide)]
    have := (take_app (p := blankP) (d := []) (l := l) (by simp) hl).2
    rw [List.nil_append] at this
    rw [this]
  rw [if_neg hq, hb]
  dsimp only
  cases cFields q (f + 1) l <;> rfl
theorem over_step (q f j : Nat) (hf : f < 5) (l : List UInt8) : cFields (q + 1) f (onesT (64 + j) ++ l) = .error (2 * j + 2 + l.length, 5) := by
  rw [cFields, cItems_over f hf 63 j l]
theorem onesT_head (j : Nat) (l : List UInt8) : headB blankP (onesT j ++ l) = false ∧ headB (· == 64) (onesT j ++ l) = false := by
  cases j with
  | zero => rw [onesT_zero]; exact ⟨rfl, rfl⟩
  | succ j => rw [onesT_succ]; exact ⟨rfl, rfl⟩
theorem cFields_long (j i : Nat) (hi : i < 5) : cFields 5 0 (longT (64 + j) i) = .error (2 * j + 10 - 2 * i, 5) ∧ headB blankP (longT (64 + j) i) = false ∧ headB (· == 64) (longT (64 + j) i) = false := by
  have e : fieldT (List.replicate (64 + j + 1) one1) = onesT (64 + j) := rfl
  unfold longT longF
  obtain rfl | rfl | rfl | rfl | rfl : i = 0 ∨ i = 1 ∨ i = 2 ∨ i = 3 ∨ i = 4 := by omega
  all_goals simp only [List.range, List.range.loop, List.map_cons, List.map_nil, lineT_one, lineT_more, fieldT_star1, e, reduceIte, reduceCtorEq, Nat.reduceEqDiff, List.cons_append, List.nil_append]
  · refine ⟨?_, onesT_head _ _⟩
    rw [over_step 4 0 j (by decide)]; rfl
  · refine ⟨?_, rfl, rfl⟩
    rw [star_step 4 0 (by decide) (by decide) _ (onesT_head _ _).1, over_step 3 1 j (by decide)]; rfl
  · refine ⟨?_, rfl, rfl⟩
    rw [star_step 4 0 (by decide) (by decide) _ rfl, star_step 3 1 (by decide) (by decide) _ (onesT_head _ _).1, over_step 2 2 j (by decide)]; rfl
  · refine ⟨?_, rfl, rfl⟩
    rw [star_step 4 0 (by decide) (by decide) _ rfl, star_step 3 1 (by decide) (by decide) _ rfl, star_step 2 2 (by decide) (by decide) _ (onesT_head _ _).1, over_step 1 3 j (by decide)]; rfl
  · refine ⟨?_, rfl, rfl⟩
    have h := onesT_head (64 + j) []
    rw [List.append_nil] at h
    have h2 := over_step 0 4 j (by decide) []
    rw [List.append_nil] at h2
    rw [star_step 4 0 (by decide) (by decide) _ rfl, star_step 3 1 (by decide) (by decide) _ rfl, star_step 2 2 (by decide) (by decide) _ rfl, star_step 1 3 (by decide) (by decide) _ h.1, h2]; rfl
theorem cRead_long_err (j i : Nat) (hi : i < 5) (hj : j ≤ 1000) : cRead (longT (64 + j) i) = .error (2 * j + 10 - 2 * i, 5) := by
  obtain ⟨h1, h2, h3⟩ := cFields_long j i hi
  have hl := longT_len (64 + j) i hi
  have h4 : (longT (64 + j) i).dropWhile blankP = longT (64 + j) i := by
    have := (take_app (p := blankP) (d := []) (l := longT (64 + j) i) (by simp) h2).2
    rwa [List.nil_append] at this
  unfold cRead
  rw [if_neg (by omega), h4, if_neg (by rw [h3]; simp)]
  unfold cTail
  rw [h1]
theorem cRead_far (l : List UInt8) (h : 8192 < l.length) : cRead l = .error (l.length - 8192, 5) := by unfold cRead; rw [if_pos h]
end Go.Proofs.YtgliminiiciflaaDoor
