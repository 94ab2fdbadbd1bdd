/- Plain words of masks, for the laws of lowering. -/
import Derived.Test.YtochhmkdhdadhaaGreatWClAQ
import Derived.Test.YtochhmkdhdadhaaGreatWVal2
namespace Go.Proofs.YtochhmkdhdadhaaGreat
open Go.RowKit
set_option linter.unusedSimpArgs false
set_option linter.unusedVariables false

theorem dayP_def (c : Cl) (p : Int → Bool) (n : Int) : dayP c p n = (((hasM (c.m 4) (dD n) && hasM (c.m 6) (wdD n)) || (c.or && (hasM (c.m 4) (dD n) || hasM (c.m 6) (wdD n)))) && (hasM (c.m 3) (mD n) && (hasM (c.m 5) (lenC (yD n) (mD n) - dD n + 1) && (hasW c.y (yD n - 1970) && (nthC c n && p n))))) := rfl
theorem hasM_maskL (l : List Int) (n : Int) : hasM (maskL l) n = decide (0 ≤ n ∧ n < 64 ∧ n ∈ l) := by
  unfold hasM
  rw [decide_eq_decide]
  constructor
  · rintro ⟨h0, h1, h2⟩
    refine ⟨h0, h1, ?_⟩
    rw [maskL_mod l n.toNat (by omega)] at h2
    split at h2
    · rename_i h; rwa [Int.toNat_of_nonneg h0] at h
    · cases h2
  · rintro ⟨h0, h1, h2⟩
    refine ⟨h0, h1, ?_⟩
    rw [maskL_mod l n.toNat (by omega), if_pos (by rwa [Int.toNat_of_nonneg h0])]
theorem hasM_spanM (a b n : Int) (h0 : 0 ≤ n) (h1 : n < 64) : hasM (spanM a b) n = decide (a ≤ n ∧ n ≤ b) := by
  unfold spanM
  rw [hasM_maskL, decide_eq_decide, mem_seqL]
  omega
theorem mkN_not (p : Nat → Bool) : ∀ k, mkN (fun i => !p i) k = 2 ^ k - 1 - mkN p k
  | 0 => rfl
  | k + 1 => by
    have h := mkN_lt p k
    rw [mkN, mkN, mkN_not p k, Nat.pow_succ]
    cases p k <;> simp <;> omega
theorem noMore_of {l m : List Int} (h : ∀ x, 0 ≤ x → x < 64 → x ∈ l → x ∈ m) : noMore (maskL l, maskL m) = true := by
  have hl := maskL_lt l
  have hm := maskL_lt m
  unfold noMore
  rw [beq_iff_eq]
  show bits .andNot .u64 (maskL l) (maskL m) = 0
  rw [u64_andNot _ _ hl.1 hl.2 hm.1 hm.2]
  have e1 : (maskL l).toNat = mkN (inL l) 64 := by unfold maskL; simp
  have e2 : (maskL m).toNat = mkN (inL m) 64 := by unfold maskL; simp
  have e3 : (18446744073709551615 - mkN (inL m) 64) = mkN (fun i => !inL m i) 64 := (mkN_not _ 64).symm
  rw [e1, e2, e3, mkN_and]
  have e4 : mkN (fun i => inL l i && !inL m i) 64 = mkN (fun _ => false) 64 := mkN_ext fun i hi => by
    simp only [inL]
    by_cases hx : (i : Int) ∈ l
    · simp [h (i : Int) (by omega) (by omega) hx]
    · simp [hx]
  rw [e4, mkN_none]
  rfl
theorem m64_L (l : List Int) : M64 (maskL l) := maskL_lt l
theorem m64_S (a b : Int) : M64 (spanM a b) := maskL_lt _
theorem noMore_span {l : List Int} {a b : Int} (h : ∀ x, x ∈ l → a ≤ x ∧ x ≤ b) : noMore (maskL l, spanM a b) = true :=
  noMore_of fun x _ _ hx => by have := h x hx; rw [mem_seqL]; omega
theorem noMore_self (a b : Int) : noMore (spanM a b, spanM a b) = true := noMore_of fun _ _ _ h => h
theorem inB_bd {l : List It} {lo hi x : Int} (h : inB l lo hi x = true) : lo ≤ x ∧ x ≤ hi := by
  simp only [inB, List.any_eq_true, itHas, Bool.and_eq_true, hasB, decide_eq_true_eq] at h
  obtain ⟨i, _, hm, h1, h2, _⟩ := h
  obtain ⟨h3, h4, h5, h6⟩ := may_bd2 hm
  omega
theorem rval_bd {l : List It} {lo hi x : Int} (h : x ∈ refVal l lo hi) : lo ≤ x ∧ x ≤ hi := inB_bd (((refVal_spec lo hi l).2 x).1 h)
theorem hasM_val {l : List It} {lo hi n : Int} (h0 : 0 ≤ n) (h1 : n < 64) : hasM (maskL (refVal l lo hi)) n = inB l lo hi n := by
  rw [hasM_maskL, Bool.eq_iff_iff, decide_eq_true_eq, (refVal_spec lo hi l).2 n]
  exact ⟨fun h => h.2.2, fun h => ⟨h0, h1, h⟩⟩

theorem ord_none {c : Cl} (h0 : c.oi = 0) (h1 : c.ob = false) (h2 : ∀ k, c.od k = 0) : ordC c = true := by
  unfold ordC ordZ
  rw [if_pos h0]
  simp [h0, h1, h2]
theorem hasW_full {n : Int} (h0 : 0 ≤ n) (h1 : n < 400) : hasW fullW n = true := by
  unfold hasW
  rw [decide_eq_true ⟨h0, h1⟩]
  unfold fullW
  rw [hasM_spanM _ _ _ (by omega) (by omega)]
  simp
  omega
end Go.Proofs.YtochhmkdhdadhaaGreat
