/- The walk of the law RuleshowParts. -/
import Derived.Test.YtnelecjjbmjhaaaGreatDoorWRuI
namespace Go.Proofs.YtnelecjjbmjhaaaGreatDoor
open Go.RowKit
set_option linter.unusedSimpArgs false
set_option linter.unusedVariables false

/-- Is a rule more than is gone through? -/
def rgreat (n : Nat → Nat) : Bool := decide (600 < n 5 + n 6 + n 7 + n 8 + n 9 + n 10)
theorem rgreat_le {n : Nat → Nat} (h : rgreat n = false) : ∀ k, 5 ≤ k → k ≤ 10 → n k ≤ 600 := by
  unfold rgreat at h
  rw [decide_eq_false_iff_not] at h
  intro k h1 h2
  obtain rfl | rfl | rfl | rfl | rfl | rfl : k = 5 ∨ k = 6 ∨ k = 7 ∨ k = 8 ∨ k = 9 ∨ k = 10 := by omega
  all_goals omega
set_option maxHeartbeats 1000000 in
theorem rgreat_any (r : RuV) (A : Nat → Option Addr) (n c : Nat → Nat) (w : World) (hn : ∀ k, n k ≤ 140737488355328) : Calls Tryz.prog 7 #[ruV r A n c] w (Ret (.bool (rgreat n)) w) := by
  have HR : Hid (rgreat n = decide ((600 : Int) < (n 5 : Int) + (n 6 : Int) + (n 7 : Int) + (n 8 : Int) + (n 9 : Int) + (n 10 : Int))) := by
    show _ = _
    unfold rgreat
    rw [Bool.eq_iff_iff, decide_eq_true_eq, decide_eq_true_eq]
    omega
  have h5 := hn 5
  have h6 := hn 6
  have h7 := hn 7
  have h8 := hn 8
  have h9 := hn 9
  have h10 := hn 10
  clear hn
  generalize rgreat n = q at *
  unfold ruV
  generalize n 5 = n5 at *
  generalize n 6 = n6 at *
  generalize n 7 = n7 at *
  generalize n 8 = n8 at *
  generalize n 9 = n9 at *
  generalize n 10 = n10 at *
  go_enter Tryz.func7, Tryz.ntmps7
  go_wp2
  go_ret
  exact ⟨ret_bool HR.out.symm, by (repeat' (first | (with_reducible exact Below.refl _ _) | (with_reducible assumption) | (with_reducible refine below_drewN ?_ _) | (with_reducible refine Below.alloc ?_ ?_ _) | (with_reducible refine Below.drew ?_) | (with_reducible refine Below.setCell ?_ ?_ _) | go_size))⟩
def ex34 : List UInt8 := [45, 49, 70, 82]
theorem ex34_text : nthT (-1, 5) = ex34 := by
  have : Lib.itoa (-1) = [45, 49] := by
    unfold Lib.itoa
    rw [if_pos (by decide)]
    rw [show ((-1 : Int)).natAbs = 1 by decide, Lib.decDigits, dif_pos (by decide)]
    rfl
  unfold nthT
  rw [if_neg (by decide), if_neg (by decide), this]
  rfl
theorem lives34_any (w : World) (hw : Pow w) : Calls Tryz.prog 8 #[] w (Ret (.bool true) w) := by
  have H := Lib.hid (weekday_any (-1, 5) (by constructor <;> decide) w hw)
  rw [ex34_text] at H
  clear hw
  go_enter Tryz.func8, Tryz.ntmps8
  go_wp2_with fail
  refine H.out.mono ?_
  rintro e w1 ⟨rfl, hb⟩
  go_wp2
  go_ret
  exact ⟨ret_bool (by rw [ByteArray.toList_eq, strB_data]; rfl), hb⟩
/-- A rule with some parts less. -/
def lessR (r : RuV) : RuV := { r with iv := 1, ct := 0, un := -1, ho := [] }
theorem lessR_chk {r : RuV} (h : chkR r = 0) : chkR (lessR r) = 0 := by
  have hall : ∀ j, j < 7 → faultR r j = 0 := by
    intro j
    induction j using Nat.strongRecOn with
    | _ j ih =>
      intro hj
      false_or_by_contra
      rename_i h1
      have := chkR_at hj (fun i hi => ih i hi (by omega)) h1
      rw [h] at this
      exact h1 this.symm
  apply chkR_all
  intro j hj
  have h0 := hall j hj
  obtain rfl | rfl | rfl | rfl | rfl | rfl | rfl : j = 0 ∨ j = 1 ∨ j = 2 ∨ j = 3 ∨ j = 4 ∨ j = 5 ∨ j = 6 := by omega
  · have h0 : headE r = 0 := h0
    show headE (lessR r) = 0
    unfold headE at h0 ⊢
    by_cases h4 : inC r.st = false ∨ unT r.fr = [] ∨ r.iv < 1 ∨ 1000000000000000 < r.iv ∨ r.ct < 0 ∨ 1000000000000000 < r.ct
    · rw [if_pos h4] at h0; cases h0
    · rw [if_neg (by
        rintro (h | h | h)
        · exact h4 (.inl h)
        · exact h4 (.inr (.inl h))
        · revert h; show ¬ ((1 : Int) < 1 ∨ 1000000000000000 < (1 : Int) ∨ (0 : Int) < 0 ∨ 1000000000000000 < (0 : Int)); omega), if_neg (fun h => h.1 rfl), if_neg (fun h => h.1 rfl)]
  · exact h0
  · exact h0
  · exact h0
  · rfl
  · exact h0
  · exact h0
/-- Has a rule one of the parts? -/
def fewR (r : RuV) : Prop := 0 < r.ho.length ∨ r.ct ≠ 0 ∨ r.un ≠ -1 ∨ r.iv ≠ 1
theorem unlT_zero {nm tx : List UInt8} {n q : Int} (h : n = q) : unlT nm n q tx = [] := if_pos h
theorem unlT_pos {nm tx : List UInt8} {n q : Int} (h : n ≠ q) (hm : nm ≠ []) : 0 < (unlT nm n q tx).length := by
  unfold unlT
  rw [if_neg h, List.length_append]
  have : nm.length ≠ 0 := fun e => hm (List.length_eq_zero_iff.1 e)
  omega
theorem partT_pos {nm : List UInt8} {xs : List (List UInt8)} (h : 0 < xs.length) (hm : nm ≠ []) : 0 < (partT nm xs).length := by
  unfold partT
  rw [if_neg (by rintro rfl; simp at h), List.length_append]
  have : nm.length ≠ 0 := fun e => hm (List.length_eq_zero_iff.1 e)
  omega
theorem lessR_same {r : RuV} (h : ¬ fewR r) : lessR r = r := by
  unfold fewR at h
  obtain ⟨st, fr, iv, ct, un, mo, da, wk, ho, mi, se⟩ := r
  simp only [not_or, Nat.not_lt, Nat.le_zero, ne_eq, Decidable.not_not] at h
  obtain ⟨h1, h2, h3, h4⟩ := h
  subst h2 h3 h4
  obtain rfl : ho = [] := List.length_eq_zero_iff.1 h1
  rfl
theorem lessR_less {r : RuV} (h : fewR r) : (ruT (lessR r)).length < (ruT r).length := by
  have e1 : unlT [59, 73, 78, 84, 69, 82, 86, 65, 76, 61] (lessR r).iv 1 (Lib.itoa (lessR r).iv) = [] := unlT_zero rfl
  have e2 : unlT [59, 67, 79, 85, 78, 84, 61] (lessR r).ct 0 (Lib.itoa (lessR r).ct) = [] := unlT_zero rfl
  have e3 : unlT [59, 85, 78, 84, 73, 76, 61] (lessR r).un (-1) (basicT (lessR r).un) = [] := unlT_zero rfl
  have e4 : partT [59, 66, 89, 72, 79, 85, 82, 61] ((lessR r).ho.map Lib.itoa) = [] := rfl
  unfold ruT
  rw [e1, e2, e3, e4]
  simp only [List.length_append, List.length_nil]
  have g1 : (lessR r).st = r.st := rfl
  have g2 : (lessR r).fr = r.fr := rfl
  have g3 : (lessR r).mo = r.mo := rfl
  have g4 : (lessR r).da = r.da := rfl
  have g5 : (lessR r).wk = r.wk := rfl
  have g6 : (lessR r).mi = r.mi := rfl
  have g7 : (lessR r).se = r.se := rfl
  rw [g1, g2, g3, g4, g5, g6, g7]
  rcases h with h | h | h | h
  · have := partT_pos (nm := [59, 66, 89, 72, 79, 85, 82, 61]) (xs := r.ho.map Lib.itoa) (by simpa using h) (by decide)
    omega
  · have := unlT_pos (nm := [59, 67, 79, 85, 78, 84, 61]) (tx := Lib.itoa r.ct) h (by decide)
    omega
  · have := unlT_pos (nm := [59, 85, 78, 84, 73, 76, 61]) (tx := basicT r.un) h (by decide)
    omega
  · have := unlT_pos (nm := [59, 73, 78, 84, 69, 82, 86, 65, 76, 61]) (tx := Lib.itoa r.iv) h (by decide)
    omega
theorem lessR_rd {w : World} {A : Nat → Option Addr} {n : Nat → Nat} {r : RuV} (h : RdRu w A n r) : RdRu w (fun k => if k = 8 then none else A k) (fun k => if k = 8 then 0 else n k) (lessR r) :=
  ⟨h.mo, h.da, h.wk, Rd.nil, h.mi, h.se⟩
theorem lessR_wf {r : RuV} (h : RuWf r) : RuWf (lessR r) :=
  ⟨h.st, h.fr, (by constructor <;> decide : In64 1), (by constructor <;> decide : In64 0), (by constructor <;> decide : In64 (-1)), h.mo, h.da, h.wk, (fun x hx => absurd hx (by show ¬ x ∈ ([] : List Int); simp)), h.mi, h.se⟩
end Go.Proofs.YtnelecjjbmjhaaaGreatDoor
