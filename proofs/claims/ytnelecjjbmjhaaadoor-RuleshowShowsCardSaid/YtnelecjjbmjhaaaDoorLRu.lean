/- The walk of the law RuleshowParts. -/
import Derived.Test.YtnelecjjbmjhaaaDoorWRuI
namespace Go.Proofs.YtnelecjjbmjhaaaDoor
open Go.RowKit
set_option linter.unusedSimpArgs false
set_option linter.unusedVariables false

/-- Is a rule more than is gone through? -/
def rgreat (n : Nat → Nat) : Bool := decide (600 < n 5 + n 6 + n 7 + n 8 + n 9 + n 10)
theorem rgreat_le {n : Nat → Nat} (h : rgreat n = false) : ∀ k, 5 ≤ k → k ≤ 10 → n k ≤ 600 := by
  unfold rgreat at h
  rw [decide_eq_false_iff_not] at h
  intro k h1 h2
  obtain rfl | rfl | rfl | rfl | rfl | rfl : k = 5 ∨ k = 6 ∨ k = 7 ∨ k = 8 ∨ k = 9 ∨ k = 10 := by omega
  all_goals omega
set_option maxHeartbeats 1000000 in
theorem rgreat_any (r : RuV) (A : Nat → Option Addr) (n c : Nat → Nat) (w : World) (hn : ∀ k, n k ≤ 140737488355328) : Calls Tryd.prog 10 #[ruV r A n c] w (Ret (.bool (rgreat n)) w) := by
  have HR : Hid (rgreat n = decide ((600 : Int) < (n 5 : Int) + (n 6 : Int) + (n 7 : Int) + (n 8 : Int) + (n 9 : Int) + (n 10 : Int))) := by
    show _ = _
    unfold rgreat
    rw [Bool.eq_iff_iff, decide_eq_true_eq, decide_eq_true_eq]
    omega
  have h5 := hn 5
  have h6 := hn 6
  have h7 := hn 7
  have h8 := hn 8
  have h9 := hn 9
  have h10 := hn 10
  clear hn
  generalize rgreat n = q at *
  unfold ruV
  generalize n 5 = n5 at *
  generalize n 6 = n6 at *
  generalize n 7 = n7 at *
  generalize n 8 = n8 at *
  generalize n 9 = n9 at *
  generalize n 10 = n10 at *
  go_enter Tryd.func10, Tryd.ntmps10
  go_wp2
  go_ret
  exact ⟨ret_bool HR.out.symm, by (repeat' (first | (with_reducible exact Below.refl _ _) | (with_reducible assumption) | (with_reducible refine below_drewN ?_ _) | (with_reducible refine Below.alloc ?_ ?_ _) | (with_reducible refine Below.drew ?_) | (with_reducible refine Below.setCell ?_ ?_ _) | go_size))⟩
def ex34 : List UInt8 := [45, 49, 70, 82]
theorem ex34_text : nthT (-1, 5) = ex34 := by
  have : Lib.itoa (-1) = [45, 49] := by
    unfold Lib.itoa
    rw [if_pos (by decide)]
    rw [show ((-1 : Int)).natAbs = 1 by decide, Lib.decDigits, dif_pos (by decide)]
    rfl
  unfold nthT
  rw [if_neg (by decide), if_neg (by decide), this]
  rfl
theorem lives34_any (w : World) (hw : Pow w) : Calls Tryd.prog 11 #[] w (Ret (.bool true) w) := by
  have H := Lib.hid (weekday_any (-1, 5) (by constructor <;> decide) w hw)
  rw [ex34_text] at H
  clear hw
  go_enter Tryd.func11, Tryd.ntmps11
  go_wp2_with fail
  refine H.out.mono ?_
  rintro e w1 ⟨rfl, hb⟩
  go_wp2
  go_ret
  exact ⟨ret_bool (by rw [ByteArray.toList_eq, strB_data]; rfl), hb⟩
/-- A rule with some parts less. -/
def lessR (r : RuV) : RuV := { r with iv := 1, ct := 0, un := -1, ho := [] }
theorem lessR_chk {r : RuV} (h : chkR r = 0) : chkR (lessR r) = 0 := by
  have hall : ∀ j, j < 7 → faultR r j = 0 := by
    intro j
    induction j using Nat.strongRecOn with
    | _ j ih =>
      intro hj
      false_or_by_contra
      rename_i h1
      have := chkR_at hj (fun i hi => ih i hi (by omega)) h1
      rw [h] at this
      exact h1 this.symm
  apply chkR_all
  intro j hj
  have h0 := hall j hj
  obtain rfl | rfl | rfl | rfl | rfl | rfl | rfl : j = 0 ∨ j = 1 ∨ j = 2 ∨ j = 3 ∨ j = 4 ∨ j = 5 ∨ j = 6 := by omega
  · have h0 : headE r = 0 := h0
    show headE (lessR r) = 0
    unfold headE at h0 ⊢
    by_cases h4 : inC r.st = false ∨ unT r.fr = [] ∨ r.iv < 1 ∨ 1000000000000000 < r.iv ∨ r.ct < 0 ∨ 1000000000000000 < r.ct
    · rw [if_pos h4] at h0; cases h0
    · rw [if_neg (by
        rintro (h | h | h)
        · exact h4 (.inl h)
        · exact h4 (.inr (.inl h))
        · revert h; show ¬ ((1 : Int) < 1 ∨ 1000000000000000 < (1 : Int) ∨ (0 : Int) < 0 ∨ 1000000000000000 < (0 : Int)); omega), if_neg (fun h => h.1 rfl), if_neg (fun h => h.1 rfl)]
  · exact h0
  · exact h0
  · exact h0
  · rfl
  · exact h0
  · exact h0
/-- Has a rule one of the parts? -/
def fewR (r : RuV) : Prop := 0 < r.ho.length ∨ r.ct ≠ 0 ∨ r.un ≠ -1 ∨ r.iv ≠ 1
theorem unlT_zero {nm tx : List UInt8} {n q : Int} (h : n = q) : unlT nm n q tx = [] := if_pos h
theorem unlT_pos {nm tx : List UInt8} {n q : Int} (h : n ≠ q) (hm : nm ≠ []) : 0 < (unlT nm n q tx).length := by
  unfold unlT
  rw [if_neg h, List.length_append]
  have : nm.length ≠ 0 := fun e => hm (List.length_eq_zero_iff.1 e)
  omega
theorem partT_pos {nm : List UInt8} {xs : List (List UInt8)} (h : 0 < xs.length) (hm : nm ≠ []) : 0 < (partT nm xs).length := by
  unfold partT
  rw [if_neg (by rintro rfl; simp at h), List.length_append]
  have : nm.length ≠ 0 := fun e => hm (List.length_eq_zero_iff.1 e)
  omega
theorem lessR_same {r : RuV} (h : ¬ fewR r) : lessR r = r := by
  unfold fewR at h
  obtain ⟨st, fr, iv, ct, un, mo, da, wk, ho, mi, se⟩ := r
  simp only [not_or, Nat.not_lt, Nat.le_zero, ne_eq, Decidable.not_not] at h
  obtain ⟨h1, h2, h3, h4⟩ := h
  subst h2 h3 h4
  obtain rfl : ho = [] := List.length_eq_zero_iff.1 h1
  rfl
theorem lessR_less {r : RuV} (h : fewR r) : (ruT (lessR r)).length < (ruT r).length := by
  have e1 : unlT [59, 73, 78, 84, 69, 82, 86, 65, 76, 61] (lessR r).iv 1 (Lib.itoa (lessR r).iv) = [] := unlT_zero rfl
  have e2 : unlT [59, 67, 79, 85, 78, 84, 61] (lessR r).ct 0 (Lib.itoa (lessR r).ct) = [] := unlT_zero rfl
  have e3 : unlT [59, 85, 78, 84, 73, 76, 61] (lessR r).un (-1) (basicT (lessR r).un) = [] := unlT_zero rfl
  have e4 : partT [59, 66, 89, 72, 79, 85, 82, 61] ((lessR r).ho.map Lib.itoa) = [] := rfl
  unfold ruT
  rw [e1, e2, e3, e4]
  simp only [List.length_append, List.length_nil]
  have g1 : (lessR r).st = r.st := rfl
  have g2 : (lessR r).fr = r.fr := rfl
  have g3 : (lessR r).mo = r.mo := rfl
  have g4 : (lessR r).da = r.da := rfl
  have g5 : (lessR r).wk = r.wk := rfl
  have g6 : (lessR r).mi = r.mi := rfl
  have g7 : (lessR r).se = r.se := rfl
  rw [g1, g2, g3, g4, g5, g6, g7]
  rcases h with h | h | h | h
  · have := partT_pos (nm := [59, 66, 89, 72, 79, 85, 82, 61]) (xs := r.ho.map Lib.itoa) (by simpa using h) (by decide)
    omega
  · have := unlT_pos (nm := [59, 67, 79, 85, 78, 84, 61]) (tx := Lib.itoa r.ct) h (by decide)
    omega
  · have := unlT_pos (nm := [59, 85, 78, 84, 73, 76, 61]) (tx := basicT r.un) h (by decide)
    omega
  · have := unlT_pos (nm := [59, 73, 78, 84, 69, 82, 86, 65, 76, 61]) (tx := Lib.itoa r.iv) h (by decide)
    omega
theorem lessR_rd {w : World} {A : Nat → Option Addr} {n : Nat → Nat} {r : RuV} (h : RdRu w A n r) : RdRu w (fun k => if k = 8 then none else A k) (fun k => if k = 8 then 0 else n k) (lessR r) :=
  ⟨h.mo, h.da, h.wk, Rd.nil, h.mi, h.se⟩
theorem lessR_wf {r : RuV} (h : RuWf r) : RuWf (lessR r) :=
  ⟨h.st, h.fr, (by constructor <;> decide : In64 1), (by constructor <;> decide : In64 0), (by constructor <;> decide : In64 (-1)), h.mo, h.da, h.wk, (fun x hx => absurd hx (by show ¬ x ∈ ([] : List Int); simp)), h.mi, h.se⟩
set_option maxRecDepth 20000 in
set_option maxHeartbeats 8000000 in
theorem ruleshowParts_any (r : RuV) (A : Nat → Option Addr) (n c : Nat → Nat) (w : World) (hA : RdRu w A n r) (hn : ∀ k, n k ≤ 140737488355328) (hout : ∀ k, (k < 5 ∨ 10 < k) → n k = 0) (hwf : RuWf r) (hw : Pow w) :
    Calls Tryd.prog 5 #[ruV r A n c] w (Ret (.bool true) w) := by
  have HV := Lib.hid (fun W (hb : Below w.heap.size w W) => lives34_any W (tab_below hw hb))
  have HG := Lib.hid (fun W => rgreat_any r A n c W hn)
  have HE := Lib.hid (ruAt_new w r A n c 36)
  cases hg : rgreat n with
  | true =>
    rw [hg] at HG
    clear hA hn hwf hw hg hout
    unfold ruV at *
    go_enter Tryd.func5, Tryd.ntmps5
    go_wp2_with fail
    refine (HG.out _).mono ?_
    rintro e w1 ⟨rfl, hb1⟩
    have hb2 : Below w.heap.size w w1 := ((Below.refl _ w).alloc (Nat.le_refl _) _).trans (hb1.mono (by simp))
    go_wp2_with fail
    refine (HV.out _ hb2).mono ?_
    rintro e w2 ⟨rfl, hb3⟩
    go_wp2
    go_ret
    exact ⟨rfl, bthen hb2 hb3 hb2.size⟩
  | false =>
    rw [hg] at HG
    have hn2 : ∀ k, n k ≤ 1000 := fun k => by
      by_cases h : k < 5 ∨ 10 < k
      · rw [hout k h]; omega
      · have := rgreat_le hg k (by omega) (by omega); omega
    have hn3 : ∀ k, n k ≤ 1000000 := fun k => by have := hn2 k; omega
    clear hg hn hout
    by_cases hc : chkR r = 0
    · have HS := Lib.hid (fun W (hb : Below w.heap.size w W) => rshow_ok (c := c) (hA.below hb) hn2 hwf (tab_below hw hb) hc)
      have HX := Lib.hid (fun W (hb : Below w.heap.size w W) => rshow_ok (c := fun k => if k = 8 then 0 else c k) (lessR_rd (hA.below hb)) (fun k => by split; (· omega); exact hn2 k) (lessR_wf hwf) (tab_below hw hb) (lessR_chk hc))
      have hX : ruV (lessR r) (fun k => if k = 8 then none else A k) (fun k => if k = 8 then 0 else n k) (fun k => if k = 8 then 0 else c k) = .agg #[.int .i64 r.st, .int .i64 r.fr, .int .i64 1, .int .i64 0, .int .i64 (-1), .slice (A 5) (n 5) (c 5), .slice (A 6) (n 6) (c 6), .slice (A 7) (n 7) (c 7), .slice none 0 0, .slice (A 9) (n 9) (c 9), .slice (A 10) (n 10) (c 10)] := rfl
      rw [hX] at HX
      have HLess : Hid (fewR r → (strB (ruT (lessR r))).size < (strB (ruT r)).size) := fun h => by rw [strB_size, strB_size]; exact lessR_less h
      have HSame : Hid (¬ fewR r → strB (ruT (lessR r)) = strB (ruT r)) := fun h => by rw [lessR_same h]
      have HFew : Hid (fewR r ↔ (0 < n 8 ∨ r.ct ≠ 0 ∨ r.un ≠ -1 ∨ r.iv ≠ 1)) := by
        show _ ↔ _
        unfold fewR
        rw [hA.ho.1]
      clear hA hn2 hn3 hwf hw hc hX
      generalize strB (ruT (lessR r)) = T at *
      generalize strB (ruT r) = S at *
      unfold ruV at *
      go_enter Tryd.func5, Tryd.ntmps5
      go_wp2_with fail
      refine (HG.out _).mono ?_
      rintro e w1 ⟨rfl, hb1⟩
      have hb2 : Below w.heap.size w w1 := ((Below.refl _ w).alloc (Nat.le_refl _) _).trans (hb1.mono (by simp))
      have HE1 := Lib.hid (HE.out.below hb1)
      clear HE hb1 HG
      obtain ⟨x0, x1, x2, x3, x4, x5, x6, x7, x8, x9, x10⟩ := HE1.out
      go_wp2_with fail
      refine (HS.out _ hb2).mono ?_
      rintro e w2 ⟨rfl, hb3⟩
      have hb4 := bthen hb2 hb3 hb2.size
      have HE2 := Lib.hid (HE1.out.below hb3)
      clear x0 x1 x2 x3 x4 x5 x6 x7 x8 x9 x10 hb3 HE1 HS
      obtain ⟨x0, x1, x2, x3, x4, x5, x6, x7, x8, x9, x10⟩ := HE2.out
      have hz2 := HE2.out.lt
      go_wp2_with fail
      refine (HX.out _ (hb4.alloc hb4.size _)).mono ?_
      rintro e w3 ⟨rfl, hb5⟩
      have hb6 : Below w.heap.size w w3 := (hb4.alloc hb4.size _).trans (hb5.mono (by simp; omega))
      have HE3 : Hid (RuAt w3 w.heap.size r A n c) := (HE2.out.below ((Below.refl _ w2).alloc (Nat.le_refl _) _)).below hb5
      clear x0 x1 x2 x3 x4 x5 x6 x7 x8 x9 x10 hb5 HE2 HX
      obtain ⟨x0, x1, x2, x3, x4, x5, x6, x7, x8, x9, x10⟩ := HE3.out
      by_cases h8 : 0 < n 8
      · have hlt := HLess.out (HFew.out.2 (.inl h8))
        have h8' : (0 : Int) < ((n 8 : Nat) : Int) := by omega
        clear h8 HFew HSame HLess
        go_wp2_with fail
        refine (HV.out _ hb6).mono ?_
        rintro e w4 ⟨rfl, hb7⟩
        go_wp2
        go_ret
        exact ⟨rfl, bthen hb6 hb7 hb6.size⟩
      · have h8' : ¬ (0 : Int) < ((n 8 : Nat) : Int) := by omega
        by_cases hct : r.ct = 0
        · have hct' : (r.ct != 0) = false := by simpa using hct
          by_cases hun : r.un = -1
          · have hun' : (r.un != -1) = false := by simpa using hun
            by_cases hiv : r.iv = 1
            · have hiv' : (r.iv != 1) = false := by simpa using hiv
              have hST := HSame.out (fun h => by
                have := HFew.out.1 h
                rcases this with h | h | h | h
                · exact h8 h
                · exact h hct
                · exact h hun
                · exact h hiv)
              subst hST
              clear h8 hct hun hiv HFew HSame HLess
              go_wp2_with fail
              refine (HV.out _ hb6).mono ?_
              rintro e w4 ⟨rfl, hb7⟩
              go_wp2
              go_ret
              exact ⟨rfl, bthen hb6 hb7 hb6.size⟩
            · have hiv' : (r.iv != 1) = true := by simpa using hiv
              have hlt := HLess.out (HFew.out.2 (.inr (.inr (.inr hiv))))
              clear h8 hct hun hiv HFew HSame HLess
              go_wp2_with fail
              refine (HV.out _ hb6).mono ?_
              rintro e w4 ⟨rfl, hb7⟩
              go_wp2
              go_ret
              exact ⟨rfl, bthen hb6 hb7 hb6.size⟩
          · have hun' : (r.un != -1) = true := by simpa using hun
            have hlt := HLess.out (HFew.out.2 (.inr (.inr (.inl hun))))
            clear h8 hct hun HFew HSame HLess
            go_wp2_with fail
            refine (HV.out _ hb6).mono ?_
            rintro e w4 ⟨rfl, hb7⟩
            go_wp2
            go_ret
            exact ⟨rfl, bthen hb6 hb7 hb6.size⟩
        · have hct' : (r.ct != 0) = true := by simpa using hct
          have hlt := HLess.out (HFew.out.2 (.inr (.inl hct)))
          clear h8 hct HFew HSame HLess
          go_wp2_with fail
          refine (HV.out _ hb6).mono ?_
          rintro e w4 ⟨rfl, hb7⟩
          go_wp2
          go_ret
          exact ⟨rfl, bthen hb6 hb7 hb6.size⟩
    · have HS := Lib.hid (fun W (hb : Below w.heap.size w W) => rshow_bad (c := c) (hA.below hb) hn3 hc)
      generalize chkR r = q at *
      have hc' : (q != 0) = true := by simpa using hc
      clear hA hn2 hn3 hwf hw hc
      unfold ruV at *
      go_enter Tryd.func5, Tryd.ntmps5
      go_wp2_with fail
      refine (HG.out _).mono ?_
      rintro e w1 ⟨rfl, hb1⟩
      have hb2 : Below w.heap.size w w1 := ((Below.refl _ w).alloc (Nat.le_refl _) _).trans (hb1.mono (by simp))
      have HE1 := Lib.hid (HE.out.below hb1)
      clear HE hb1 HG
      obtain ⟨x0, x1, x2, x3, x4, x5, x6, x7, x8, x9, x10⟩ := HE1.out
      go_wp2_with fail
      refine (HS.out _ hb2).mono ?_
      rintro e w2 ⟨rfl, hb3⟩
      have hb4 := bthen hb2 hb3 hb2.size
      clear x0 x1 x2 x3 x4 x5 x6 x7 x8 x9 x10 hb3 HE1 HS
      go_wp2_with fail
      refine (HV.out _ hb4).mono ?_
      rintro e w3 ⟨rfl, hb5⟩
      go_wp2
      go_ret
      exact ⟨rfl, bthen hb4 hb5 hb4.size⟩
end Go.Proofs.YtnelecjjbmjhaaaDoor
