/- The walks of package ruleread's reader: what lacks, a text, a number, a number with a sign. -/
import Derived.Test.YtnelecjjbmjhaaaGreatRRule
import Derived.Test.YtnelecjjbmjhaaaGreatWText
import Derived.Test.YtnelecjjbmjhaaaGreatWBox
import Derived.Test.YtnelecjjbmjhaaaGreatWOwn
import Derived.StillTailTactics
namespace Go.Proofs.YtnelecjjbmjhaaaGreat
open Go.RowKit
set_option linter.unusedSimpArgs false
set_option linter.unusedVariables false

section
variable {w : World} {b : Nat} {s : ByteArray} {σ : PS} (hs : s.size ≤ 1000000)
include hs
set_option maxRecDepth 20000 in
set_option maxHeartbeats 1000000 in
theorem lacks_rr (h : RdP w b s σ) : Calls Tryz.prog 26 #[kV b s] w (RetP (.tuple #[]) b s (lackP s.size σ) w) := by
  have hs9 : s.size ≤ 9223372036854775807 := by omega
  have hlt := h.lt
  have hne : ¬ w.heap.size = b := by omega
  have H := Lib.hid h
  obtain ⟨k, hk, hl, hr⟩ := h
  have hat := atP_eq hk hl
  have HA := Lib.hid (fun W (h : RdP W b s σ) => at_ps h)
  have hk' : (k : Int) ≤ (s.size : Int) := by omega
  by_cases hks : k = s.size
  · have hks' : ((k : Int) == (s.size : Int)) = true := by simp; omega
    have HE : Hid (lackP s.size σ = failP (atP s.size σ) 2 σ) := by
      show _ = _
      unfold lackP
      rw [show pLack σ.l = 2 by rw [hl, hks, drop_end]; rfl]
    have HF := Lib.hid (fun W (h : RdP W b s σ) => fail_ps (atP s.size σ) 2 h)
    rw [hat] at HA HE HF
    generalize lackP s.size σ = R at *
    clear hl hr hat hk hks
    go_enter Tryz.func26, Tryz.ntmps26
    go_wp2
    go_quiet ((go_at_call 13; exact quietQ (HA.out _ (by exact (H.out.alloc _).drewN _))))
    have h1 : RdP ((w.alloc (.cells #[.pointer (some ⟨b, 0, none⟩), .string s] 38)).drewN nq) b s σ := (H.out.alloc _).drewN _
    have g1 : Chg b w ((w.alloc (.cells #[.pointer (some ⟨b, 0, none⟩), .string s] 38)).drewN nq) := ((Chg.refl b w).alloc _).drewN _
    have c0 : ((w.alloc (.cells #[.pointer (some ⟨b, 0, none⟩), .string s] 38)).drewN nq).cell? ⟨w.heap.size, 0, none⟩ = some (.pointer (some ⟨b, 0, none⟩)) := cell_new rfl rfl
    generalize ((w.alloc (.cells #[.pointer (some ⟨b, 0, none⟩), .string s] 38)).drewN nq) = w1 at *
    go_wp2
    go_still_tail 5, (by kernel_rfl)
    still_call ((HA.out _ (by exact h1.drew)).mono (fun _ _ hh => ⟨hh.1, hh.2.symm⟩))
    refine wpStill_nil ?_
    change wpList _ _ _ _ _ w1.drew
    go_wp2_with fail
    refine (HF.out _ (by exact h1.drew)).mono ?_
    rintro e w2 ⟨rfl, h2, g2⟩
    go_wp2
    first | go_end0 | (refine bodyPost_ret (results_none rfl _ _ _) rfl ?_)
    exact ⟨rfl, by rw [HE.out]; exact h2, (g1.drewN 1).trans g2⟩
  · have hks' : ((k : Int) == (s.size : Int)) = false := by simp; omega
    have HE : Hid (lackP s.size σ = failP (atP s.size σ) 3 σ) := by
      show _ = _
      unfold lackP
      rw [show pLack σ.l = 3 by rw [hl, drop_cons s k (by omega)]; rfl]
    have HF := Lib.hid (fun W (h : RdP W b s σ) => fail_ps (atP s.size σ) 3 h)
    rw [hat] at HA HE HF
    generalize lackP s.size σ = R at *
    clear hl hr hat hk hks
    go_enter Tryz.func26, Tryz.ntmps26
    go_wp2
    go_quiet ((go_at_call 13; exact quietQ (HA.out _ (by exact (H.out.alloc _).drewN _))))
    have h1 : RdP ((w.alloc (.cells #[.pointer (some ⟨b, 0, none⟩), .string s] 38)).drewN nq) b s σ := (H.out.alloc _).drewN _
    have g1 : Chg b w ((w.alloc (.cells #[.pointer (some ⟨b, 0, none⟩), .string s] 38)).drewN nq) := ((Chg.refl b w).alloc _).drewN _
    have c0 : ((w.alloc (.cells #[.pointer (some ⟨b, 0, none⟩), .string s] 38)).drewN nq).cell? ⟨w.heap.size, 0, none⟩ = some (.pointer (some ⟨b, 0, none⟩)) := cell_new rfl rfl
    generalize ((w.alloc (.cells #[.pointer (some ⟨b, 0, none⟩), .string s] 38)).drewN nq) = w1 at *
    go_wp2
    go_still_tail 5, (by kernel_rfl)
    still_call ((HA.out _ (by exact h1.drew)).mono (fun _ _ hh => ⟨hh.1, hh.2.symm⟩))
    refine wpStill_nil ?_
    change wpList _ _ _ _ _ w1.drew
    go_wp2_with fail
    refine (HF.out _ (by exact h1.drew)).mono ?_
    rintro e w2 ⟨rfl, h2, g2⟩
    go_wp2
    first | go_end0 | (refine bodyPost_ret (results_none rfl _ _ _) rfl ?_)
    exact ⟨rfl, by rw [HE.out]; exact h2, (g1.drewN 1).trans g2⟩
set_option maxRecDepth 20000 in
set_option maxHeartbeats 1000000 in
theorem must_rr (t : ByteArray) (ht : t.size ≤ 1000000) (h : RdP w b s σ) : Calls Tryz.prog 10 #[kV b s, .string t] w (RetP (.tuple #[]) b s (rmustP s.size t.data.toList σ) w) := by
  have hlt := h.lt
  have hne : ¬ w.heap.size = b := by omega
  have H := Lib.hid h
  have HT := Lib.hid (fun W (h : RdP W b s σ) => text_ps hs ht h)
  have HR : Hid (rmustP s.size t.data.toList σ = if (textP t.data.toList σ).2 = true then (textP t.data.toList σ).1 else lackP s.size (textP t.data.toList σ).1) := rfl
  generalize rmustP s.size t.data.toList σ = R at *
  generalize textP t.data.toList σ = r at *
  obtain ⟨τ, ok⟩ := r
  dsimp only at *
  have HL := Lib.hid (fun W (h : RdP W b s τ) => lacks_rr hs h)
  clear h
  go_enter Tryz.func10, Tryz.ntmps10
  go_wp2_with fail
  refine (HT.out _ (H.out.alloc _)).mono ?_
  rintro e w1 ⟨rfl, h1, g1⟩
  obtain ⟨hc1, hf1⟩ := gcell g1
  cases ok with
  | true =>
    have HE : Hid (R = τ) := by show _ = _; rw [HR.out]; rfl
    clear HR
    go_wp2
    first | go_end0 | (refine bodyPost_ret (results_none rfl _ _ _) rfl ?_)
    exact ⟨rfl, by rw [HE.out]; exact h1, ((Chg.refl b w).alloc _).trans g1⟩
  | false =>
    have HE : Hid (R = lackP s.size τ) := by show _ = _; rw [HR.out]; rfl
    clear HR
    go_wp2_with fail
    refine (HL.out _ h1).mono ?_
    rintro e w2 ⟨rfl, h2, g2⟩
    go_wp2
    first | go_end0 | (refine bodyPost_ret (results_none rfl _ _ _) rfl ?_)
    exact ⟨rfl, by rw [HE.out]; exact h2, (((Chg.refl b w).alloc _).trans g1).trans g2⟩
set_option maxRecDepth 20000 in
set_option maxHeartbeats 1000000 in
theorem number_rr (most : Nat) (hm : most ≤ 18) (lo hi : Int) (h : RdP w b s σ) : Calls Tryz.prog 35 #[kV b s, .int .i64 (most : Int), .int .i64 lo, .int .i64 hi] w (RetP (.int .i64 (rnumP s.size most lo hi σ).2) b s (rnumP s.size most lo hi σ).1 w) := by
  have hs9 : s.size ≤ 9223372036854775807 := by omega
  have hlt := h.lt
  have hne : ¬ w.heap.size = b := by omega
  have H := Lib.hid h
  have HA := Lib.hid (fun W (h : RdP W b s σ) => at_ps h)
  have HN := Lib.hid (fun W (h : RdP W b s σ) => number_ps hs9 (most := most) hm h)
  have HR : Hid (rnumP s.size most lo hi σ = if (numP s.size most σ).2.2 = true ∧ ((numP s.size most σ).2.1 < lo ∨ hi < (numP s.size most σ).2.1) then (failP (atP s.size σ) 4 (numP s.size most σ).1, (numP s.size most σ).2.1) else ((numP s.size most σ).1, (numP s.size most σ).2.1)) := rfl
  generalize rnumP s.size most lo hi σ = R at *
  generalize atP s.size σ = at0 at *
  generalize numP s.size most σ = r at *
  obtain ⟨τ, n, ok⟩ := r
  dsimp only at *
  have HF := Lib.hid (fun W (h : RdP W b s τ) => fail_ps at0 4 h)
  clear h
  go_enter Tryz.func35, Tryz.ntmps35
  go_wp2_with fail
  refine (HA.out _ (H.out.alloc _)).mono ?_
  rintro e w2 ⟨rfl, rfl⟩
  go_wp2_with fail
  refine (HN.out _ (H.out.alloc _)).mono ?_
  rintro e w3 ⟨rfl, h3, g3⟩
  obtain ⟨hc3, hf3⟩ := gcell g3
  have g13 := ((Chg.refl b w).alloc _).trans g3
  cases ok with
  | false =>
    have HE : Hid (R = (τ, n)) := by show _ = _; rw [HR.out, if_neg (by rintro ⟨x, _⟩; cases x)]
    clear HR
    go_wp2
    go_ret
    exact ⟨by rw [HE.out]; rfl, by rw [HE.out]; exact h3, g13⟩
  | true =>
    by_cases hr : n < lo ∨ hi < n
    · have HE : Hid (R = (failP at0 4 τ, n)) := by show _ = _; rw [HR.out, if_pos ⟨rfl, hr⟩]
      clear HR
      by_cases hr2 : n < lo
      · clear hr
        go_wp2_with fail
        refine (HF.out _ h3).mono ?_
        rintro e w4 ⟨rfl, h4, g4⟩
        go_wp2
        go_ret
        exact ⟨by rw [HE.out]; rfl, by rw [HE.out]; exact h4, g13.trans g4⟩
      · have hr3 : hi < n := by omega
        clear hr
        go_wp2_with fail
        refine (HF.out _ h3).mono ?_
        rintro e w4 ⟨rfl, h4, g4⟩
        go_wp2
        go_ret
        exact ⟨by rw [HE.out]; rfl, by rw [HE.out]; exact h4, g13.trans g4⟩
    · have HE : Hid (R = (τ, n)) := by show _ = _; rw [HR.out, if_neg (by rintro ⟨_, x⟩; exact hr x)]
      have hr1 : ¬ n < lo := fun x => hr (.inl x)
      have hr2 : ¬ hi < n := fun x => hr (.inr x)
      clear HR hr
      go_wp2
      go_ret
      exact ⟨by rw [HE.out]; rfl, by rw [HE.out]; exact h3, g13⟩
omit hs in
theorem num_bd (N most : Nat) (hm : most ≤ 17) (lo hi : Int) : 0 ≤ (rnumP N most lo hi σ).2 ∧ (rnumP N most lo hi σ).2 ≤ 100000000000000000 := by
  have h : 0 ≤ (numP N most σ).2.1 ∧ (numP N most σ).2.1 ≤ 100000000000000000 := by
    unfold numP
    split
    · split
      · rename_i hz
        have hb := numOf_bd _ (all_take digitP σ.l)
        have hl : (σ.l.takeWhile digitP).length ≤ most := by
          unfold numE at hz
          split at hz
          · exact absurd hz (pLack_ne _)
          · split at hz
            · cases hz
            · omega
        have := pow_le17 (k := (σ.l.takeWhile digitP).length) (by omega)
        dsimp only
        omega
      · dsimp only; omega
    · dsimp only; omega
  unfold rnumP
  dsimp only
  split <;> exact h
set_option maxRecDepth 20000 in
set_option maxHeartbeats 1000000 in
theorem signed_rr (hi : Int) (h : RdP w b s σ) : Calls Tryz.prog 43 #[kV b s, .int .i64 hi] w (RetP (.int .i64 (signP s.size hi σ).2) b s (signP s.size hi σ).1 w) := by
  have hs9 : s.size ≤ 9223372036854775807 := by omega
  have hlt := h.lt
  have hne : ¬ w.heap.size = b := by omega
  have H := Lib.hid h
  have HI := Lib.hid (fun W A n cp (h : RdP W b s σ) (hA : RdBytes W A n [45]) (hn : n ≤ 9223372036854775807) => is_ps (cp := cp) hs9 h hA hn)
  have HR : Hid (signP s.size hi σ = if (isP [45] σ).2 = true then ((rnumP s.size 2 1 hi (isP [45] σ).1).1, -(rnumP s.size 2 1 hi (isP [45] σ).1).2) else rnumP s.size 2 1 hi (isP [45] σ).1) := rfl
  generalize signP s.size hi σ = R at *
  generalize isP [45] σ = u at *
  obtain ⟨τ, minus⟩ := u
  dsimp only at *
  have HN := Lib.hid (fun W (h : RdP W b s τ) => number_rr hs 2 (by decide) 1 hi h)
  have hbd := num_bd (σ := τ) s.size 2 (by decide) 1 hi
  generalize rnumP s.size 2 1 hi τ = r at *
  obtain ⟨υ, n⟩ := r
  dsimp only at *
  obtain ⟨hb0, hb1⟩ := hbd
  clear h
  go_enter Tryz.func43, Tryz.ntmps43
  go_wp2_with fail
  refine (HI.out _ _ _ _ ((H.out.alloc _).alloc _) (rdB1 (c := 45) (cell_new (by simp) rfl)) (by decide)).mono ?_
  rintro e w1 ⟨rfl, h1, g1⟩
  obtain ⟨hc1, hf1⟩ := gcell g1
  have g01 := (((Chg.refl b w).alloc _).alloc _).trans g1
  cases minus with
  | true =>
    have HE : Hid (R = (υ, -n)) := by show _ = _; rw [HR.out]; rfl
    clear HR
    go_wp2_with fail
    refine (HN.out _ h1).mono ?_
    rintro e w2 ⟨rfl, h2, g2⟩
    go_wp2
    go_ret
    exact ⟨by rw [HE.out]; rfl, by rw [HE.out]; exact h2, g01.trans g2⟩
  | false =>
    have HE : Hid (R = (υ, n)) := by show _ = _; rw [HR.out]; rfl
    clear HR
    go_wp2_with fail
    refine (HN.out _ h1).mono ?_
    rintro e w2 ⟨rfl, h2, g2⟩
    go_wp2
    go_ret
    exact ⟨by rw [HE.out]; rfl, by rw [HE.out]; exact h2, g01.trans g2⟩
end
end Go.Proofs.YtnelecjjbmjhaaaGreat
