/- The walks of package calread's reader: parts of a second, weekdays, items of weekdays. -/
import Derived.Test.YtochhmkdhdadhaaGreatWCalC
import Derived.Deep.RegionWith
namespace Go.Proofs.YtochhmkdhdadhaaGreat
open Go.RowKit
set_option linter.unusedSimpArgs false
set_option linter.unusedVariables false

section
variable {w : World} {b : Nat} {s : ByteArray} {σ : PS} (hs : s.size ≤ 1000000)
include hs
set_option maxRecDepth 20000 in
set_option maxHeartbeats 1000000 in
theorem sub_ks (f : Nat) (h : RdP w b s σ) : Calls Tryz.prog 182 #[kV b s, .int .i64 (f : Int)] w (RetP (.tuple #[]) b s (subP s.size f σ) w) := by
  have hs9 : s.size ≤ 9223372036854775807 := by omega
  have hlt := h.lt
  have hne : ¬ w.heap.size = b := by omega
  have H := Lib.hid h
  have HP := Lib.hid (fun W (h : RdP W b s σ) => peek_ps h)
  by_cases h6 : f = 6
  · subst h6
    by_cases h46 : peekP σ = 46
    · have hpk : (peekP σ == 46) = true := by simpa using h46
      obtain ⟨k, hk, hl, hr⟩ := h
      have hat := atP_eq hk hl
      have HA := Lib.hid (fun W (h : RdP W b s σ) => at_ps h)
      have hk' : (k : Int) ≤ (s.size : Int) := by omega
      have HQ := Lib.hid (fun W => hasPre_any (s.extract k s.size) ⟨#[46, 46]⟩ (by simp; omega) (by decide) W)
      rw [left_data, ← hl, show (⟨#[46, 46]⟩ : ByteArray).data.toList = dots from rfl] at HQ
      cases hd : decide (dots <+: σ.l) with
      | true =>
        rw [hd] at HQ
        have HE : Hid (subP s.size ((6 : Nat) : Int) σ = σ) := by
          show _ = _
          unfold subP
          rw [if_neg (by rintro ⟨_, _, x⟩; exact x (of_decide_eq_true hd))]
        rw [hat] at HA
        generalize subP s.size ((6 : Nat) : Int) σ = R at *
        generalize peekP σ = pk at *
        clear h46 hl hr hat hd hk
        go_enter Tryz.func182, Tryz.ntmps182
        go_wp2
        go_quiet ((first | (go_at_call 74; exact quietN (HP.out _ (by exact (H.out.alloc _).drewN _))) | (go_at_call 82; exact quietQ (HA.out _ (by exact (H.out.alloc _).drewN _))) | (go_at_call 143; exact quietQ (HQ.out _))))
        go_wp2
        first | go_end0 | (refine bodyPost_ret (results_none rfl _ _ _) rfl ?_)
        exact ⟨rfl, by rw [HE.out]; exact (H.out.alloc _).drewN _, ((Chg.refl b w).alloc _).drewN _⟩
      | false =>
        rw [hd] at HQ
        have HE : Hid (subP s.size ((6 : Nat) : Int) σ = failP (atP s.size σ) 8 σ) := by
          show _ = _
          unfold subP
          rw [if_pos ⟨rfl, h46, of_decide_eq_false hd⟩]
        have HF := Lib.hid (fun W (h : RdP W b s σ) => fail_ps (atP s.size σ) 8 h)
        rw [hat] at HA HE HF
        generalize subP s.size ((6 : Nat) : Int) σ = R at *
        generalize peekP σ = pk at *
        clear h46 hl hr hat hd hk
        go_enter Tryz.func182, Tryz.ntmps182
        go_wp2
        go_quiet ((first | (go_at_call 74; exact quietN (HP.out _ (by exact (H.out.alloc _).drewN _))) | (go_at_call 82; exact quietQ (HA.out _ (by exact (H.out.alloc _).drewN _))) | (go_at_call 143; exact quietQ (HQ.out _))))
        have h1 : RdP ((w.alloc (.cells #[.pointer (some ⟨b, 0, none⟩), .string s] 82)).drewN nq) b s σ := (H.out.alloc _).drewN _
        have g1 : Chg b w ((w.alloc (.cells #[.pointer (some ⟨b, 0, none⟩), .string s] 82)).drewN nq) := ((Chg.refl b w).alloc _).drewN _
        have c0 : ((w.alloc (.cells #[.pointer (some ⟨b, 0, none⟩), .string s] 82)).drewN nq).cell? ⟨w.heap.size, 0, none⟩ = some (.pointer (some ⟨b, 0, none⟩)) := cell_new rfl rfl
        generalize ((w.alloc (.cells #[.pointer (some ⟨b, 0, none⟩), .string s] 82)).drewN nq) = w1 at *
        go_wp2
        go_still_tail 5, (by kernel_rfl)
        still_call ((HA.out _ (by exact h1.drew)).mono (fun _ _ hh => ⟨hh.1, hh.2.symm⟩))
        refine wpStill_nil ?_
        change wpList _ _ _ _ _ w1.drew
        go_wp2_with fail
        refine (HF.out _ (by exact h1.drew)).mono ?_
        rintro e w2 ⟨rfl, h2, g2⟩
        go_wp2
        first | go_end0 | (refine bodyPost_ret (results_none rfl _ _ _) rfl ?_)
        exact ⟨rfl, by rw [HE.out]; exact h2, (g1.drewN 1).trans g2⟩
    · have hpk : (peekP σ == 46) = false := by simpa using h46
      have HE : Hid (subP s.size ((6 : Nat) : Int) σ = σ) := by
        show _ = _
        unfold subP
        rw [if_neg (by rintro ⟨_, x, _⟩; exact h46 x)]
      generalize subP s.size ((6 : Nat) : Int) σ = R at *
      generalize peekP σ = pk at *
      clear h46 h
      go_enter Tryz.func182, Tryz.ntmps182
      go_wp2
      go_quiet ((go_at_call 74; exact quietN (HP.out _ (by exact (H.out.alloc _).drewN _))))
      go_wp2
      first | go_end0 | (refine bodyPost_ret (results_none rfl _ _ _) rfl ?_)
      exact ⟨rfl, by rw [HE.out]; exact (H.out.alloc _).drewN _, ((Chg.refl b w).alloc _).drewN _⟩
  · have h6' : ((f : Int) == 6) = false := by simp; omega
    have HE : Hid (subP s.size (f : Int) σ = σ) := by
      show _ = _
      unfold subP
      rw [if_neg (by rintro ⟨x, _⟩; omega)]
    generalize subP s.size (f : Int) σ = R at *
    clear h6 h
    go_enter Tryz.func182, Tryz.ntmps182
    go_wp2
    go_quiet (fail)
    go_wp2
    first | go_end0 | (refine bodyPost_ret (results_none rfl _ _ _) rfl ?_)
    exact ⟨rfl, by rw [HE.out]; exact (H.out.alloc _).drewN _, ((Chg.refl b w).alloc _).drewN _⟩
theorem word_size {σ : PS} {p : UInt8 → Bool} (h : RdP w b s σ) : (strB (someP p σ).2).size ≤ 1000000 := by
  rw [strB_size]
  have := h.len
  unfold someP
  split
  · have h1 : (σ.l.takeWhile p).length ≤ σ.l.length := (List.takeWhile_prefix p).length_le
    dsimp only; omega
  · simp
set_option maxRecDepth 20000 in
set_option maxHeartbeats 1000000 in
theorem weekday_ks (h : RdP w b s σ) : Calls Tryz.prog 110 #[kV b s] w (RetP (.int .i64 (wkP s.size σ).2) b s (wkP s.size σ).1 w) := by
  have hs9 : s.size ≤ 9223372036854775807 := by omega
  have hlt := h.lt
  have hne : ¬ w.heap.size = b := by omega
  have H := Lib.hid h
  have HA := Lib.hid (fun W (h : RdP W b s σ) => at_ps h)
  have HW := Lib.hid (fun W (h : RdP W b s σ) => word_ps hs9 h)
  have hsz := word_size (p := letterP) hs h
  have HO := Lib.hid (fun W => weekOf_any (strB (someP letterP σ).2) hsz W)
  have HR : Hid (wkP s.size σ = if (someP letterP σ).2 = [] then ((mustP s.size [77] (someP letterP σ).1).1, 0)
    else if wkOf (someP letterP σ).2 = 0 then (failP (atP s.size σ) 6 (someP letterP σ).1, 0) else ((someP letterP σ).1, wkOf (someP letterP σ).2)) := rfl
  rw [strB_data] at HO
  have hemp : (strB (someP letterP σ).2).toList.isEmpty = decide ((someP letterP σ).2 = []) := by
    rw [strB_tol]
    cases (someP letterP σ).2 <;> rfl
  generalize wkP s.size σ = R at *
  generalize atP s.size σ = at0 at *
  generalize someP letterP σ = x at *
  obtain ⟨τ, l⟩ := x
  dsimp only at *
  have HM := Lib.hid (fun W A n cp (h : RdP W b s τ) (hA : RdBytes W A n [77]) (hn : n ≤ 9223372036854775807) => must_ps (cp := cp) hs9 h hA hn)
  have HF := Lib.hid (fun W (h : RdP W b s τ) => fail_ps at0 6 h)
  clear h hsz
  by_cases h0 : l = []
  · rw [decide_eq_true h0] at hemp
    have HE : Hid (R = ((mustP s.size [77] τ).1, 0)) := by show _ = _; rw [HR.out, if_pos h0]
    generalize strB l = X at *
    clear h0 HR HO HF
    go_enter Tryz.func110, Tryz.ntmps110
    go_wp2_with fail
    refine (HA.out _ (H.out.alloc _)).mono ?_
    rintro e w1 ⟨rfl, rfl⟩
    go_wp2_with fail
    refine (HW.out _ (H.out.alloc _)).mono ?_
    rintro e w2 ⟨rfl, h2, g2⟩
    obtain ⟨hc2, hf2⟩ := gcell g2
    go_wp2_with fail
    refine (HM.out _ _ _ _ (h2.alloc _) (rdB1 (c := 77) (cell_new rfl rfl)) (by decide)).mono ?_
    rintro e w3 ⟨rfl, h3, g3⟩
    go_wp2
    go_ret
    exact ⟨by rw [HE.out]; rfl, by rw [HE.out]; exact h3, ((((Chg.refl b w).alloc _).trans g2).alloc _).trans g3⟩
  · rw [decide_eq_false h0] at hemp
    generalize strB l = X at *
    by_cases hz : wkOf l = 0
    · have HE : Hid (R = (failP at0 6 τ, 0)) := by show _ = _; rw [HR.out, if_neg h0, if_pos hz]
      rw [hz, decide_eq_false (by simp)] at HO
      clear h0 hz HR HM
      go_enter Tryz.func110, Tryz.ntmps110
      go_wp2_with fail
      refine (HA.out _ (H.out.alloc _)).mono ?_
      rintro e w1 ⟨rfl, rfl⟩
      go_wp2_with fail
      refine (HW.out _ (H.out.alloc _)).mono ?_
      rintro e w2 ⟨rfl, h2, g2⟩
      obtain ⟨hc2, hf2⟩ := gcell g2
      have hz2 : w.heap.size < w2.heap.size := by have := g2.size; simp at this; omega
      go_wp2_with fail
      refine (HO.out _).mono ?_
      rintro e w3 ⟨rfl, hb3⟩
      obtain ⟨hc3, hf3⟩ := bcell hb3
      have h3 := h2.below hb3
      have g3 : Chg b w w3 := (((Chg.refl b w).alloc _).trans g2).trans (Chg.of_below hb3)
      go_wp2_with fail
      refine (HF.out _ h3).mono ?_
      rintro e w4 ⟨rfl, h4, g4⟩
      go_wp2
      go_ret
      exact ⟨by rw [HE.out]; rfl, by rw [HE.out]; exact h4, g3.trans g4⟩
    · have HE : Hid (R = (τ, wkOf l)) := by show _ = _; rw [HR.out, if_neg h0, if_neg hz]
      rw [decide_eq_true hz] at HO
      generalize wkOf l = z at *
      clear h0 hz HR HM HF
      go_enter Tryz.func110, Tryz.ntmps110
      go_wp2_with fail
      refine (HA.out _ (H.out.alloc _)).mono ?_
      rintro e w1 ⟨rfl, rfl⟩
      go_wp2_with fail
      refine (HW.out _ (H.out.alloc _)).mono ?_
      rintro e w2 ⟨rfl, h2, g2⟩
      obtain ⟨hc2, hf2⟩ := gcell g2
      have hz2 : w.heap.size < w2.heap.size := by have := g2.size; simp at this; omega
      go_wp2_with fail
      refine (HO.out _).mono ?_
      rintro e w3 ⟨rfl, hb3⟩
      have h3 := h2.below hb3
      have g3 : Chg b w w3 := (((Chg.refl b w).alloc _).trans g2).trans (Chg.of_below hb3)
      go_wp2
      go_ret
      exact ⟨by rw [HE.out]; rfl, by rw [HE.out]; exact h3, g3⟩
end
end Go.Proofs.YtochhmkdhdadhaaGreat
