/- The walks of package calread's reader: an item of a field that is a range. -/
import Derived.Test.YtochhmkdhdadhaaGreatWCalD
import Derived.Test.YtochhmkdhdadhaaGreatWText
import Derived.Test.YtochhmkdhdadhaaGreatWBox
/- The walks of package calread's reader: an item of a field. -/
/- The walks of package calread's reader: an item of weekdays. -/
namespace Go.Proofs.YtochhmkdhdadhaaGreat
open Go.RowKit
set_option linter.unusedSimpArgs false
set_option linter.unusedVariables false

section
variable {w : World} {b : Nat} {s : ByteArray} {σ : PS} (hs : s.size ≤ 1000000)
include hs
set_option maxRecDepth 20000 in
set_option maxHeartbeats 2000000 in
theorem days_ks (h : RdP w b s σ) : Calls Tryz.prog 76 #[kV b s] w (RetP (itV (daysP s.size σ).2) b s (daysP s.size σ).1 w) := by
  have hlt := h.lt
  have hne : ¬ w.heap.size = b := by omega
  have hne1 : ¬ w.heap.size + 1 = b := by omega
  have H := Lib.hid h
  have HW1 := Lib.hid (fun W (h : RdP W b s σ) => weekday_ks hs h)
  have HR : Hid (daysP s.size σ = if (textP dots (wkP s.size σ).1).2 then
      (if (wkP s.size (textP dots (wkP s.size σ).1).1).2 < (wkP s.size σ).2 then failP (atP s.size (textP dots (wkP s.size σ).1).1) 4 (wkP s.size (textP dots (wkP s.size σ).1).1).1 else (wkP s.size (textP dots (wkP s.size σ).1).1).1, ⟨2, (wkP s.size σ).2, (wkP s.size (textP dots (wkP s.size σ).1).1).2, 1⟩)
    else ((textP dots (wkP s.size σ).1).1, ⟨1, (wkP s.size σ).2, 0, 0⟩)) := rfl
  generalize daysP s.size σ = R at *
  generalize wkP s.size σ = x1 at *
  obtain ⟨τ1, n1⟩ := x1
  dsimp only at *
  have HT := Lib.hid (fun W (h : RdP W b s τ1) => text_ps (t := ⟨#[46, 46]⟩) hs (by decide) h)
  rw [show (⟨#[46, 46]⟩ : ByteArray).data.toList = dots from rfl] at HT
  generalize textP dots τ1 = x2 at *
  obtain ⟨τ2, yes⟩ := x2
  dsimp only at *
  have HW3 := Lib.hid (fun W (h : RdP W b s τ2) => weekday_ks hs h)
  have HA := Lib.hid (fun W (h : RdP W b s τ2) => at_ps h)
  generalize atP s.size τ2 = at2 at *
  generalize wkP s.size τ2 = x3 at *
  obtain ⟨τ3, n3⟩ := x3
  dsimp only at *
  have HF := Lib.hid (fun W (h : RdP W b s τ3) => fail_ps at2 4 h)
  clear h
  go_enter Tryz.func76, Tryz.ntmps76
  go_wp2_with fail
  refine (HW1.out _ ((H.out.alloc _).alloc _)).mono ?_
  rintro e w1 ⟨rfl, h1, g1⟩
  obtain ⟨hc1, hf1⟩ := gcell g1
  have hz1 : w.heap.size + 1 < w1.heap.size := by have := g1.size; simp at this; omega
  have hz1' : w.heap.size < w1.heap.size := by omega
  have hneI : ¬ w1.heap.size = b := by omega
  have g1' := (((Chg.refl b w).alloc _).alloc _).trans g1
  go_wp2_with fail
  refine (HT.out _ (h1.alloc _)).mono ?_
  rintro e w2 ⟨rfl, h2, g2⟩
  obtain ⟨hc2, hf2⟩ := gcell g2
  have g2' := (g1'.alloc _).trans g2
  have hz2 : w1.heap.size < w2.heap.size := by have := g2.size; simp at this; omega
  have hz2a : w.heap.size + 1 < w2.heap.size := by omega
  have hz2b : w.heap.size < w2.heap.size := by omega
  have hneRI : ¬ w.heap.size + 1 = w1.heap.size := by omega
  have hneIR : ¬ w1.heap.size = w.heap.size + 1 := by omega
  have hneBI : ¬ w.heap.size = w1.heap.size := by omega
  have hneIB : ¬ w1.heap.size = w.heap.size := by omega
  cases yes with
  | false =>
    have HE : Hid (R = (τ2, ⟨1, n1, 0, 0⟩)) := by show _ = _; rw [HR.out]; rfl
    clear HR
    go_wp2
    refine bodyPost_ret (v := itV ⟨1, n1, 0, 0⟩) ?_ rfl ⟨by rw [HE.out], ?_, ?_⟩
    · rw [results_cell1 rfl]
      go_simp
    · rw [HE.out]; exact h2.set4 hne1 _ _ _ _
    · exact g2'.set4 (by omega) _ _ _ _
  | true =>
    go_wp2_with fail
    refine (HA.out _ h2).mono ?_
    rintro e w3 ⟨rfl, rfl⟩
    go_wp2_with fail
    refine (HW3.out _ h2).mono ?_
    rintro e w3 ⟨rfl, h3, g3⟩
    obtain ⟨hc3, hf3⟩ := gcell g3
    have g3' := g2'.trans g3
    have hz3 : w1.heap.size < w3.heap.size := by have := g3.size; omega
    have hz3a : w.heap.size + 1 < w3.heap.size := by omega
    have hz3b : w.heap.size < w3.heap.size := by omega
    have h3' := ((h3.set (o := 0) hneI (.int .i64 2)).set (o := 2) hneI (.int .i64 n3)).set (o := 3) hneI (.int .i64 1)
    have g3'' := ((g3'.setNew (B := w1.heap.size) (o := 0) (v := .int .i64 2) (by omega)).setNew (B := w1.heap.size) (o := 2) (v := .int .i64 n3) (by omega)).setNew (B := w1.heap.size) (o := 3) (v := .int .i64 1) (by omega)
    by_cases hl : n3 < n1
    · have HE : Hid (R = (failP at2 4 τ3, ⟨2, n1, n3, 1⟩)) := by show _ = _; rw [HR.out, if_pos trivial, if_pos hl]
      clear HR
      go_wp2_with fail
      refine (HF.out _ h3').mono ?_
      rintro e w4 ⟨rfl, h4, g4⟩
      obtain ⟨hc4, hf4⟩ := gcell g4
      go_wp2
      refine bodyPost_ret (v := itV ⟨2, n1, n3, 1⟩) ?_ rfl ⟨by rw [HE.out], ?_, ?_⟩
      · rw [results_cell1 rfl]
        go_simp
      · rw [HE.out]; exact h4.set4 hne1 _ _ _ _
      · exact (g3''.trans g4).set4 (by omega) _ _ _ _
    · have HE : Hid (R = (τ3, ⟨2, n1, n3, 1⟩)) := by show _ = _; rw [HR.out, if_pos trivial, if_neg hl]
      clear HR
      go_wp2
      refine bodyPost_ret (v := itV ⟨2, n1, n3, 1⟩) ?_ rfl ⟨by rw [HE.out], ?_, ?_⟩
      · rw [results_cell1 rfl]
        go_simp
      · rw [HE.out]; exact h3'.set4 hne1 _ _ _ _
      · exact g3''.set4 (by omega) _ _ _ _
end
end Go.Proofs.YtochhmkdhdadhaaGreat

namespace Go.Proofs.YtochhmkdhdadhaaGreat
open Go.RowKit
set_option linter.unusedSimpArgs false
set_option linter.unusedVariables false

theorem kitemP_of {N : Nat} {f : Int} {σ τq : PS} {it : It} (h : kheadP N f σ = (τq, it)) : kitemP N f σ = if (isP [47] τq).2 then
    (if (numP N 3 (isP [47] τq).1).2.2 = true ∧ (numP N 3 (isP [47] τq).1).2.1 = 0 then failP (atP N (isP [47] τq).1) 4 (numP N 3 (isP [47] τq).1).1 else (numP N 3 (isP [47] τq).1).1, ⟨if it.k = 1 then 3 else it.k, it.f, it.t, (numP N 3 (isP [47] τq).1).2.1⟩)
    else ((isP [47] τq).1, it) := by unfold kitemP; rw [h]
set_option maxRecDepth 20000 in
set_option maxHeartbeats 2000000 in
theorem kitem_no {w : World} {b : Nat} {s : ByteArray} {σ : PS} (hs : s.size ≤ 1000000) (f : Nat) (hf : f < 7) (h : RdP w b s σ) (hyes : (textP dots (subP s.size f (knumP s.size f σ).1)).2 = false) : Calls Tryz.prog 154 #[kV b s, .int .i64 (f : Int)] w (RetP (itV (kitemP s.size f σ).2) b s (kitemP s.size f σ).1 w) := by
  have hs9 : s.size ≤ 9223372036854775807 := by omega
  have hlt := h.lt
  have hne : ¬ w.heap.size = b := by omega
  have hne1 : ¬ w.heap.size + 1 = b := by omega
  have H := Lib.hid h
  have HN1 := Lib.hid (fun W (h : RdP W b s σ) => knum_ps hs f hf h)
  have HR0 := Lib.hid (fun τq it (h : kheadP s.size f σ = (τq, it)) => kitemP_of h)
  have HH : Hid (kheadP s.size f σ = if (textP dots (subP s.size f (knumP s.size f σ).1)).2 then
      (subP s.size f (if (knumP s.size f (textP dots (subP s.size f (knumP s.size f σ).1)).1).2 < (knumP s.size f σ).2 then failP (atP s.size (textP dots (subP s.size f (knumP s.size f σ).1)).1) 4 (knumP s.size f (textP dots (subP s.size f (knumP s.size f σ).1)).1).1 else (knumP s.size f (textP dots (subP s.size f (knumP s.size f σ).1)).1).1),
        ⟨2, (knumP s.size f σ).2, (knumP s.size f (textP dots (subP s.size f (knumP s.size f σ).1)).1).2, 1⟩)
    else ((textP dots (subP s.size f (knumP s.size f σ).1)).1, ⟨1, (knumP s.size f σ).2, 0, 0⟩)) := rfl
  generalize kheadP s.size f σ = Q at *
  generalize kitemP s.size f σ = R at *
  generalize knumP s.size f σ = x1 at *
  obtain ⟨τ1, n1⟩ := x1
  dsimp only at *
  have HS1 := Lib.hid (fun W (h : RdP W b s τ1) => sub_ks hs f h)
  generalize subP s.size f τ1 = τs at *
  have HT := Lib.hid (fun W (h : RdP W b s τs) => text_ps (t := ⟨#[46, 46]⟩) hs (by decide) h)
  rw [show (⟨#[46, 46]⟩ : ByteArray).data.toList = dots from rfl] at HT
  generalize textP dots τs = x2 at *
  obtain ⟨τ2, yes⟩ := x2
  dsimp only at *
  subst hyes
  have HQ : Hid (Q = (τ2, ⟨1, n1, 0, 0⟩)) := by show _ = _; rw [HH.out, if_neg (by simp)]
  clear HH
  clear h
  go_enter Tryz.func154, Tryz.ntmps154
  go_wp2_with fail
  refine (HN1.out _ ((H.out.alloc _).alloc _)).mono ?_
  rintro e w1 ⟨rfl, h1, g1⟩
  have hz1 : w.heap.size + 1 < w1.heap.size := by have := g1.size; simp at this; omega
  have hz1' : w.heap.size < w1.heap.size := by omega
  have hneI : ¬ w1.heap.size = b := by omega
  have hneRI : ¬ w.heap.size + 1 = w1.heap.size := by omega
  have hneIR : ¬ w1.heap.size = w.heap.size + 1 := by omega
  have hneBI : ¬ w.heap.size = w1.heap.size := by omega
  have hneIB : ¬ w1.heap.size = w.heap.size := by omega
  have g1' := (((Chg.refl b w).alloc _).alloc _).trans g1
  have FB1 := Lib.hid (((kbox_new w b s 82).alloc (.cells #[.int .i64 0, .int .i64 0, .int .i64 0, .int .i64 0] 59)).chg g1 hne)
  have FR1 := Lib.hid ((itAt_new2 w b s 82 59).chg g1 hne1)
  obtain ⟨c0, c1⟩ := FB1.out
  go_wp2_with fail
  refine (HS1.out _ (h1.alloc _)).mono ?_
  rintro e ws ⟨rfl, hs1, gs⟩
  have gs' := (g1'.alloc _).trans gs
  have FBs := Lib.hid (KBox.chg (FB1.out.alloc _) gs hne)
  have FRs := Lib.hid (ItAt.chg (FR1.out.alloc _) gs hne1)
  have FIs := Lib.hid (ItAt.chg (itAt_new w1 1 n1 0 0 59) gs hneI)
  (try clear c0 c1)
  (try clear i0 i1 i2 i3 iz)
  obtain ⟨c0, c1⟩ := FBs.out
  obtain ⟨i0, i1, i2, i3, iz⟩ := ItAt.cells FIs.out
  go_wp2_with fail
  refine (HT.out _ hs1).mono ?_
  rintro e w2 ⟨rfl, h2, g2⟩
  have g2' := gs'.trans g2
  have FB2 := Lib.hid (KBox.chg FBs.out g2 hne)
  have FR2 := Lib.hid (ItAt.chg FRs.out g2 hne1)
  have FI2 := Lib.hid (ItAt.chg FIs.out g2 hneI)
  (try clear c0 c1)
  (try clear i0 i1 i2 i3 iz)
  obtain ⟨c0, c1⟩ := FB2.out
  obtain ⟨i0, i1, i2, i3, iz⟩ := ItAt.cells FI2.out
  have HI := Lib.hid (fun W A n cp (h : RdP W b s τ2) (hA : RdBytes W A n [47]) (hn : n ≤ 9223372036854775807) => is_ps (cp := cp) hs9 h hA hn)
  have HR := Lib.hid (HR0.out _ _ HQ.out)
  clear HR0 HQ
  generalize isP [47] τ2 = u at *
  obtain ⟨τu, slash⟩ := u
  dsimp only at *
  have HA2 := Lib.hid (fun W (h : RdP W b s τu) => at_ps h)
  have HN := Lib.hid (fun W (h : RdP W b s τu) => number_ps hs9 (most := 3) (by decide) h)
  generalize atP s.size τu = at3 at *
  generalize numP s.size 3 τu = v at *
  obtain ⟨τv, nv, ok⟩ := v
  dsimp only at *
  have HF2 := Lib.hid (fun W (h : RdP W b s τv) => fail_ps at3 4 h)
  go_wp2_with fail
  refine (HI.out _ _ _ _ (h2.alloc _) (rdB1 (c := 47) (cell_new rfl rfl)) (by decide)).mono ?_
  rintro e wa ⟨rfl, ha, ga⟩
  have gA := (g2'.alloc _).trans ga
  have FBa := Lib.hid (KBox.chg (FB2.out.alloc _) ga hne)
  have FRa := Lib.hid (ItAt.chg (FR2.out.alloc _) ga hne1)
  have FIa := Lib.hid (ItAt.chg (FI2.out.alloc _) ga hneI)
  (try clear c0 c1)
  (try clear i0 i1 i2 i3 iz)
  obtain ⟨c0, c1⟩ := FBa.out
  obtain ⟨i0, i1, i2, i3, iz⟩ := ItAt.cells FIa.out
  cases slash with
  | false =>
    have HE : Hid (R = (τu, ⟨1, n1, 0, 0⟩)) := by show _ = _; rw [HR.out, if_neg (by simp)]
    clear HR
    obtain ⟨r0, r1, r2, r3, rz⟩ := ItAt.cells FRa.out
    go_wp2
    refine bodyPost_ret (v := itV ⟨1, n1, 0, 0⟩) ?_ rfl ⟨by rw [HE.out], ?_, ?_⟩
    · rw [results_cell1 rfl]
      go_simp
    · rw [HE.out]; exact ha.set4 hne1 _ _ _ _
    · exact gA.set4 (by omega) _ _ _ _
  | true =>
    go_wp2_with fail
    refine (HA2.out _ ha).mono ?_
    rintro e wb ⟨rfl, rfl⟩
    go_wp2_with fail
    refine (HN.out _ ha).mono ?_
    rintro e wb ⟨rfl, hb, gb⟩
    have gB := gA.trans gb
    have FBb := Lib.hid (KBox.chg FBa.out gb hne)
    have FRb := Lib.hid (ItAt.chg FRa.out gb hne1)
    have FIb := Lib.hid (ItAt.chg FIa.out gb hneI)
    (try clear c0 c1)
    (try clear i0 i1 i2 i3 iz)
    obtain ⟨c0, c1⟩ := FBb.out
    obtain ⟨i0, i1, i2, i3, iz⟩ := ItAt.cells FIb.out
    cases ok with
    | false =>
      have HE : Hid (R = (τv, ⟨3, n1, 0, nv⟩)) := by
        show _ = _
        rw [HR.out]
        simp
      clear HR
      obtain ⟨r0, r1, r2, r3, rz⟩ := ItAt.cells FRb.out
      obtain ⟨j0, j1, j2, j3, jz⟩ := ItAt.cells (itAt_set3 FIb.out nv)
      go_wp2
      refine bodyPost_ret (v := itV ⟨3, n1, 0, nv⟩) ?_ rfl ⟨by rw [HE.out], ?_, ?_⟩
      · rw [results_cell1 rfl]
        go_simp
      · rw [HE.out]
        exact hb.set hneI _ |>.set hneI _ |>.set4 hne1 _ _ _ _
      · exact gB.setNew (by omega) |>.setNew (by omega) |>.set4 (by omega) _ _ _ _
    | true =>
      by_cases h0 : nv = 0
      · have h0' : (nv == 0) = true := by simpa using h0
        have HE : Hid (R = (failP at3 4 τv, ⟨3, n1, 0, nv⟩)) := by
          show _ = _
          rw [HR.out]
          simp [h0]
        clear HR h0
        go_wp2_with fail
        refine (HF2.out _ hb).mono ?_
        rintro e wc ⟨rfl, hc, gc⟩
        have gC := gB.trans gc
        have FBc := Lib.hid (KBox.chg FBb.out gc hne)
        have FRc := Lib.hid (ItAt.chg FRb.out gc hne1)
        have FIc := Lib.hid (ItAt.chg FIb.out gc hneI)
        (try clear c0 c1)
        (try clear i0 i1 i2 i3 iz)
        obtain ⟨c0, c1⟩ := FBc.out
        obtain ⟨i0, i1, i2, i3, iz⟩ := ItAt.cells FIc.out
        obtain ⟨r0, r1, r2, r3, rz⟩ := ItAt.cells FRc.out
        obtain ⟨j0, j1, j2, j3, jz⟩ := ItAt.cells (itAt_set3 FIc.out nv)
        go_wp2
        refine bodyPost_ret (v := itV ⟨3, n1, 0, nv⟩) ?_ rfl ⟨by rw [HE.out], ?_, ?_⟩
        · rw [results_cell1 rfl]
          go_simp
        · rw [HE.out]
          exact hc.set hneI _ |>.set hneI _ |>.set4 hne1 _ _ _ _
        · exact gC.setNew (by omega) |>.setNew (by omega) |>.set4 (by omega) _ _ _ _
      · have h0' : (nv == 0) = false := by simpa using h0
        have HE : Hid (R = (τv, ⟨3, n1, 0, nv⟩)) := by
          show _ = _
          rw [HR.out]
          simp [h0]
        clear HR h0
        obtain ⟨r0, r1, r2, r3, rz⟩ := ItAt.cells FRb.out
        obtain ⟨j0, j1, j2, j3, jz⟩ := ItAt.cells (itAt_set3 FIb.out nv)
        go_wp2
        refine bodyPost_ret (v := itV ⟨3, n1, 0, nv⟩) ?_ rfl ⟨by rw [HE.out], ?_, ?_⟩
        · rw [results_cell1 rfl]
          go_simp
        · rw [HE.out]
          exact hb.set hneI _ |>.set hneI _ |>.set4 hne1 _ _ _ _
        · exact gB.setNew (by omega) |>.setNew (by omega) |>.set4 (by omega) _ _ _ _
end Go.Proofs.YtochhmkdhdadhaaGreat

/- The walks of package calread's reader: an item of a field that is a range the wrong way round. -/
namespace Go.Proofs.YtochhmkdhdadhaaGreat
open Go.RowKit
set_option linter.unusedSimpArgs false
set_option linter.unusedVariables false

set_option maxRecDepth 20000 in
set_option maxHeartbeats 2000000 in
theorem kitem_less {w : World} {b : Nat} {s : ByteArray} {σ : PS} (hs : s.size ≤ 1000000) (f : Nat) (hf : f < 7) (h : RdP w b s σ) (hyes : (textP dots (subP s.size f (knumP s.size f σ).1)).2 = true) (hl : (knumP s.size f (textP dots (subP s.size f (knumP s.size f σ).1)).1).2 < (knumP s.size f σ).2) : Calls Tryz.prog 154 #[kV b s, .int .i64 (f : Int)] w (RetP (itV (kitemP s.size f σ).2) b s (kitemP s.size f σ).1 w) := by
  have hs9 : s.size ≤ 9223372036854775807 := by omega
  have hlt := h.lt
  have hne : ¬ w.heap.size = b := by omega
  have hne1 : ¬ w.heap.size + 1 = b := by omega
  have H := Lib.hid h
  have HN1 := Lib.hid (fun W (h : RdP W b s σ) => knum_ps hs f hf h)
  have HR0 := Lib.hid (fun τq it (h : kheadP s.size f σ = (τq, it)) => kitemP_of h)
  have HH : Hid (kheadP s.size f σ = if (textP dots (subP s.size f (knumP s.size f σ).1)).2 then
      (subP s.size f (if (knumP s.size f (textP dots (subP s.size f (knumP s.size f σ).1)).1).2 < (knumP s.size f σ).2 then failP (atP s.size (textP dots (subP s.size f (knumP s.size f σ).1)).1) 4 (knumP s.size f (textP dots (subP s.size f (knumP s.size f σ).1)).1).1 else (knumP s.size f (textP dots (subP s.size f (knumP s.size f σ).1)).1).1),
        ⟨2, (knumP s.size f σ).2, (knumP s.size f (textP dots (subP s.size f (knumP s.size f σ).1)).1).2, 1⟩)
    else ((textP dots (subP s.size f (knumP s.size f σ).1)).1, ⟨1, (knumP s.size f σ).2, 0, 0⟩)) := rfl
  generalize kheadP s.size f σ = Q at *
  generalize kitemP s.size f σ = R at *
  generalize knumP s.size f σ = x1 at *
  obtain ⟨τ1, n1⟩ := x1
  dsimp only at *
  have HS1 := Lib.hid (fun W (h : RdP W b s τ1) => sub_ks hs f h)
  generalize subP s.size f τ1 = τs at *
  have HT := Lib.hid (fun W (h : RdP W b s τs) => text_ps (t := ⟨#[46, 46]⟩) hs (by decide) h)
  rw [show (⟨#[46, 46]⟩ : ByteArray).data.toList = dots from rfl] at HT
  generalize textP dots τs = x2 at *
  obtain ⟨τ2, yes⟩ := x2
  dsimp only at *
  subst hyes
  have HA := Lib.hid (fun W (h : RdP W b s τ2) => at_ps h)
  have HN3 := Lib.hid (fun W (h : RdP W b s τ2) => knum_ps hs f hf h)
  generalize atP s.size τ2 = at2 at *
  generalize knumP s.size f τ2 = x3 at *
  obtain ⟨τ3, n3⟩ := x3
  dsimp only at *
  have HF := Lib.hid (fun W (h : RdP W b s τ3) => fail_ps at2 4 h)
  have HS4 := Lib.hid (fun W (h : RdP W b s (failP at2 4 τ3)) => sub_ks hs f h)
  have HQ : Hid (Q = (subP s.size f (failP at2 4 τ3), ⟨2, n1, n3, 1⟩)) := by show _ = _; rw [HH.out, if_pos rfl, if_pos hl]
  generalize subP s.size f (failP at2 4 τ3) = τ5 at *
  clear HH
  clear h
  go_enter Tryz.func154, Tryz.ntmps154
  go_wp2_with fail
  refine (HN1.out _ ((H.out.alloc _).alloc _)).mono ?_
  rintro e w1 ⟨rfl, h1, g1⟩
  have hz1 : w.heap.size + 1 < w1.heap.size := by have := g1.size; simp at this; omega
  have hz1' : w.heap.size < w1.heap.size := by omega
  have hneI : ¬ w1.heap.size = b := by omega
  have hneRI : ¬ w.heap.size + 1 = w1.heap.size := by omega
  have hneIR : ¬ w1.heap.size = w.heap.size + 1 := by omega
  have hneBI : ¬ w.heap.size = w1.heap.size := by omega
  have hneIB : ¬ w1.heap.size = w.heap.size := by omega
  have g1' := (((Chg.refl b w).alloc _).alloc _).trans g1
  have FB1 := Lib.hid (((kbox_new w b s 82).alloc (.cells #[.int .i64 0, .int .i64 0, .int .i64 0, .int .i64 0] 59)).chg g1 hne)
  have FR1 := Lib.hid ((itAt_new2 w b s 82 59).chg g1 hne1)
  obtain ⟨c0, c1⟩ := FB1.out
  go_wp2_with fail
  refine (HS1.out _ (h1.alloc _)).mono ?_
  rintro e ws ⟨rfl, hs1, gs⟩
  have gs' := (g1'.alloc _).trans gs
  have FBs := Lib.hid (KBox.chg (FB1.out.alloc _) gs hne)
  have FRs := Lib.hid (ItAt.chg (FR1.out.alloc _) gs hne1)
  have FIs := Lib.hid (ItAt.chg (itAt_new w1 1 n1 0 0 59) gs hneI)
  (try clear c0 c1)
  (try clear i0 i1 i2 i3 iz)
  obtain ⟨c0, c1⟩ := FBs.out
  obtain ⟨i0, i1, i2, i3, iz⟩ := ItAt.cells FIs.out
  go_wp2_with fail
  refine (HT.out _ hs1).mono ?_
  rintro e w2 ⟨rfl, h2, g2⟩
  have g2' := gs'.trans g2
  have FB2 := Lib.hid (KBox.chg FBs.out g2 hne)
  have FR2 := Lib.hid (ItAt.chg FRs.out g2 hne1)
  have FI2 := Lib.hid (ItAt.chg FIs.out g2 hneI)
  (try clear c0 c1)
  (try clear i0 i1 i2 i3 iz)
  obtain ⟨c0, c1⟩ := FB2.out
  obtain ⟨i0, i1, i2, i3, iz⟩ := ItAt.cells FI2.out
  go_wp2_with fail
  refine (HA.out _ h2).mono ?_
  rintro e w3 ⟨rfl, rfl⟩
  go_wp2_with fail
  refine (HN3.out _ h2).mono ?_
  rintro e w3 ⟨rfl, h3, g3⟩
  have g3' := g2'.trans g3
  have FB3 := Lib.hid (KBox.chg FB2.out g3 hne)
  have FR3 := Lib.hid (ItAt.chg FR2.out g3 hne1)
  have FI3 := Lib.hid (ItAt.chg FI2.out g3 hneI)
  (try clear c0 c1)
  (try clear i0 i1 i2 i3 iz)
  obtain ⟨c0, c1⟩ := FB3.out
  obtain ⟨i0, i1, i2, i3, iz⟩ := ItAt.cells FI3.out
  have h3' := ((h3.set (o := 0) hneI (.int .i64 2)).set (o := 2) hneI (.int .i64 n3)).set (o := 3) hneI (.int .i64 1)
  have g3'' := ((g3'.setNew (B := w1.heap.size) (o := 0) (v := .int .i64 2) (by omega)).setNew (B := w1.heap.size) (o := 2) (v := .int .i64 n3) (by omega)).setNew (B := w1.heap.size) (o := 3) (v := .int .i64 1) (by omega)
  have FBx := Lib.hid (((FB3.out.set (o := 0) hneIB (.int .i64 2)).set (o := 2) hneIB (.int .i64 n3)).set (o := 3) hneIB (.int .i64 1))
  have FIx := Lib.hid (itAt_set3 (itAt_set2 (itAt_set0 FI3.out 2) n3) 1)
  have FRx := Lib.hid (((FR3.out.other3 (o := 0) hneIR (.int .i64 2)).other3 (o := 2) hneIR (.int .i64 n3)).other3 (o := 3) hneIR (.int .i64 1))
  go_wp2_with fail
  refine (HF.out _ h3').mono ?_
  rintro e w4 ⟨rfl, h4, g4⟩
  have g4' := g3''.trans g4
  have FB4 := Lib.hid (KBox.chg FBx.out g4 hne)
  have FR4 := Lib.hid (ItAt.chg FRx.out g4 hne1)
  have FI4 := Lib.hid (ItAt.chg FIx.out g4 hneI)
  (try clear c0 c1)
  (try clear i0 i1 i2 i3 iz)
  obtain ⟨c0, c1⟩ := FB4.out
  obtain ⟨i0, i1, i2, i3, iz⟩ := ItAt.cells FI4.out
  go_wp2_with fail
  refine (HS4.out _ h4).mono ?_
  rintro e w5 ⟨rfl, h5, g5⟩
  have g5' := g4'.trans g5
  have FB5 := Lib.hid (KBox.chg FB4.out g5 hne)
  have FR5 := Lib.hid (ItAt.chg FR4.out g5 hne1)
  have FI5 := Lib.hid (ItAt.chg FI4.out g5 hneI)
  (try clear c0 c1)
  (try clear i0 i1 i2 i3 iz)
  obtain ⟨c0, c1⟩ := FB5.out
  obtain ⟨i0, i1, i2, i3, iz⟩ := ItAt.cells FI5.out
  have HI := Lib.hid (fun W A n cp (h : RdP W b s τ5) (hA : RdBytes W A n [47]) (hn : n ≤ 9223372036854775807) => is_ps (cp := cp) hs9 h hA hn)
  have HR := Lib.hid (HR0.out _ _ HQ.out)
  clear HR0 HQ
  generalize isP [47] τ5 = u at *
  obtain ⟨τu, slash⟩ := u
  dsimp only at *
  have HA2 := Lib.hid (fun W (h : RdP W b s τu) => at_ps h)
  have HN := Lib.hid (fun W (h : RdP W b s τu) => number_ps hs9 (most := 3) (by decide) h)
  generalize atP s.size τu = at3 at *
  generalize numP s.size 3 τu = v at *
  obtain ⟨τv, nv, ok⟩ := v
  dsimp only at *
  have HF2 := Lib.hid (fun W (h : RdP W b s τv) => fail_ps at3 4 h)
  go_wp2_with fail
  refine (HI.out _ _ _ _ (h5.alloc _) (rdB1 (c := 47) (cell_new rfl rfl)) (by decide)).mono ?_
  rintro e wa ⟨rfl, ha, ga⟩
  have gA := (g5'.alloc _).trans ga
  have FBa := Lib.hid (KBox.chg (FB5.out.alloc _) ga hne)
  have FRa := Lib.hid (ItAt.chg (FR5.out.alloc _) ga hne1)
  have FIa := Lib.hid (ItAt.chg (FI5.out.alloc _) ga hneI)
  (try clear c0 c1)
  (try clear i0 i1 i2 i3 iz)
  obtain ⟨c0, c1⟩ := FBa.out
  obtain ⟨i0, i1, i2, i3, iz⟩ := ItAt.cells FIa.out
  cases slash with
  | false =>
    have HE : Hid (R = (τu, ⟨2, n1, n3, 1⟩)) := by show _ = _; rw [HR.out, if_neg (by simp)]
    clear HR
    obtain ⟨r0, r1, r2, r3, rz⟩ := ItAt.cells FRa.out
    go_wp2
    refine bodyPost_ret (v := itV ⟨2, n1, n3, 1⟩) ?_ rfl ⟨by rw [HE.out], ?_, ?_⟩
    · rw [results_cell1 rfl]
      go_simp
    · rw [HE.out]; exact ha.set4 hne1 _ _ _ _
    · exact gA.set4 (by omega) _ _ _ _
  | true =>
    go_wp2_with fail
    refine (HA2.out _ ha).mono ?_
    rintro e wb ⟨rfl, rfl⟩
    go_wp2_with fail
    refine (HN.out _ ha).mono ?_
    rintro e wb ⟨rfl, hb, gb⟩
    have gB := gA.trans gb
    have FBb := Lib.hid (KBox.chg FBa.out gb hne)
    have FRb := Lib.hid (ItAt.chg FRa.out gb hne1)
    have FIb := Lib.hid (ItAt.chg FIa.out gb hneI)
    (try clear c0 c1)
    (try clear i0 i1 i2 i3 iz)
    obtain ⟨c0, c1⟩ := FBb.out
    obtain ⟨i0, i1, i2, i3, iz⟩ := ItAt.cells FIb.out
    cases ok with
    | false =>
      have HE : Hid (R = (τv, ⟨2, n1, n3, nv⟩)) := by
        show _ = _
        rw [HR.out]
        simp
      clear HR
      obtain ⟨r0, r1, r2, r3, rz⟩ := ItAt.cells FRb.out
      obtain ⟨j0, j1, j2, j3, jz⟩ := ItAt.cells (itAt_set3 FIb.out nv)
      go_wp2
      refine bodyPost_ret (v := itV ⟨2, n1, n3, nv⟩) ?_ rfl ⟨by rw [HE.out], ?_, ?_⟩
      · rw [results_cell1 rfl]
        go_simp
      · rw [HE.out]
        exact hb.set hneI _  |>.set4 hne1 _ _ _ _
      · exact gB.setNew (by omega)  |>.set4 (by omega) _ _ _ _
    | true =>
      by_cases h0 : nv = 0
      · have h0' : (nv == 0) = true := by simpa using h0
        have HE : Hid (R = (failP at3 4 τv, ⟨2, n1, n3, nv⟩)) := by
          show _ = _
          rw [HR.out]
          simp [h0]
        clear HR h0
        go_wp2_with fail
        refine (HF2.out _ hb).mono ?_
        rintro e wc ⟨rfl, hc, gc⟩
        have gC := gB.trans gc
        have FBc := Lib.hid (KBox.chg FBb.out gc hne)
        have FRc := Lib.hid (ItAt.chg FRb.out gc hne1)
        have FIc := Lib.hid (ItAt.chg FIb.out gc hneI)
        (try clear c0 c1)
        (try clear i0 i1 i2 i3 iz)
        obtain ⟨c0, c1⟩ := FBc.out
        obtain ⟨i0, i1, i2, i3, iz⟩ := ItAt.cells FIc.out
        obtain ⟨r0, r1, r2, r3, rz⟩ := ItAt.cells FRc.out
        obtain ⟨j0, j1, j2, j3, jz⟩ := ItAt.cells (itAt_set3 FIc.out nv)
        go_wp2
        refine bodyPost_ret (v := itV ⟨2, n1, n3, nv⟩) ?_ rfl ⟨by rw [HE.out], ?_, ?_⟩
        · rw [results_cell1 rfl]
          go_simp
        · rw [HE.out]
          exact hc.set hneI _  |>.set4 hne1 _ _ _ _
        · exact gC.setNew (by omega)  |>.set4 (by omega) _ _ _ _
      · have h0' : (nv == 0) = false := by simpa using h0
        have HE : Hid (R = (τv, ⟨2, n1, n3, nv⟩)) := by
          show _ = _
          rw [HR.out]
          simp [h0]
        clear HR h0
        obtain ⟨r0, r1, r2, r3, rz⟩ := ItAt.cells FRb.out
        obtain ⟨j0, j1, j2, j3, jz⟩ := ItAt.cells (itAt_set3 FIb.out nv)
        go_wp2
        refine bodyPost_ret (v := itV ⟨2, n1, n3, nv⟩) ?_ rfl ⟨by rw [HE.out], ?_, ?_⟩
        · rw [results_cell1 rfl]
          go_simp
        · rw [HE.out]
          exact hb.set hneI _  |>.set4 hne1 _ _ _ _
        · exact gB.setNew (by omega)  |>.set4 (by omega) _ _ _ _
end Go.Proofs.YtochhmkdhdadhaaGreat

namespace Go.Proofs.YtochhmkdhdadhaaGreat
open Go.RowKit
set_option linter.unusedSimpArgs false
set_option linter.unusedVariables false

set_option maxRecDepth 20000 in
set_option maxHeartbeats 2000000 in
theorem kitem_rng {w : World} {b : Nat} {s : ByteArray} {σ : PS} (hs : s.size ≤ 1000000) (f : Nat) (hf : f < 7) (h : RdP w b s σ) (hyes : (textP dots (subP s.size f (knumP s.size f σ).1)).2 = true) (hl : ¬ (knumP s.size f (textP dots (subP s.size f (knumP s.size f σ).1)).1).2 < (knumP s.size f σ).2) : Calls Tryz.prog 154 #[kV b s, .int .i64 (f : Int)] w (RetP (itV (kitemP s.size f σ).2) b s (kitemP s.size f σ).1 w) := by
  have hs9 : s.size ≤ 9223372036854775807 := by omega
  have hlt := h.lt
  have hne : ¬ w.heap.size = b := by omega
  have hne1 : ¬ w.heap.size + 1 = b := by omega
  have H := Lib.hid h
  have HN1 := Lib.hid (fun W (h : RdP W b s σ) => knum_ps hs f hf h)
  have HR0 := Lib.hid (fun τq it (h : kheadP s.size f σ = (τq, it)) => kitemP_of h)
  have HH : Hid (kheadP s.size f σ = if (textP dots (subP s.size f (knumP s.size f σ).1)).2 then
      (subP s.size f (if (knumP s.size f (textP dots (subP s.size f (knumP s.size f σ).1)).1).2 < (knumP s.size f σ).2 then failP (atP s.size (textP dots (subP s.size f (knumP s.size f σ).1)).1) 4 (knumP s.size f (textP dots (subP s.size f (knumP s.size f σ).1)).1).1 else (knumP s.size f (textP dots (subP s.size f (knumP s.size f σ).1)).1).1),
        ⟨2, (knumP s.size f σ).2, (knumP s.size f (textP dots (subP s.size f (knumP s.size f σ).1)).1).2, 1⟩)
    else ((textP dots (subP s.size f (knumP s.size f σ).1)).1, ⟨1, (knumP s.size f σ).2, 0, 0⟩)) := rfl
  generalize kheadP s.size f σ = Q at *
  generalize kitemP s.size f σ = R at *
  generalize knumP s.size f σ = x1 at *
  obtain ⟨τ1, n1⟩ := x1
  dsimp only at *
  have HS1 := Lib.hid (fun W (h : RdP W b s τ1) => sub_ks hs f h)
  generalize subP s.size f τ1 = τs at *
  have HT := Lib.hid (fun W (h : RdP W b s τs) => text_ps (t := ⟨#[46, 46]⟩) hs (by decide) h)
  rw [show (⟨#[46, 46]⟩ : ByteArray).data.toList = dots from rfl] at HT
  generalize textP dots τs = x2 at *
  obtain ⟨τ2, yes⟩ := x2
  dsimp only at *
  subst hyes
  have HA := Lib.hid (fun W (h : RdP W b s τ2) => at_ps h)
  have HN3 := Lib.hid (fun W (h : RdP W b s τ2) => knum_ps hs f hf h)
  generalize atP s.size τ2 = at2 at *
  generalize knumP s.size f τ2 = x3 at *
  obtain ⟨τ3, n3⟩ := x3
  dsimp only at *
  have HS5 := Lib.hid (fun W (h : RdP W b s τ3) => sub_ks hs f h)
  have HQ : Hid (Q = (subP s.size f τ3, ⟨2, n1, n3, 1⟩)) := by show _ = _; rw [HH.out, if_pos rfl, if_neg hl]
  generalize subP s.size f τ3 = τ5 at *
  clear HH
  clear h
  go_enter Tryz.func154, Tryz.ntmps154
  go_wp2_with fail
  refine (HN1.out _ ((H.out.alloc _).alloc _)).mono ?_
  rintro e w1 ⟨rfl, h1, g1⟩
  have hz1 : w.heap.size + 1 < w1.heap.size := by have := g1.size; simp at this; omega
  have hz1' : w.heap.size < w1.heap.size := by omega
  have hneI : ¬ w1.heap.size = b := by omega
  have hneRI : ¬ w.heap.size + 1 = w1.heap.size := by omega
  have hneIR : ¬ w1.heap.size = w.heap.size + 1 := by omega
  have hneBI : ¬ w.heap.size = w1.heap.size := by omega
  have hneIB : ¬ w1.heap.size = w.heap.size := by omega
  have g1' := (((Chg.refl b w).alloc _).alloc _).trans g1
  have FB1 := Lib.hid (((kbox_new w b s 82).alloc (.cells #[.int .i64 0, .int .i64 0, .int .i64 0, .int .i64 0] 59)).chg g1 hne)
  have FR1 := Lib.hid ((itAt_new2 w b s 82 59).chg g1 hne1)
  obtain ⟨c0, c1⟩ := FB1.out
  go_wp2_with fail
  refine (HS1.out _ (h1.alloc _)).mono ?_
  rintro e ws ⟨rfl, hs1, gs⟩
  have gs' := (g1'.alloc _).trans gs
  have FBs := Lib.hid (KBox.chg (FB1.out.alloc _) gs hne)
  have FRs := Lib.hid (ItAt.chg (FR1.out.alloc _) gs hne1)
  have FIs := Lib.hid (ItAt.chg (itAt_new w1 1 n1 0 0 59) gs hneI)
  (try clear c0 c1)
  (try clear i0 i1 i2 i3 iz)
  obtain ⟨c0, c1⟩ := FBs.out
  obtain ⟨i0, i1, i2, i3, iz⟩ := ItAt.cells FIs.out
  go_wp2_with fail
  refine (HT.out _ hs1).mono ?_
  rintro e w2 ⟨rfl, h2, g2⟩
  have g2' := gs'.trans g2
  have FB2 := Lib.hid (KBox.chg FBs.out g2 hne)
  have FR2 := Lib.hid (ItAt.chg FRs.out g2 hne1)
  have FI2 := Lib.hid (ItAt.chg FIs.out g2 hneI)
  (try clear c0 c1)
  (try clear i0 i1 i2 i3 iz)
  obtain ⟨c0, c1⟩ := FB2.out
  obtain ⟨i0, i1, i2, i3, iz⟩ := ItAt.cells FI2.out
  go_wp2_with fail
  refine (HA.out _ h2).mono ?_
  rintro e w3 ⟨rfl, rfl⟩
  go_wp2_with fail
  refine (HN3.out _ h2).mono ?_
  rintro e w3 ⟨rfl, h3, g3⟩
  have g3' := g2'.trans g3
  have FB3 := Lib.hid (KBox.chg FB2.out g3 hne)
  have FR3 := Lib.hid (ItAt.chg FR2.out g3 hne1)
  have FI3 := Lib.hid (ItAt.chg FI2.out g3 hneI)
  (try clear c0 c1)
  (try clear i0 i1 i2 i3 iz)
  obtain ⟨c0, c1⟩ := FB3.out
  obtain ⟨i0, i1, i2, i3, iz⟩ := ItAt.cells FI3.out
  have h3' := ((h3.set (o := 0) hneI (.int .i64 2)).set (o := 2) hneI (.int .i64 n3)).set (o := 3) hneI (.int .i64 1)
  have g3'' := ((g3'.setNew (B := w1.heap.size) (o := 0) (v := .int .i64 2) (by omega)).setNew (B := w1.heap.size) (o := 2) (v := .int .i64 n3) (by omega)).setNew (B := w1.heap.size) (o := 3) (v := .int .i64 1) (by omega)
  have FBx := Lib.hid (((FB3.out.set (o := 0) hneIB (.int .i64 2)).set (o := 2) hneIB (.int .i64 n3)).set (o := 3) hneIB (.int .i64 1))
  have FIx := Lib.hid (itAt_set3 (itAt_set2 (itAt_set0 FI3.out 2) n3) 1)
  have FRx := Lib.hid (((FR3.out.other3 (o := 0) hneIR (.int .i64 2)).other3 (o := 2) hneIR (.int .i64 n3)).other3 (o := 3) hneIR (.int .i64 1))
  go_wp2_with fail
  refine (HS5.out _ h3').mono ?_
  rintro e w5 ⟨rfl, h5, g5⟩
  have g5' := g3''.trans g5
  have FB5 := Lib.hid (KBox.chg FBx.out g5 hne)
  have FR5 := Lib.hid (ItAt.chg FRx.out g5 hne1)
  have FI5 := Lib.hid (ItAt.chg FIx.out g5 hneI)
  (try clear c0 c1)
  (try clear i0 i1 i2 i3 iz)
  obtain ⟨c0, c1⟩ := FB5.out
  obtain ⟨i0, i1, i2, i3, iz⟩ := ItAt.cells FI5.out
  have HI := Lib.hid (fun W A n cp (h : RdP W b s τ5) (hA : RdBytes W A n [47]) (hn : n ≤ 9223372036854775807) => is_ps (cp := cp) hs9 h hA hn)
  have HR := Lib.hid (HR0.out _ _ HQ.out)
  clear HR0 HQ
  generalize isP [47] τ5 = u at *
  obtain ⟨τu, slash⟩ := u
  dsimp only at *
  have HA2 := Lib.hid (fun W (h : RdP W b s τu) => at_ps h)
  have HN := Lib.hid (fun W (h : RdP W b s τu) => number_ps hs9 (most := 3) (by decide) h)
  generalize atP s.size τu = at3 at *
  generalize numP s.size 3 τu = v at *
  obtain ⟨τv, nv, ok⟩ := v
  dsimp only at *
  have HF2 := Lib.hid (fun W (h : RdP W b s τv) => fail_ps at3 4 h)
  go_wp2_with fail
  refine (HI.out _ _ _ _ (h5.alloc _) (rdB1 (c := 47) (cell_new rfl rfl)) (by decide)).mono ?_
  rintro e wa ⟨rfl, ha, ga⟩
  have gA := (g5'.alloc _).trans ga
  have FBa := Lib.hid (KBox.chg (FB5.out.alloc _) ga hne)
  have FRa := Lib.hid (ItAt.chg (FR5.out.alloc _) ga hne1)
  have FIa := Lib.hid (ItAt.chg (FI5.out.alloc _) ga hneI)
  (try clear c0 c1)
  (try clear i0 i1 i2 i3 iz)
  obtain ⟨c0, c1⟩ := FBa.out
  obtain ⟨i0, i1, i2, i3, iz⟩ := ItAt.cells FIa.out
  cases slash with
  | false =>
    have HE : Hid (R = (τu, ⟨2, n1, n3, 1⟩)) := by show _ = _; rw [HR.out, if_neg (by simp)]
    clear HR
    obtain ⟨r0, r1, r2, r3, rz⟩ := ItAt.cells FRa.out
    go_wp2
    refine bodyPost_ret (v := itV ⟨2, n1, n3, 1⟩) ?_ rfl ⟨by rw [HE.out], ?_, ?_⟩
    · rw [results_cell1 rfl]
      go_simp
    · rw [HE.out]; exact ha.set4 hne1 _ _ _ _
    · exact gA.set4 (by omega) _ _ _ _
  | true =>
    go_wp2_with fail
    refine (HA2.out _ ha).mono ?_
    rintro e wb ⟨rfl, rfl⟩
    go_wp2_with fail
    refine (HN.out _ ha).mono ?_
    rintro e wb ⟨rfl, hb, gb⟩
    have gB := gA.trans gb
    have FBb := Lib.hid (KBox.chg FBa.out gb hne)
    have FRb := Lib.hid (ItAt.chg FRa.out gb hne1)
    have FIb := Lib.hid (ItAt.chg FIa.out gb hneI)
    (try clear c0 c1)
    (try clear i0 i1 i2 i3 iz)
    obtain ⟨c0, c1⟩ := FBb.out
    obtain ⟨i0, i1, i2, i3, iz⟩ := ItAt.cells FIb.out
    cases ok with
    | false =>
      have HE : Hid (R = (τv, ⟨2, n1, n3, nv⟩)) := by
        show _ = _
        rw [HR.out]
        simp
      clear HR
      obtain ⟨r0, r1, r2, r3, rz⟩ := ItAt.cells FRb.out
      obtain ⟨j0, j1, j2, j3, jz⟩ := ItAt.cells (itAt_set3 FIb.out nv)
      go_wp2
      refine bodyPost_ret (v := itV ⟨2, n1, n3, nv⟩) ?_ rfl ⟨by rw [HE.out], ?_, ?_⟩
      · rw [results_cell1 rfl]
        go_simp
      · rw [HE.out]
        exact hb.set hneI _  |>.set4 hne1 _ _ _ _
      · exact gB.setNew (by omega)  |>.set4 (by omega) _ _ _ _
    | true =>
      by_cases h0 : nv = 0
      · have h0' : (nv == 0) = true := by simpa using h0
        have HE : Hid (R = (failP at3 4 τv, ⟨2, n1, n3, nv⟩)) := by
          show _ = _
          rw [HR.out]
          simp [h0]
        clear HR h0
        go_wp2_with fail
        refine (HF2.out _ hb).mono ?_
        rintro e wc ⟨rfl, hc, gc⟩
        have gC := gB.trans gc
        have FBc := Lib.hid (KBox.chg FBb.out gc hne)
        have FRc := Lib.hid (ItAt.chg FRb.out gc hne1)
        have FIc := Lib.hid (ItAt.chg FIb.out gc hneI)
        (try clear c0 c1)
        (try clear i0 i1 i2 i3 iz)
        obtain ⟨c0, c1⟩ := FBc.out
        obtain ⟨i0, i1, i2, i3, iz⟩ := ItAt.cells FIc.out
        obtain ⟨r0, r1, r2, r3, rz⟩ := ItAt.cells FRc.out
        obtain ⟨j0, j1, j2, j3, jz⟩ := ItAt.cells (itAt_set3 FIc.out nv)
        go_wp2
        refine bodyPost_ret (v := itV ⟨2, n1, n3, nv⟩) ?_ rfl ⟨by rw [HE.out], ?_, ?_⟩
        · rw [results_cell1 rfl]
          go_simp
        · rw [HE.out]
          exact hc.set hneI _  |>.set4 hne1 _ _ _ _
        · exact gC.setNew (by omega)  |>.set4 (by omega) _ _ _ _
      · have h0' : (nv == 0) = false := by simpa using h0
        have HE : Hid (R = (τv, ⟨2, n1, n3, nv⟩)) := by
          show _ = _
          rw [HR.out]
          simp [h0]
        clear HR h0
        obtain ⟨r0, r1, r2, r3, rz⟩ := ItAt.cells FRb.out
        obtain ⟨j0, j1, j2, j3, jz⟩ := ItAt.cells (itAt_set3 FIb.out nv)
        go_wp2
        refine bodyPost_ret (v := itV ⟨2, n1, n3, nv⟩) ?_ rfl ⟨by rw [HE.out], ?_, ?_⟩
        · rw [results_cell1 rfl]
          go_simp
        · rw [HE.out]
          exact hb.set hneI _  |>.set4 hne1 _ _ _ _
        · exact gB.setNew (by omega)  |>.set4 (by omega) _ _ _ _
end Go.Proofs.YtochhmkdhdadhaaGreat
