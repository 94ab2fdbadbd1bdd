/- The walks of package ruleread's reader: weekdays with numbers, and the parts, but for the list of them. -/
import Derived.Test.YtnelecjjbmjhaaaGreatDoorWRrC
namespace Go.Proofs.YtnelecjjbmjhaaaGreatDoor
open Go.RowKit
set_option linter.unusedSimpArgs false
set_option linter.unusedVariables false
open Go

theorem nthArr_new (w : World) (o : Obj) (t : TypeId) : Arr ((w.alloc o).alloc (.cells #[.int .i64 0, .int .i64 0] t)) (w.heap.size + 1) 2 (fun _ => .int .i64 0) := by
  have e : (w.alloc o).heap.size = w.heap.size + 1 := by simp
  rw [← e]
  exact arr_new _ #[.int .i64 0, .int .i64 0] t (fun _ => .int .i64 0) (by
    intro j hj
    obtain rfl | rfl : j = 0 ∨ j = 1 := by simp at hj; omega
    · rfl
    · rfl)
section
variable {w : World} {b : Nat} {s : ByteArray} {σ : PS} (hs : s.size ≤ 1000000)
include hs
set_option maxRecDepth 20000 in
set_option maxHeartbeats 4000000 in
theorem nth_rr (h : RdP w b s σ) : Calls Tryz.prog 89 #[kV b s] w (RetP (.agg #[.int .i64 (rnthP s.size σ).2.1, .int .i64 (rnthP s.size σ).2.2]) b s (rnthP s.size σ).1 w) := by
  have hlt := h.lt
  have hne : ¬ w.heap.size = b := by omega
  have hne1 : ¬ w.heap.size + 1 = b := by omega
  have H := Lib.hid h
  have HP := Lib.hid (fun W (h : RdP W b s σ) => peek_ps h)
  have HS := Lib.hid (fun W (h : RdP W b s σ) => signed_rr hs 53 h)
  have HW := Lib.hid (fun W => rwdays_any W)
  have HO := Lib.hid (fun W τ B c (hB : B ≠ b) (hA : StrsAt W B wdN) (h : RdP W b s τ) => one_rr hs wdN (by decide) B c hB (by decide) hA h)
  have hpk : 0 ≤ peekP σ ∧ peekP σ < 256 := by
    unfold peekP
    split
    · cases σ.l with
      | nil => decide
      | cons c l =>
        have := c.toNat_lt
        show 0 ≤ (c.toNat : Int) ∧ (c.toNat : Int) < 256
        omega
    · decide
  obtain ⟨pk0, pk1⟩ := hpk
  have hob : ∀ τ, 0 ≤ (oneP s.size wdN τ).2 ∧ (oneP s.size wdN τ).2 ≤ 7 := by
    intro τ
    have h1 := wIdx_lt (someP letterP τ).2 wdN
    have h2 : (wdN.length : Int) = 7 := rfl
    unfold oneP
    dsimp only
    split
    · exact ⟨by dsimp only; omega, by dsimp only; omega⟩
    · split
      · exact ⟨by dsimp only; omega, by dsimp only; omega⟩
      · exact ⟨by dsimp only; omega, by dsimp only; omega⟩
  have HOB := Lib.hid hob
  have HR : Hid (rnthP s.size σ = ((oneP s.size wdN (if signedB (peekP σ) = true then signP s.size 53 σ else (σ, 0)).1).1, ((if signedB (peekP σ) = true then signP s.size 53 σ else (σ, 0)).2, (oneP s.size wdN (if signedB (peekP σ) = true then signP s.size 53 σ else (σ, 0)).1).2 + 1))) := rfl
  generalize rnthP s.size σ = R at *
  generalize peekP σ = pk at *
  generalize signP s.size 53 σ = u at *
  obtain ⟨τ, n⟩ := u
  dsimp only at *
  clear h hob
  cases hsg : signedB pk with
  | false =>
    rw [hsg] at HR
    simp only [Bool.false_eq_true, if_false] at HR
    have HO2 := Lib.hid (fun W => HO.out W σ)
    obtain ⟨ob0, ob1⟩ := HOB.out σ
    generalize oneP s.size wdN σ = q at *
    obtain ⟨υ, d⟩ := q
    dsimp only at *
    unfold signedB at hsg
    rw [decide_eq_false_iff_not, not_or, not_and] at hsg
    have hp1 : (pk == 45) = false := by simpa using hsg.1
    have hp2 : pk < 48 ∨ 57 < pk := by
      have := hsg.2
      omega
    clear hsg HOB HO HS
    rcases hp2 with hp2 | hp2
    · have hp3 : ¬ 48 ≤ pk := by omega
      go_enter Tryz.func89, Tryz.ntmps89
      go_wp2_with fail
      refine (HP.out _ ((H.out.alloc _).alloc _)).mono ?_
      rintro e w1 ⟨rfl, nq1, rfl⟩
      have hA : RdP (((w.alloc (.cells #[.pointer (some ⟨b, 0, none⟩), .string s] 64)).alloc (.cells #[.int .i64 0, .int .i64 0] 54)).drewN nq1) b s σ := ((H.out.alloc _).alloc _).drewN _
      have gA : Chg b w (((w.alloc (.cells #[.pointer (some ⟨b, 0, none⟩), .string s] 64)).alloc (.cells #[.int .i64 0, .int .i64 0] 54)).drewN nq1) := (((Chg.refl b w).alloc _).alloc _).drewN _
      have kA : KBox (((w.alloc (.cells #[.pointer (some ⟨b, 0, none⟩), .string s] 64)).alloc (.cells #[.int .i64 0, .int .i64 0] 54)).drewN nq1) w.heap.size b s := (kbox_new w b s _).alloc _
      have nA : w.heap.size + 2 ≤ (((w.alloc (.cells #[.pointer (some ⟨b, 0, none⟩), .string s] 64)).alloc (.cells #[.int .i64 0, .int .i64 0] 54)).drewN nq1).heap.size := by simp
      have rA : Arr (((w.alloc (.cells #[.pointer (some ⟨b, 0, none⟩), .string s] 64)).alloc (.cells #[.int .i64 0, .int .i64 0] 54)).drewN nq1) (w.heap.size + 1) 2 (fun _ => .int .i64 0) := (nthArr_new w _ _).drewN _
      generalize (((w.alloc (.cells #[.pointer (some ⟨b, 0, none⟩), .string s] 64)).alloc (.cells #[.int .i64 0, .int .i64 0] 54)).drewN nq1) = w1 at *
      obtain ⟨kc0, kc1⟩ := kA.cells2
      go_wp2_with fail
      have hz1 : w.heap.size < w1.heap.size := by omega
      go_region_with ((first | (go_at_call 136; refine (HW.out _).mono ?_; rintro e w3 ⟨B, c, rfl, hA3, hB3, hb3⟩; have u0 : w3.cell? ⟨w.heap.size, 0, none⟩ = some (.pointer (some ⟨b, 0, none⟩)) := (hb3.cell (p := ⟨w.heap.size, 0, none⟩) hz1).trans kc0; have u1 : w3.cell? ⟨w.heap.size, 1, none⟩ = some (.string s) := (hb3.cell (p := ⟨w.heap.size, 1, none⟩) hz1).trans kc1; have hz3 : w.heap.size < w3.heap.size := Nat.lt_of_lt_of_le hz1 hb3.size) | (go_at_call 75; refine (HO2.out _ B c (by have : _ ≤ B := hB3; intro e; subst e; exact absurd (Nat.lt_of_lt_of_le hA.lt this) (Nat.lt_irrefl _)) hA3 (hA.drew.below hb3)).mono ?_; rintro e w4 ⟨rfl, h4, g4⟩; have r4 : Arr w4 (w.heap.size + 1) 2 (fun _ => .int .i64 0) := Arr.chg (rA.drew.below nA hb3) (by decide) g4 hne1; have v0 : w4.cell? ⟨w.heap.size + 1, 0, none⟩ = some (.int .i64 0) := r4.1 0 (by decide); have v1 : w4.cell? ⟨w.heap.size + 1, 1, none⟩ = some (.int .i64 0) := r4.1 1 (by decide); have vf : ∀ j, w4.frozen? ⟨w.heap.size + 1, j, none⟩ = false := r4.2; have hz4 : w.heap.size + 1 < w4.heap.size := r4.lt (by decide))))
      all_goals
        go_wp2_with fail
        refine bodyPost_ret (v := .agg #[.int .i64 0, .int .i64 (d + 1)]) ?_ rfl ⟨by rw [HR.out], ?_, ?_⟩
        · rw [results_cell1 rfl]
          go_simp
          try exact IntWalk.i64_in _ (by omega)
        · rw [HR.out]
          exact (h4.set hne1 _).set hne1 _
        · exact ((((gA.drewN 1).trans (chg_of hb3)).trans g4).setNew (by omega)).setNew (by omega)
    · have hp3 : 48 ≤ pk := by omega
      have hp4 : ¬ pk ≤ 57 := by omega
      go_enter Tryz.func89, Tryz.ntmps89
      go_wp2_with fail
      refine (HP.out _ ((H.out.alloc _).alloc _)).mono ?_
      rintro e w1 ⟨rfl, nq1, rfl⟩
      have hA : RdP (((w.alloc (.cells #[.pointer (some ⟨b, 0, none⟩), .string s] 64)).alloc (.cells #[.int .i64 0, .int .i64 0] 54)).drewN nq1) b s σ := ((H.out.alloc _).alloc _).drewN _
      have gA : Chg b w (((w.alloc (.cells #[.pointer (some ⟨b, 0, none⟩), .string s] 64)).alloc (.cells #[.int .i64 0, .int .i64 0] 54)).drewN nq1) := (((Chg.refl b w).alloc _).alloc _).drewN _
      have kA : KBox (((w.alloc (.cells #[.pointer (some ⟨b, 0, none⟩), .string s] 64)).alloc (.cells #[.int .i64 0, .int .i64 0] 54)).drewN nq1) w.heap.size b s := (kbox_new w b s _).alloc _
      have nA : w.heap.size + 2 ≤ (((w.alloc (.cells #[.pointer (some ⟨b, 0, none⟩), .string s] 64)).alloc (.cells #[.int .i64 0, .int .i64 0] 54)).drewN nq1).heap.size := by simp
      have rA : Arr (((w.alloc (.cells #[.pointer (some ⟨b, 0, none⟩), .string s] 64)).alloc (.cells #[.int .i64 0, .int .i64 0] 54)).drewN nq1) (w.heap.size + 1) 2 (fun _ => .int .i64 0) := (nthArr_new w _ _).drewN _
      generalize (((w.alloc (.cells #[.pointer (some ⟨b, 0, none⟩), .string s] 64)).alloc (.cells #[.int .i64 0, .int .i64 0] 54)).drewN nq1) = w1 at *
      obtain ⟨kc0, kc1⟩ := kA.cells2
      go_wp2_with fail
      have hz1 : w.heap.size < w1.heap.size := by omega
      go_region_with ((first | (go_at_call 136; refine (HW.out _).mono ?_; rintro e w3 ⟨B, c, rfl, hA3, hB3, hb3⟩; have u0 : w3.cell? ⟨w.heap.size, 0, none⟩ = some (.pointer (some ⟨b, 0, none⟩)) := (hb3.cell (p := ⟨w.heap.size, 0, none⟩) hz1).trans kc0; have u1 : w3.cell? ⟨w.heap.size, 1, none⟩ = some (.string s) := (hb3.cell (p := ⟨w.heap.size, 1, none⟩) hz1).trans kc1; have hz3 : w.heap.size < w3.heap.size := Nat.lt_of_lt_of_le hz1 hb3.size) | (go_at_call 75; refine (HO2.out _ B c (by have : _ ≤ B := hB3; intro e; subst e; exact absurd (Nat.lt_of_lt_of_le hA.lt this) (Nat.lt_irrefl _)) hA3 (hA.drew.below hb3)).mono ?_; rintro e w4 ⟨rfl, h4, g4⟩; have r4 : Arr w4 (w.heap.size + 1) 2 (fun _ => .int .i64 0) := Arr.chg (rA.drew.below nA hb3) (by decide) g4 hne1; have v0 : w4.cell? ⟨w.heap.size + 1, 0, none⟩ = some (.int .i64 0) := r4.1 0 (by decide); have v1 : w4.cell? ⟨w.heap.size + 1, 1, none⟩ = some (.int .i64 0) := r4.1 1 (by decide); have vf : ∀ j, w4.frozen? ⟨w.heap.size + 1, j, none⟩ = false := r4.2; have hz4 : w.heap.size + 1 < w4.heap.size := r4.lt (by decide))))
      all_goals
        go_wp2_with fail
        refine bodyPost_ret (v := .agg #[.int .i64 0, .int .i64 (d + 1)]) ?_ rfl ⟨by rw [HR.out], ?_, ?_⟩
        · rw [results_cell1 rfl]
          go_simp
          try exact IntWalk.i64_in _ (by omega)
        · rw [HR.out]
          exact (h4.set hne1 _).set hne1 _
        · exact ((((gA.drewN 1).trans (chg_of hb3)).trans g4).setNew (by omega)).setNew (by omega)
  | true =>
    rw [hsg] at HR
    simp only [if_true] at HR
    have HO2 := Lib.hid (fun W => HO.out W τ)
    obtain ⟨ob0, ob1⟩ := HOB.out τ
    generalize oneP s.size wdN τ = q at *
    obtain ⟨υ, d⟩ := q
    dsimp only at *
    unfold signedB at hsg
    rw [decide_eq_true_eq] at hsg
    clear HOB HO
    by_cases hp : pk = 45
    · have hp1 : (pk == 45) = true := by simpa using hp
      clear hsg hp
      go_enter Tryz.func89, Tryz.ntmps89
      go_wp2_with fail
      refine (HP.out _ ((H.out.alloc _).alloc _)).mono ?_
      rintro e w1 ⟨rfl, nq1, rfl⟩
      have hA : RdP (((w.alloc (.cells #[.pointer (some ⟨b, 0, none⟩), .string s] 64)).alloc (.cells #[.int .i64 0, .int .i64 0] 54)).drewN nq1) b s σ := ((H.out.alloc _).alloc _).drewN _
      have gA : Chg b w (((w.alloc (.cells #[.pointer (some ⟨b, 0, none⟩), .string s] 64)).alloc (.cells #[.int .i64 0, .int .i64 0] 54)).drewN nq1) := (((Chg.refl b w).alloc _).alloc _).drewN _
      have kA : KBox (((w.alloc (.cells #[.pointer (some ⟨b, 0, none⟩), .string s] 64)).alloc (.cells #[.int .i64 0, .int .i64 0] 54)).drewN nq1) w.heap.size b s := (kbox_new w b s _).alloc _
      have nA : w.heap.size + 2 ≤ (((w.alloc (.cells #[.pointer (some ⟨b, 0, none⟩), .string s] 64)).alloc (.cells #[.int .i64 0, .int .i64 0] 54)).drewN nq1).heap.size := by simp
      have rA : Arr (((w.alloc (.cells #[.pointer (some ⟨b, 0, none⟩), .string s] 64)).alloc (.cells #[.int .i64 0, .int .i64 0] 54)).drewN nq1) (w.heap.size + 1) 2 (fun _ => .int .i64 0) := (nthArr_new w _ _).drewN _
      generalize (((w.alloc (.cells #[.pointer (some ⟨b, 0, none⟩), .string s] 64)).alloc (.cells #[.int .i64 0, .int .i64 0] 54)).drewN nq1) = w1 at *
      obtain ⟨kc0, kc1⟩ := kA.cells2
      go_wp2_with fail
      refine (HS.out _ hA).mono ?_
      rintro e w2 ⟨rfl, hA2, g2⟩
      have gA := gA.trans g2
      have rA := Arr.chg rA (by decide) g2 hne1
      have kA := kA.chg g2 hne
      have nA := Nat.le_trans nA g2.size
      clear kc0 kc1
      obtain ⟨kc0, kc1⟩ := kA.cells2
      have hA := hA2
      clear g2 hA2
      generalize w2 = w1 at *
      go_wp2_with fail
      have hz1 : w.heap.size < w1.heap.size := by omega
      go_region_with ((first | (go_at_call 136; refine (HW.out _).mono ?_; rintro e w3 ⟨B, c, rfl, hA3, hB3, hb3⟩; have u0 : w3.cell? ⟨w.heap.size, 0, none⟩ = some (.pointer (some ⟨b, 0, none⟩)) := (hb3.cell (p := ⟨w.heap.size, 0, none⟩) hz1).trans kc0; have u1 : w3.cell? ⟨w.heap.size, 1, none⟩ = some (.string s) := (hb3.cell (p := ⟨w.heap.size, 1, none⟩) hz1).trans kc1; have hz3 : w.heap.size < w3.heap.size := Nat.lt_of_lt_of_le hz1 hb3.size) | (go_at_call 75; refine (HO2.out _ B c (by have : _ ≤ B := hB3; intro e; subst e; exact absurd (Nat.lt_of_lt_of_le hA.lt this) (Nat.lt_irrefl _)) hA3 (hA.drew.below hb3)).mono ?_; rintro e w4 ⟨rfl, h4, g4⟩; have r4 : Arr w4 (w.heap.size + 1) 2 (fun _ => .int .i64 0) := Arr.chg (rA.drew.below nA hb3) (by decide) g4 hne1; have v0 : w4.cell? ⟨w.heap.size + 1, 0, none⟩ = some (.int .i64 0) := r4.1 0 (by decide); have v1 : w4.cell? ⟨w.heap.size + 1, 1, none⟩ = some (.int .i64 0) := r4.1 1 (by decide); have vf : ∀ j, w4.frozen? ⟨w.heap.size + 1, j, none⟩ = false := r4.2; have hz4 : w.heap.size + 1 < w4.heap.size := r4.lt (by decide))))
      all_goals
        go_wp2_with fail
        refine bodyPost_ret (v := .agg #[.int .i64 n, .int .i64 (d + 1)]) ?_ rfl ⟨by rw [HR.out], ?_, ?_⟩
        · rw [results_cell1 rfl]
          go_simp
          try exact IntWalk.i64_in _ (by omega)
        · rw [HR.out]
          exact (h4.set hne1 _).set hne1 _
        · exact ((((gA.drewN 1).trans (chg_of hb3)).trans g4).setNew (by omega)).setNew (by omega)
    · have hp1 : (pk == 45) = false := by simpa using hp
      have hp3 : 48 ≤ pk := by omega
      have hp4 : pk ≤ 57 := by omega
      clear hsg hp
      go_enter Tryz.func89, Tryz.ntmps89
      go_wp2_with fail
      refine (HP.out _ ((H.out.alloc _).alloc _)).mono ?_
      rintro e w1 ⟨rfl, nq1, rfl⟩
      have hA : RdP (((w.alloc (.cells #[.pointer (some ⟨b, 0, none⟩), .string s] 64)).alloc (.cells #[.int .i64 0, .int .i64 0] 54)).drewN nq1) b s σ := ((H.out.alloc _).alloc _).drewN _
      have gA : Chg b w (((w.alloc (.cells #[.pointer (some ⟨b, 0, none⟩), .string s] 64)).alloc (.cells #[.int .i64 0, .int .i64 0] 54)).drewN nq1) := (((Chg.refl b w).alloc _).alloc _).drewN _
      have kA : KBox (((w.alloc (.cells #[.pointer (some ⟨b, 0, none⟩), .string s] 64)).alloc (.cells #[.int .i64 0, .int .i64 0] 54)).drewN nq1) w.heap.size b s := (kbox_new w b s _).alloc _
      have nA : w.heap.size + 2 ≤ (((w.alloc (.cells #[.pointer (some ⟨b, 0, none⟩), .string s] 64)).alloc (.cells #[.int .i64 0, .int .i64 0] 54)).drewN nq1).heap.size := by simp
      have rA : Arr (((w.alloc (.cells #[.pointer (some ⟨b, 0, none⟩), .string s] 64)).alloc (.cells #[.int .i64 0, .int .i64 0] 54)).drewN nq1) (w.heap.size + 1) 2 (fun _ => .int .i64 0) := (nthArr_new w _ _).drewN _
      generalize (((w.alloc (.cells #[.pointer (some ⟨b, 0, none⟩), .string s] 64)).alloc (.cells #[.int .i64 0, .int .i64 0] 54)).drewN nq1) = w1 at *
      obtain ⟨kc0, kc1⟩ := kA.cells2
      go_wp2_with fail
      refine (HS.out _ hA).mono ?_
      rintro e w2 ⟨rfl, hA2, g2⟩
      have gA := gA.trans g2
      have rA := Arr.chg rA (by decide) g2 hne1
      have kA := kA.chg g2 hne
      have nA := Nat.le_trans nA g2.size
      clear kc0 kc1
      obtain ⟨kc0, kc1⟩ := kA.cells2
      have hA := hA2
      clear g2 hA2
      generalize w2 = w1 at *
      go_wp2_with fail
      have hz1 : w.heap.size < w1.heap.size := by omega
      go_region_with ((first | (go_at_call 136; refine (HW.out _).mono ?_; rintro e w3 ⟨B, c, rfl, hA3, hB3, hb3⟩; have u0 : w3.cell? ⟨w.heap.size, 0, none⟩ = some (.pointer (some ⟨b, 0, none⟩)) := (hb3.cell (p := ⟨w.heap.size, 0, none⟩) hz1).trans kc0; have u1 : w3.cell? ⟨w.heap.size, 1, none⟩ = some (.string s) := (hb3.cell (p := ⟨w.heap.size, 1, none⟩) hz1).trans kc1; have hz3 : w.heap.size < w3.heap.size := Nat.lt_of_lt_of_le hz1 hb3.size) | (go_at_call 75; refine (HO2.out _ B c (by have : _ ≤ B := hB3; intro e; subst e; exact absurd (Nat.lt_of_lt_of_le hA.lt this) (Nat.lt_irrefl _)) hA3 (hA.drew.below hb3)).mono ?_; rintro e w4 ⟨rfl, h4, g4⟩; have r4 : Arr w4 (w.heap.size + 1) 2 (fun _ => .int .i64 0) := Arr.chg (rA.drew.below nA hb3) (by decide) g4 hne1; have v0 : w4.cell? ⟨w.heap.size + 1, 0, none⟩ = some (.int .i64 0) := r4.1 0 (by decide); have v1 : w4.cell? ⟨w.heap.size + 1, 1, none⟩ = some (.int .i64 0) := r4.1 1 (by decide); have vf : ∀ j, w4.frozen? ⟨w.heap.size + 1, j, none⟩ = false := r4.2; have hz4 : w.heap.size + 1 < w4.heap.size := r4.lt (by decide))))
      all_goals
        go_wp2_with fail
        refine bodyPost_ret (v := .agg #[.int .i64 n, .int .i64 (d + 1)]) ?_ rfl ⟨by rw [HR.out], ?_, ?_⟩
        · rw [results_cell1 rfl]
          go_simp
          try exact IntWalk.i64_in _ (by omega)
        · rw [HR.out]
          exact (h4.set hne1 _).set hne1 _
        · exact ((((gA.drewN 1).trans (chg_of hb3)).trans g4).setNew (by omega)).setNew (by omega)
set_option maxRecDepth 20000 in
set_option maxHeartbeats 2000000 in
theorem wlist_rr (h : RdP w b s σ) :
    Calls Tryz.prog 88 #[kV b s, .func (.func 89) #[kV b s] #[]] w (RetPN (rlistP s.size (rnthP s.size) 63 σ).2 b s (rlistP s.size (rnthP s.size) 63 σ).1 w) := by
  have HI := Lib.hid (fun W σ (_ : Chg b w W) (h : RdP W b s σ) => nth_rr hs h)
  generalize rnthP s.size = one at *
  obtain ⟨q, hq⟩ : ∃ q : Nat, q = 63 := ⟨_, rfl⟩
  obtain ⟨i0, hi0, hz0, hz1, hz2⟩ := info_parts info_nthR
  have hs9 : s.size ≤ 9223372036854775807 := by omega
  have hlt := h.lt
  have hne : w.heap.size ≠ b := by omega
  have H := Lib.hid h
  have HI0 := Lib.hid hi0
  have HZ0 := Lib.hid hz0
  have HZ1 := Lib.hid hz1
  have HZ2 := Lib.hid hz2
  clear hi0 hz0 hz1 hz2
  clear h
  go_enter Tryz.func88, Tryz.ntmps88
  go_wp2
  go_step3
  go_wp2
  go_step3
  go_wp2
  go_loopg [5] (q : Nat) (fun gg v wr => ∃ (vo : Value) (acc : List (Int × Int)) (σ' : PS) (q0 : Nat), vo = v ∧ gg = q0 ∧ acc.length + q0 = 63 ∧ Hid (rlistP s.size one 63 σ = ((rlistP s.size one q0 σ').1, acc ++ (rlistP s.size one q0 σ').2)) ∧ Hid (OwnNths wr (w.heap.size + 1) vo acc) ∧ Hid (RdP wr b s σ') ∧ Hid (KBox wr w.heap.size b s) ∧ Hid (Chg b w wr))
  case atStart => exact ⟨_, [], σ, 63, rfl, hq, by simp, by show _ = _; simp, World.ownsRow_nil _ _ _ _, H.out.alloc _, kbox_new _ _ _ _, (Chg.refl b w).alloc _⟩
  case round =>
    obtain ⟨vo, acc, σ', q0, rfl, hgq, hal, HQ, HO, HD, HB, HC⟩ := hrel
    have hlt : b < w.heap.size + 1 := by omega
    have HOne := Lib.hid (HI.out wr σ' HC.out HD.out)
    have HST := Lib.hid (rlistP_step s.size one q0 σ')
    generalize one σ' = r at *
    obtain ⟨τ, i⟩ := r
    dsimp only at *
    have HA := Lib.hid (fun W (h : RdP W b s τ) => at_ps h)
    have HIs := Lib.hid (fun W A n cp (h : RdP W b s τ) (hA : RdBytes W A n [44]) (hn : n ≤ 9223372036854775807) => is_ps (cp := cp) hs9 h hA hn)
    generalize atP s.size τ = at0 at *
    generalize isP [44] τ = u at *
    obtain ⟨υ, comma⟩ := u
    dsimp only at *
    have HF := Lib.hid (fun W (h : RdP W b s υ) => fail_ps at0 5 h)
    go_wp2_with fail
    refine (HOne.out).mono ?_
    rintro e w2 ⟨rfl, h2, g2⟩
    have HO2 := Lib.hid (own_chg HO.out g2 hlt)
    have HB2 := Lib.hid (HB.out.chg g2 hne)
    have hgA := HC.out.trans g2
    have hz2 := hgA.size
    have hi0 := HI0.out
    have hz0 := HZ0.out
    have hz1 := HZ1.out
    have hzz2 := HZ2.out
    go_wp2_with (at_builtin; refine wpList_append_own _ rfl _ _ 23 rfl (w.heap.size + 1) 54 i0 _ 2 16 Tryz.underlying23 hi0 hz0 hz1 hzz2 rfl (by decide) _ acc.length _ rfl (HO2.out.alloc _) ⟨w2.heap.size, 0, none⟩ 1 1 [.int .i64 i.1, .int .i64 i.2] rfl rfl ?c1 ?c2 ?c3 ?c4 ?c5 ?c6)
    case c1 =>
      intro j u hu
      rcases j with _ | _ | j
      · simp at hu; subst hu
        exact cell_new rfl rfl
      · simp at hu; subst hu
        exact cell_new rfl rfl
      · simp at hu
    case c2 =>
      intro u hu
      simp at hu
      rcases hu with rfl | rfl <;> rfl
    case c3 => simp only [maxLen]; omega
    case c4 => omega
    case c5 => simp; omega
    case c6 =>
      intro v' w3 hown hg _
      have HV : Hid (OwnNths w3 (w.heap.size + 1) v' (acc ++ [i])) := by
        show World.ownsRow _ _ _ _ _ _ _
        rw [List.length_append, List.flatMap_append, List.flatMap_singleton]
        exact hown
      have hob1 : ∀ k, vo.ownBlock = some k → w.heap.size + 1 ≤ k := own_ge HO.out
      have hob : ∀ k, vo.ownBlock = some k → w.heap.size ≤ k := fun k hk => by have := hob1 k hk; omega
      have hobn : vo.ownBlock ≠ some b := fun e => by have := hob b e; omega
      have hobB : vo.ownBlock ≠ some w.heap.size := fun e => by have := hob1 _ e; omega
      have h3 := (h2.alloc (.cells #[.int .i64 i.1, .int .i64 i.2] 54)).grown hg hobn
      have HB3 := Lib.hid ((HB2.out.alloc _).grown hg hobB)
      have hgB := (hgA.alloc _).grown hg hob
      have HLn : Hid ((acc ++ [i]).length = acc.length + 1) := by show _ = _; simp
      have hpos : 0 < (acc ++ [i]).length := by simp
      clear hown hg hi0 hz0 hz1 hzz2 h2 g2 HO2 HB2 hob hob1 hobn hobB
      obtain ⟨g, cap, rfl, hgb, hgl⟩ : ∃ g cap, v' = .slice (some ⟨g, 0, none⟩) (acc ++ [i]).length cap ∧ w.heap.size + 1 ≤ g ∧ g < w3.heap.size := by
        rcases own_some HV.out with ⟨_, h0⟩ | h1
        · omega
        · exact h1
      obtain ⟨acc1, hacc⟩ : ∃ x, x = acc ++ [i] := ⟨_, rfl⟩
      rw [← hacc] at HV HLn ⊢
      have HAcc := Lib.hid hacc
      rw [HLn.out]
      clear hpos hacc
      obtain ⟨c0, c1⟩ := HB3.out
      have hz3 := hgB.size
      go_wp2_with fail
      refine (HA.out _ h3).mono ?_
      rintro e w4 ⟨rfl, rfl⟩
      go_wp2_with fail
      refine (HIs.out _ _ _ _ (h3.alloc _) (rdB1 (c := 44) (cell_new rfl rfl)) (by decide)).mono ?_
      rintro e w5 ⟨rfl, h5, g5⟩
      have hgD := (hgB.alloc _).trans g5
      have HB5 := Lib.hid ((HB3.out.alloc _).chg g5 hne)
      have HV5 := Lib.hid (own_chg (HV.out.alloc _) g5 hlt)
      clear c0 c1
      obtain ⟨c0, c1⟩ := HB5.out
      cases comma with
      | false =>
        have HE : Hid (rlistP s.size one 63 σ = (υ, acc1)) := by
          show _ = _
          rw [HQ.out, HST.out, HAcc.out]
          simp
        clear HQ HST
        go_wp2
        (try rw [Exit.noGoto_ret])
        go_ret
        exact ⟨.slice (some ⟨g, 0, none⟩) acc1.length cap, by rw [HLn.out]; rfl, by rw [HE.out]; exact own_base HV5.out (by omega), by rw [HE.out]; exact h5, hgD⟩
      | true =>
        cases q0 with
        | zero =>
          have hal2 : ((acc.length : Int) + 1 == 64) = true := by simp; omega
          have HE : Hid (rlistP s.size one 63 σ = (failP at0 5 υ, acc1)) := by
            show _ = _
            rw [HQ.out, HST.out, HAcc.out]
            simp
          clear HQ HST
          go_wp2_with fail
          refine (HF.out _ h5).mono ?_
          rintro e w6 ⟨rfl, h6, g6⟩
          have HV6 := Lib.hid (own_chg HV5.out g6 hlt)
          go_wp2
          (try rw [Exit.noGoto_ret])
          go_ret
          exact ⟨.slice (some ⟨g, 0, none⟩) acc1.length cap, by rw [HLn.out]; rfl, by rw [HE.out]; exact own_base HV6.out (by omega), by rw [HE.out]; exact h6, hgD.trans g6⟩
        | succ q1 =>
          have hal2 : ((acc.length : Int) + 1 == 64) = false := by simp; omega
          have HE : Hid (rlistP s.size one 63 σ = ((rlistP s.size one q1 υ).1, acc1 ++ (rlistP s.size one q1 υ).2)) := by
            show _ = _
            rw [HQ.out, HST.out, HAcc.out]
            simp
          clear HQ HST
          go_wp2
          go_roundg q1
          case measure => omega
          case rel => exact ⟨.slice (some ⟨g, 0, none⟩) acc1.length cap, acc1, υ, q1, by rw [HLn.out], rfl, by rw [HLn.out]; omega, HE.out, HV5.out, h5, HB5.out, hgD⟩
end
end Go.Proofs.YtnelecjjbmjhaaaGreatDoor
