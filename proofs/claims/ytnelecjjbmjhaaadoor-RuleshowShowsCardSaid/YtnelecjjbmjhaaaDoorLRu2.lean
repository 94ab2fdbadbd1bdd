/- The walk of the law RuleshowShows. -/
import Derived.Test.YtnelecjjbmjhaaaDoorLRu
import Derived.Test.YtnelecjjbmjhaaaDoorWRfF
import Derived.Test.YtnelecjjbmjhaaaDoorWRfH
namespace Go.Proofs.YtnelecjjbmjhaaaDoor
open Go.RowKit
set_option linter.unusedSimpArgs false
set_option linter.unusedVariables false

theorem faultR_all {r : RuV} (h : chkR r = 0) : ∀ j, j < 7 → faultR r j = 0 := by
  intro j
  induction j using Nat.strongRecOn with
  | _ j ih =>
    intro hj
    false_or_by_contra
    rename_i h1
    have := chkR_at hj (fun i hi => ih i hi (by omega)) h1
    rw [h] at this
    exact h1 this.symm
theorem headE_zero {r : RuV} (h : headE r = 0) : inC r.st = true ∧ (0 ≤ r.fr ∧ r.fr ≤ 6) ∧ (r.un ≠ -1 → inC r.un = true) := by
  unfold headE at h
  by_cases h4 : inC r.st = false ∨ unT r.fr = [] ∨ r.iv < 1 ∨ 1000000000000000 < r.iv ∨ r.ct < 0 ∨ 1000000000000000 < r.ct
  · rw [if_pos h4] at h; cases h
  · rw [if_neg h4] at h
    by_cases h5 : r.un ≠ -1 ∧ inC r.un = false
    · rw [if_pos h5] at h; cases h
    · refine ⟨?_, ?_, ?_⟩
      · have : ¬ inC r.st = false := fun e => h4 (.inl e)
        simpa using this
      · have : ¬ unT r.fr = [] := fun e => h4 (.inr (.inl e))
        rw [unT_ne, Decidable.not_not] at this
        omega
      · intro hu
        have : ¬ inC r.un = false := fun e => h5 ⟨hu, e⟩
        simpa using this
/-- A weekday's cells in a block. -/
def NthAt (w : World) (B : Nat) (x d : Int) : Prop := w.cell? ⟨B, 0, none⟩ = some (.int .i64 x) ∧ w.cell? ⟨B, 1, none⟩ = some (.int .i64 d)
theorem NthAt.below {w w' : World} {B : Nat} {x d : Int} (h : NthAt w B x d) (hb : Below w.heap.size w w') : NthAt w' B x d := by
  have hl := World.block_lt_of_cell? w _ h.1
  exact ⟨(hb.cell (p := ⟨B, 0, none⟩) hl).trans h.1, (hb.cell (p := ⟨B, 1, none⟩) hl).trans h.2⟩
theorem nthAt_new2 (w : World) (o : Obj) (x d : Int) (t : TypeId) : NthAt ((w.alloc o).alloc (.cells #[.int .i64 x, .int .i64 d] t)) (w.heap.size + 1) x d := by
  have e : (w.alloc o).heap.size = w.heap.size + 1 := by simp
  rw [← e]
  exact ⟨cell_new rfl rfl, cell_new rfl rfl⟩
theorem below_two {w w1 : World} {o o' : Obj} (h : Below ((w.alloc o).alloc o').heap.size ((w.alloc o).alloc o') w1) : Below w.heap.size w w1 :=
  (((Below.refl _ w).alloc (Nat.le_refl _) o).alloc (by simp) o').trans (h.mono (by simp; omega))
set_option maxRecDepth 20000 in
set_option maxHeartbeats 8000000 in
theorem ruleshowShows_any (r : RuV) (x : Int × Int) (A : Nat → Option Addr) (n c : Nat → Nat) (w : World) (hA : RdRu w A n r) (hx : In64 x.1) (hn : ∀ k, n k ≤ 140737488355328) (hout : ∀ k, (k < 5 ∨ 10 < k) → n k = 0) (hwf : RuWf r) (hw : Pow w) :
    Calls Tryd.prog 4 #[ruV r A n c, .agg #[.int .i64 x.1, .int .i64 x.2]] w (Ret (.bool true) w) := by
  have HV := Lib.hid (fun W (hb : Below w.heap.size w W) => lives34_any W (tab_below hw hb))
  have HG := Lib.hid (fun W => rgreat_any r A n c W hn)
  have HE := Lib.hid (ruAt_new w r A n c 36)
  have HD := Lib.hid (fun W (hb : Below w.heap.size w W) => weekday_any x hx W (tab_below hw hb))
  have HDR := Lib.hid (fun W => weekday34_any x hx W)
  clear hx
  obtain ⟨x, d⟩ := x
  dsimp only at HD HDR ⊢
  generalize strB (nthT (x, d)) = TD at *
  cases hg : rgreat n with
  | true =>
    rw [hg] at HG
    clear hA hn hwf hw hg hout
    unfold ruV at *
    go_enter Tryd.func4, Tryd.ntmps4
    go_wp2_with fail
    refine (HG.out _).mono ?_
    rintro e w1 ⟨rfl, hb1⟩
    have hb2 : Below w.heap.size w w1 := below_two (by simpa using hb1)
    go_wp2_with fail
    refine (HV.out _ hb2).mono ?_
    rintro e w2 ⟨rfl, hb3⟩
    go_wp2
    go_ret
    exact ⟨rfl, bthen hb2 hb3 hb2.size⟩
  | false =>
    rw [hg] at HG
    have hn2 : ∀ k, n k ≤ 1000 := fun k => by
      by_cases h : k < 5 ∨ 10 < k
      · rw [hout k h]; omega
      · have := rgreat_le hg k (by omega) (by omega); omega
    have hn3 : ∀ k, n k ≤ 1000000 := fun k => by have := hn2 k; omega
    have HK := Lib.hid (fun W (hb : Below w.heap.size w W) => check32_any (c := c) (hA.below hb) hn3)
    clear hg hn hout
    by_cases hc : chkR r = 0
    · obtain ⟨hst, hfr, hun⟩ := headE_zero (faultR_all hc 0 (by decide))
      have HS := Lib.hid (fun W (hb : Below w.heap.size w W) => rshow_ok (c := c) (hA.below hb) hn2 hwf (tab_below hw hb) hc)
      have HR := Lib.hid (fun W (hb : Below w.heap.size w W) => rshow34_ok (c := c) (hA.below hb) hn2 hwf hst hun hfr)
      rw [hc] at HK
      clear hA hn2 hn3 hwf hw hc hst hfr hun
      generalize strB (ruT r) = S at *
      unfold ruV at *
      go_enter Tryd.func4, Tryd.ntmps4
      go_wp2_with fail
      refine (HG.out _).mono ?_
      rintro e w1 ⟨rfl, hb1⟩
      have hb2 : Below w.heap.size w w1 := below_two (by simpa using hb1)
      have HE1 := Lib.hid ((HE.out.below ((Below.refl _ _).alloc (Nat.le_refl _) (.cells #[.int .i64 x, .int .i64 d] 38))).below (by simpa using hb1))
      have HN1 := Lib.hid ((nthAt_new2 w _ x d 38).below (by simpa using hb1))
      clear HE hb1 HG
      obtain ⟨x0, x1, x2, x3, x4, x5, x6, x7, x8, x9, x10⟩ := HE1.out
      go_wp2_with fail
      refine (HS.out _ hb2).mono ?_
      rintro e w2 ⟨rfl, hb3⟩
      have hb4 := bthen hb2 hb3 hb2.size
      have HE2 := Lib.hid (HE1.out.below hb3)
      have HN2 := Lib.hid (HN1.out.below hb3)
      clear x0 x1 x2 x3 x4 x5 x6 x7 x8 x9 x10 hb3 HE1 HN1 HS
      obtain ⟨n0, n1⟩ := HN2.out
      have g0 : ∀ y : Ext w2, y.W.cell? ⟨w.heap.size + 1, 0, none⟩ = some (.int .i64 x) := fun y => y.cell n0
      have g1 : ∀ y : Ext w2, y.W.cell? ⟨w.heap.size + 1, 1, none⟩ = some (.int .i64 d) := fun y => y.cell n1
      go_wp2_with fail
      refine wp_region_grew (by kernel_rfl) (by kernel_rfl) ?_
      repeat (first | go_big_quiet_skip | (go_big_quiet_want; go_big_quiet_op; (first | go_big_quiet_on | go_big_quiet_call ((with_reducible first | exact ext_call _ (HD.out _ (bthen hb4 (Ext.h _) hb4.size)) | exact ext_call _ (HDR.out _))))))
      refine wpQuiet_nil ?_
      rintro _ ⟨xw, rfl⟩
      clear g0 g1 n0 n1 HN2
      have hb8 := bthen hb4 xw.h hb4.size
      have HE4 := Lib.hid (HE2.out.below xw.h)
      clear HE2
      obtain ⟨x0, x1, x2, x3, x4, x5, x6, x7, x8, x9, x10⟩ := HE4.out
      go_wp2_with fail
      refine (HK.out _ hb8).mono ?_
      rintro e w5 ⟨rfl, hb9⟩
      have hb10 := bthen hb8 hb9 hb8.size
      have HE5 := Lib.hid (HE4.out.below hb9)
      clear x0 x1 x2 x3 x4 x5 x6 x7 x8 x9 x10 hb9 HE4
      obtain ⟨x0, x1, x2, x3, x4, x5, x6, x7, x8, x9, x10⟩ := HE5.out
      go_wp2_with fail
      refine (HR.out _ hb10).mono ?_
      rintro e w6 ⟨rfl, hb11⟩
      have hb12 := bthen hb10 hb11 hb10.size
      clear x0 x1 x2 x3 x4 x5 x6 x7 x8 x9 x10
      go_wp2_with fail
      refine (HV.out _ hb12).mono ?_
      rintro e w7 ⟨rfl, hb13⟩
      go_wp2
      go_ret
      exact ⟨rfl, bthen hb12 hb13 hb12.size⟩
    · have HS := Lib.hid (fun W (hb : Below w.heap.size w W) => rshow_bad (c := c) (hA.below hb) hn3 hc)
      generalize chkR r = q at *
      have hc' : (q != 0) = true := by simpa using hc
      clear hA hn2 hn3 hwf hw hc
      unfold ruV at *
      go_enter Tryd.func4, Tryd.ntmps4
      go_wp2_with fail
      refine (HG.out _).mono ?_
      rintro e w1 ⟨rfl, hb1⟩
      have hb2 : Below w.heap.size w w1 := below_two (by simpa using hb1)
      have HE1 := Lib.hid ((HE.out.below ((Below.refl _ _).alloc (Nat.le_refl _) (.cells #[.int .i64 x, .int .i64 d] 38))).below (by simpa using hb1))
      have HN1 := Lib.hid ((nthAt_new2 w _ x d 38).below (by simpa using hb1))
      clear HE hb1 HG
      obtain ⟨x0, x1, x2, x3, x4, x5, x6, x7, x8, x9, x10⟩ := HE1.out
      go_wp2_with fail
      refine (HS.out _ hb2).mono ?_
      rintro e w2 ⟨rfl, hb3⟩
      have hb4 := bthen hb2 hb3 hb2.size
      have HE2 := Lib.hid (HE1.out.below hb3)
      have HN2 := Lib.hid (HN1.out.below hb3)
      clear x0 x1 x2 x3 x4 x5 x6 x7 x8 x9 x10 hb3 HE1 HN1 HS
      obtain ⟨n0, n1⟩ := HN2.out
      have g0 : ∀ y : Ext w2, y.W.cell? ⟨w.heap.size + 1, 0, none⟩ = some (.int .i64 x) := fun y => y.cell n0
      have g1 : ∀ y : Ext w2, y.W.cell? ⟨w.heap.size + 1, 1, none⟩ = some (.int .i64 d) := fun y => y.cell n1
      go_wp2_with fail
      refine wp_region_grew (by kernel_rfl) (by kernel_rfl) ?_
      repeat (first | go_big_quiet_skip | (go_big_quiet_want; go_big_quiet_op; (first | go_big_quiet_on | go_big_quiet_call ((with_reducible first | exact ext_call _ (HD.out _ (bthen hb4 (Ext.h _) hb4.size)) | exact ext_call _ (HDR.out _))))))
      refine wpQuiet_nil ?_
      rintro _ ⟨xw, rfl⟩
      clear g0 g1 n0 n1 HN2
      have hb8 := bthen hb4 xw.h hb4.size
      have HE4 := Lib.hid (HE2.out.below xw.h)
      clear HE2
      obtain ⟨x0, x1, x2, x3, x4, x5, x6, x7, x8, x9, x10⟩ := HE4.out
      go_wp2_with fail
      refine (HK.out _ hb8).mono ?_
      rintro e w5 ⟨rfl, hb9⟩
      have hb10 := bthen hb8 hb9 hb8.size
      have HE5 := Lib.hid (HE4.out.below hb9)
      clear x0 x1 x2 x3 x4 x5 x6 x7 x8 x9 x10 hb9 HE4
      obtain ⟨x0, x1, x2, x3, x4, x5, x6, x7, x8, x9, x10⟩ := HE5.out
      go_wp2_with fail
      refine (HV.out _ hb10).mono ?_
      rintro e w6 ⟨rfl, hb11⟩
      go_wp2
      go_ret
      exact ⟨rfl, bthen hb10 hb11 hb10.size⟩
end Go.Proofs.YtnelecjjbmjhaaaDoor
