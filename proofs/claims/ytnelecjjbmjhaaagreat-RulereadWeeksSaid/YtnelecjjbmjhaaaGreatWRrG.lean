/- The walk of package ruleread's reader's parts: the map is made. -/
import Derived.Test.YtnelecjjbmjhaaaGreatWRrF
namespace Go.Proofs.YtnelecjjbmjhaaaGreat
open Go.RowKit
set_option linter.unusedSimpArgs false
set_option linter.unusedVariables false

set_option maxRecDepth 20000 in
set_option maxHeartbeats 4000000 in
theorem parts_rr (b R : Nat) (s : ByteArray) (w : World) : Calls Tryz.prog 16 #[kV b s, .pointer (some ⟨R, 0, none⟩)] w (RetPMap b R s w) := by
  have hmm := @run_makeMap Tryz.prog
  obtain ⟨w0, hw0⟩ : ∃ x, x = ((w.alloc (.cells #[.pointer (some ⟨b, 0, none⟩), .string s] 38)).alloc (.cells #[.pointer (some ⟨R, 0, none⟩)] 47)).alloc (.map #[] 0) := ⟨_, rfl⟩
  have e1 : (w.alloc (.cells #[.pointer (some ⟨b, 0, none⟩), .string s] 38)).heap.size = w.heap.size + 1 := by simp
  have e2 : ((w.alloc (.cells #[.pointer (some ⟨b, 0, none⟩), .string s] 38)).alloc (.cells #[.pointer (some ⟨R, 0, none⟩)] 47)).heap.size = w.heap.size + 1 + 1 := by simp
  have m0 : MapAt w0 (w.heap.size + 1 + 1) 0 (fun _ => none) := by
    rw [hw0, ← e2]
    exact mapAt_made _
  have k0 : KBox w0 w.heap.size b s := by
    rw [hw0]
    exact ((kbox_new w b s _).alloc _).alloc _
  have p0 : w0.cell? ⟨w.heap.size + 1, 0, none⟩ = some (.pointer (some ⟨R, 0, none⟩)) := by
    rw [hw0, ← e1]
    exact cell_old (cell_new rfl rfl)
  have b0 : Below w.heap.size w w0 := by
    rw [hw0]
    exact (((Below.refl _ w).alloc (Nat.le_refl _) _).alloc (by simp) _).alloc (by simp; omega) _
  obtain ⟨w1, r1, m1, c1⟩ := m0.store (t := 45) (e := 1) Tryz.underlying45 (by decide) (x := ⟨#[70, 82, 69, 81]⟩) (by decide) (clV w.heap.size (w.heap.size + 1) b s 0)
  have k1 := k0.grown c1 (by simp; omega)
  have p1 := c1.cell (show w.heap.size + 1 ≠ w.heap.size + 1 + 1 by omega) p0
  have b1 := Chg.below b0 c1 (by omega) b0.size
  obtain ⟨w2, r2, m2, c2⟩ := m1.store (t := 45) (e := 1) Tryz.underlying45 (by decide) (x := ⟨#[73, 78, 84, 69, 82, 86, 65, 76]⟩) (by decide) (clV w.heap.size (w.heap.size + 1) b s 1)
  have k2 := k1.grown c2 (by simp; omega)
  have p2 := c2.cell (show w.heap.size + 1 ≠ w.heap.size + 1 + 1 by omega) p1
  have b2 := Chg.below b1 c2 (by omega) b1.size
  obtain ⟨w3, r3, m3, c3⟩ := m2.store (t := 45) (e := 1) Tryz.underlying45 (by decide) (x := ⟨#[67, 79, 85, 78, 84]⟩) (by decide) (clV w.heap.size (w.heap.size + 1) b s 2)
  have k3 := k2.grown c3 (by simp; omega)
  have p3 := c3.cell (show w.heap.size + 1 ≠ w.heap.size + 1 + 1 by omega) p2
  have b3 := Chg.below b2 c3 (by omega) b2.size
  obtain ⟨w4, r4, m4, c4⟩ := m3.store (t := 45) (e := 1) Tryz.underlying45 (by decide) (x := ⟨#[85, 78, 84, 73, 76]⟩) (by decide) (clV w.heap.size (w.heap.size + 1) b s 3)
  have k4 := k3.grown c4 (by simp; omega)
  have p4 := c4.cell (show w.heap.size + 1 ≠ w.heap.size + 1 + 1 by omega) p3
  have b4 := Chg.below b3 c4 (by omega) b3.size
  obtain ⟨w5, r5, m5, c5⟩ := m4.store (t := 45) (e := 1) Tryz.underlying45 (by decide) (x := ⟨#[66, 89, 77, 79, 78, 84, 72]⟩) (by decide) (clV w.heap.size (w.heap.size + 1) b s 4)
  have k5 := k4.grown c5 (by simp; omega)
  have p5 := c5.cell (show w.heap.size + 1 ≠ w.heap.size + 1 + 1 by omega) p4
  have b5 := Chg.below b4 c5 (by omega) b4.size
  obtain ⟨w6, r6, m6, c6⟩ := m5.store (t := 45) (e := 1) Tryz.underlying45 (by decide) (x := ⟨#[66, 89, 77, 79, 78, 84, 72, 68, 65, 89]⟩) (by decide) (clV w.heap.size (w.heap.size + 1) b s 5)
  have k6 := k5.grown c6 (by simp; omega)
  have p6 := c6.cell (show w.heap.size + 1 ≠ w.heap.size + 1 + 1 by omega) p5
  have b6 := Chg.below b5 c6 (by omega) b5.size
  obtain ⟨w7, r7, m7, c7⟩ := m6.store (t := 45) (e := 1) Tryz.underlying45 (by decide) (x := ⟨#[66, 89, 68, 65, 89]⟩) (by decide) (clV w.heap.size (w.heap.size + 1) b s 6)
  have k7 := k6.grown c7 (by simp; omega)
  have p7 := c7.cell (show w.heap.size + 1 ≠ w.heap.size + 1 + 1 by omega) p6
  have b7 := Chg.below b6 c7 (by omega) b6.size
  obtain ⟨w8, r8, m8, c8⟩ := m7.store (t := 45) (e := 1) Tryz.underlying45 (by decide) (x := ⟨#[66, 89, 72, 79, 85, 82]⟩) (by decide) (clV w.heap.size (w.heap.size + 1) b s 7)
  have k8 := k7.grown c8 (by simp; omega)
  have p8 := c8.cell (show w.heap.size + 1 ≠ w.heap.size + 1 + 1 by omega) p7
  have b8 := Chg.below b7 c8 (by omega) b7.size
  obtain ⟨w9, r9, m9, c9⟩ := m8.store (t := 45) (e := 1) Tryz.underlying45 (by decide) (x := ⟨#[66, 89, 77, 73, 78, 85, 84, 69]⟩) (by decide) (clV w.heap.size (w.heap.size + 1) b s 8)
  have k9 := k8.grown c9 (by simp; omega)
  have p9 := c9.cell (show w.heap.size + 1 ≠ w.heap.size + 1 + 1 by omega) p8
  have b9 := Chg.below b8 c9 (by omega) b8.size
  obtain ⟨w10, r10, m10, c10⟩ := m9.store (t := 45) (e := 1) Tryz.underlying45 (by decide) (x := ⟨#[66, 89, 83, 69, 67, 79, 78, 68]⟩) (by decide) (clV w.heap.size (w.heap.size + 1) b s 9)
  have k10 := k9.grown c10 (by simp; omega)
  have p10 := c10.cell (show w.heap.size + 1 ≠ w.heap.size + 1 + 1 by omega) p9
  have b10 := Chg.below b9 c10 (by omega) b9.size
  obtain ⟨w11, r11, m11, c11⟩ := m10.store (t := 45) (e := 1) Tryz.underlying45 (by decide) (x := ⟨#[87, 75, 83, 84]⟩) (by decide) (clV w.heap.size (w.heap.size + 1) b s 10)
  have k11 := k10.grown c11 (by simp; omega)
  have p11 := c11.cell (show w.heap.size + 1 ≠ w.heap.size + 1 + 1 by omega) p10
  have b11 := Chg.below b10 c11 (by omega) b10.size
  change (Instr.mapUpdate 45 (.map (some (w.heap.size + 1 + 1))) _ (.func (.func 31) #[] #[.pointer (some ⟨w.heap.size, 0, none⟩), .pointer (some ⟨w.heap.size + 1, 0, none⟩)])).run Tryz.prog w0 = _ at r1
  change (Instr.mapUpdate 45 (.map (some (w.heap.size + 1 + 1))) _ (.func (.func 34) #[] #[.pointer (some ⟨w.heap.size, 0, none⟩), .pointer (some ⟨w.heap.size + 1, 0, none⟩)])).run Tryz.prog w1 = _ at r2
  change (Instr.mapUpdate 45 (.map (some (w.heap.size + 1 + 1))) _ (.func (.func 36) #[] #[.pointer (some ⟨w.heap.size, 0, none⟩), .pointer (some ⟨w.heap.size + 1, 0, none⟩)])).run Tryz.prog w2 = _ at r3
  change (Instr.mapUpdate 45 (.map (some (w.heap.size + 1 + 1))) _ (.func (.func 37) #[] #[.pointer (some ⟨w.heap.size, 0, none⟩), .pointer (some ⟨w.heap.size + 1, 0, none⟩)])).run Tryz.prog w3 = _ at r4
  change (Instr.mapUpdate 45 (.map (some (w.heap.size + 1 + 1))) _ (.func (.func 38) #[] #[.pointer (some ⟨w.heap.size, 0, none⟩), .pointer (some ⟨w.heap.size + 1, 0, none⟩)])).run Tryz.prog w4 = _ at r5
  change (Instr.mapUpdate 45 (.map (some (w.heap.size + 1 + 1))) _ (.func (.func 40) #[] #[.pointer (some ⟨w.heap.size, 0, none⟩), .pointer (some ⟨w.heap.size + 1, 0, none⟩)])).run Tryz.prog w5 = _ at r6
  change (Instr.mapUpdate 45 (.map (some (w.heap.size + 1 + 1))) _ (.func (.func 44) #[] #[.pointer (some ⟨w.heap.size, 0, none⟩), .pointer (some ⟨w.heap.size + 1, 0, none⟩)])).run Tryz.prog w6 = _ at r7
  change (Instr.mapUpdate 45 (.map (some (w.heap.size + 1 + 1))) _ (.func (.func 47) #[] #[.pointer (some ⟨w.heap.size, 0, none⟩), .pointer (some ⟨w.heap.size + 1, 0, none⟩)])).run Tryz.prog w7 = _ at r8
  change (Instr.mapUpdate 45 (.map (some (w.heap.size + 1 + 1))) _ (.func (.func 48) #[] #[.pointer (some ⟨w.heap.size, 0, none⟩), .pointer (some ⟨w.heap.size + 1, 0, none⟩)])).run Tryz.prog w8 = _ at r9
  change (Instr.mapUpdate 45 (.map (some (w.heap.size + 1 + 1))) _ (.func (.func 49) #[] #[.pointer (some ⟨w.heap.size, 0, none⟩), .pointer (some ⟨w.heap.size + 1, 0, none⟩)])).run Tryz.prog w9 = _ at r10
  change (Instr.mapUpdate 45 (.map (some (w.heap.size + 1 + 1))) _ (.func (.func 50) #[kV b s] #[])).run Tryz.prog w10 = _ at r11
  have kc0 := k10.1
  have kc1 := k10.2
  have hz : w.heap.size < w10.heap.size := World.block_lt_of_cell? _ _ kc0
  have HM : Hid (MapAt w11 (w.heap.size + 1 + 1) 11 (parF w.heap.size (w.heap.size + 1) b s)) := by
    show MapAt _ _ _ _
    rw [← part_eq]
    exact m11
  have HK := Lib.hid k11
  have HP := Lib.hid p11
  have HB := Lib.hid b11
  clear m0 m1 m2 m3 m4 m5 m6 m7 m8 m9 m10 m11 c1 c2 c3 c4 c5 c6 c7 c8 c9 c10 c11 k0 k1 k2 k3 k4 k5 k6 k7 k8 k9 k10 k11 p0 p1 p2 p3 p4 p5 p6 p7 p8 p9 p10 p11 b0 b1 b2 b3 b4 b5 b6 b7 b8 b9 b10 b11 e1 e2
  subst hw0
  go_enter Tryz.func16, Tryz.ntmps16
  go_wp2
  go_ret
  exact ⟨w.heap.size + 1 + 1, w.heap.size, w.heap.size + 1, rfl, HK.out, HP.out, HM.out, Nat.le_refl _, by omega, by omega, HB.out⟩
end Go.Proofs.YtnelecjjbmjhaaaGreat
