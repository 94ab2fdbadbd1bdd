/- The walk of package calread's filled. -/
import Derived.Test.YthkleinjddkhoaaWCalO
namespace Go.Proofs.Ythkleinjddkhoaa
open Go.RowKit
set_option linter.unusedSimpArgs false
set_option linter.unusedVariables false

set_option maxRecDepth 20000 in
set_option maxHeartbeats 4000000 in
theorem filled_any (g : Nat → Value) (c : CalV) (w : World) (D : Nat) (hD : D < w.heap.size) (h : CalRd w D g c) : Calls Try.prog 13 #[calV g] w (RetCal (kfill c) D w) := by
  have HF0 := Lib.hid (calF_new w g c h 25)
  have heql := fun W A n m => Lib.run_eql_slice_nil (P := Try.prog) W 23 34 A n m 0 0 Try.underlying23
  unfold calV
  clear h
  go_enter Try.func13, Try.ntmps13
  go_wp2
  go_loopw [29] (fun i wr => ∃ k : Nat, k ≤ 6 ∧ i = .int .i64 k ∧ Hid (Fill w wr D (fillK k c))) (fun i _ => 6 - (intOf i).toNat)
  case atStart =>
    refine ⟨0, by omega, rfl, ?_⟩
    show Fill _ _ _ _
    refine ⟨(((HF0.out.alloc _).alloc _).alloc _).alloc _, ?_, ?_, ?_⟩
    · have z := calZ_new (w.alloc (.cells #[g 0, g 1, g 2, g 3, g 4, g 5, g 6, g 7] 25)) 25
      have z2 := (((z.alloc (z.lt (by decide)) (.cells #[.int .i64 0, .int .i64 0, .int .i64 0, .int .i64 1] 34)).alloc (by have := z.lt (by decide); simp at this ⊢ <;> omega) (.cells #[.int .i64 1, .int .i64 0, .int .i64 0, .int .i64 0] 34)).alloc (by have := z.lt (by decide); simp at this ⊢ <;> omega) (.cells #[.pointer (some ⟨w.heap.size, 1, none⟩), .int .i64 0, .int .i64 0, .int .i64 0, .int .i64 1, .pointer (some ⟨w.heap.size, 2, none⟩), .int .i64 0, .int .i64 0, .int .i64 0, .int .i64 1, .pointer (some ⟨w.heap.size, 3, none⟩), .int .i64 0, .int .i64 0, .int .i64 0, .int .i64 1, .pointer (some ⟨w.heap.size, 5, none⟩), .int .i64 1, .int .i64 0, .int .i64 0, .int .i64 0, .pointer (some ⟨w.heap.size, 6, none⟩), .int .i64 1, .int .i64 0, .int .i64 0, .int .i64 0, .pointer (some ⟨w.heap.size, 7, none⟩), .int .i64 1, .int .i64 0, .int .i64 0, .int .i64 0] 60))
      simpa using z2
    · have z := fillRow_new ((((w.alloc (.cells #[g 0, g 1, g 2, g 3, g 4, g 5, g 6, g 7] 25)).alloc (.cells #[.slice none 0 0, .slice none 0 0, .slice none 0 0, .slice none 0 0, .bool false, .slice none 0 0, .slice none 0 0, .slice none 0 0] 25)).alloc (.cells #[.int .i64 0, .int .i64 0, .int .i64 0, .int .i64 1] 34)).alloc (.cells #[.int .i64 1, .int .i64 0, .int .i64 0, .int .i64 0] 34)) w.heap.size 60
      simpa using z
    · exact (((((Below.refl _ w).alloc (Nat.le_refl _) _).alloc (by simp) _).alloc (by simp; omega) _).alloc (by simp; omega) _).alloc (by simp; omega) _
  case round =>
    obtain ⟨k, hk, rfl, HF⟩ := hrel
    by_cases hlt : k < 6
    · have hsz := HF.out.size
      have hz0 : w.heap.size < wr.heap.size := by omega
      have hzD : D < wr.heap.size := by omega
      have hrf := HF.out.row.2
      have hcf : ∀ j, wr.frozen? ⟨w.heap.size, j, none⟩ = false := HF.out.cal.frz
      obtain rfl | rfl | rfl | rfl | rfl | rfl : k = 0 ∨ k = 1 ∨ k = 2 ∨ k = 3 ∨ k = 4 ∨ k = 5 := by omega
      · have r0 : wr.cell? ⟨w.heap.size + 4, 0, none⟩ = some (.pointer (some ⟨w.heap.size, 1, none⟩)) := HF.out.row.1 0 (by decide)
        have r1 : wr.cell? ⟨w.heap.size + 4, 1, none⟩ = some (.int .i64 0) := HF.out.row.1 1 (by decide)
        have r2 : wr.cell? ⟨w.heap.size + 4, 2, none⟩ = some (.int .i64 0) := HF.out.row.1 2 (by decide)
        have r3 : wr.cell? ⟨w.heap.size + 4, 3, none⟩ = some (.int .i64 0) := HF.out.row.1 3 (by decide)
        have r4 : wr.cell? ⟨w.heap.size + 4, 4, none⟩ = some (.int .i64 1) := HF.out.row.1 4 (by decide)
        rcases HF.out.cal.at_ 1 (by decide) (by decide) with ⟨hl, hc⟩ | ⟨hl, p, n, m, hc⟩
        · obtain ⟨hn1, hn2⟩ := fill_new (k := 0) (c := c) (by decide) ((fill_at (k := 0) (c := c) (by decide)).symm.trans hl)
          have HN1 := Lib.hid hn1
          have HN2 := Lib.hid hn2
          clear hl hn1 hn2
          go_wp2
          go_roundw
          case rel =>
            refine ⟨1, by decide, rfl, ?_⟩
            show Fill _ _ _ _
            refine HF.out.setA _ _ 1 (by decide) (by decide) _ ?_ HN2.out rfl
            rw [show calL (fillK 1 c) 1 = _ from HN1.out]
            exact fl_new2 _ (by omega) (by omega) ⟨0, 0, 0, 1⟩
          case measure => simp [intOf]
        · have HS := Lib.hid (fill_same (k := 0) (c := c) (by decide) (fun e => hl ((fill_at (k := 0) (c := c) (by decide)).trans e)))
          clear hl
          go_wp2
          go_roundw
          case rel => exact ⟨1, by decide, rfl, by rw [show fillK 1 c = _ from HS.out]; exact HF.out.alloc _⟩
          case measure => simp [intOf]
      · have r0 : wr.cell? ⟨w.heap.size + 4, 5, none⟩ = some (.pointer (some ⟨w.heap.size, 2, none⟩)) := HF.out.row.1 5 (by decide)
        have r1 : wr.cell? ⟨w.heap.size + 4, 6, none⟩ = some (.int .i64 0) := HF.out.row.1 6 (by decide)
        have r2 : wr.cell? ⟨w.heap.size + 4, 7, none⟩ = some (.int .i64 0) := HF.out.row.1 7 (by decide)
        have r3 : wr.cell? ⟨w.heap.size + 4, 8, none⟩ = some (.int .i64 0) := HF.out.row.1 8 (by decide)
        have r4 : wr.cell? ⟨w.heap.size + 4, 9, none⟩ = some (.int .i64 1) := HF.out.row.1 9 (by decide)
        rcases HF.out.cal.at_ 2 (by decide) (by decide) with ⟨hl, hc⟩ | ⟨hl, p, n, m, hc⟩
        · obtain ⟨hn1, hn2⟩ := fill_new (k := 1) (c := c) (by decide) ((fill_at (k := 1) (c := c) (by decide)).symm.trans hl)
          have HN1 := Lib.hid hn1
          have HN2 := Lib.hid hn2
          clear hl hn1 hn2
          go_wp2
          go_roundw
          case rel =>
            refine ⟨2, by decide, rfl, ?_⟩
            show Fill _ _ _ _
            refine HF.out.setA _ _ 2 (by decide) (by decide) _ ?_ HN2.out rfl
            rw [show calL (fillK 2 c) 2 = _ from HN1.out]
            exact fl_new2 _ (by omega) (by omega) ⟨0, 0, 0, 1⟩
          case measure => simp [intOf]
        · have HS := Lib.hid (fill_same (k := 1) (c := c) (by decide) (fun e => hl ((fill_at (k := 1) (c := c) (by decide)).trans e)))
          clear hl
          go_wp2
          go_roundw
          case rel => exact ⟨2, by decide, rfl, by rw [show fillK 2 c = _ from HS.out]; exact HF.out.alloc _⟩
          case measure => simp [intOf]
      · have r0 : wr.cell? ⟨w.heap.size + 4, 10, none⟩ = some (.pointer (some ⟨w.heap.size, 3, none⟩)) := HF.out.row.1 10 (by decide)
        have r1 : wr.cell? ⟨w.heap.size + 4, 11, none⟩ = some (.int .i64 0) := HF.out.row.1 11 (by decide)
        have r2 : wr.cell? ⟨w.heap.size + 4, 12, none⟩ = some (.int .i64 0) := HF.out.row.1 12 (by decide)
        have r3 : wr.cell? ⟨w.heap.size + 4, 13, none⟩ = some (.int .i64 0) := HF.out.row.1 13 (by decide)
        have r4 : wr.cell? ⟨w.heap.size + 4, 14, none⟩ = some (.int .i64 1) := HF.out.row.1 14 (by decide)
        rcases HF.out.cal.at_ 3 (by decide) (by decide) with ⟨hl, hc⟩ | ⟨hl, p, n, m, hc⟩
        · obtain ⟨hn1, hn2⟩ := fill_new (k := 2) (c := c) (by decide) ((fill_at (k := 2) (c := c) (by decide)).symm.trans hl)
          have HN1 := Lib.hid hn1
          have HN2 := Lib.hid hn2
          clear hl hn1 hn2
          go_wp2
          go_roundw
          case rel =>
            refine ⟨3, by decide, rfl, ?_⟩
            show Fill _ _ _ _
            refine HF.out.setA _ _ 3 (by decide) (by decide) _ ?_ HN2.out rfl
            rw [show calL (fillK 3 c) 3 = _ from HN1.out]
            exact fl_new2 _ (by omega) (by omega) ⟨0, 0, 0, 1⟩
          case measure => simp [intOf]
        · have HS := Lib.hid (fill_same (k := 2) (c := c) (by decide) (fun e => hl ((fill_at (k := 2) (c := c) (by decide)).trans e)))
          clear hl
          go_wp2
          go_roundw
          case rel => exact ⟨3, by decide, rfl, by rw [show fillK 3 c = _ from HS.out]; exact HF.out.alloc _⟩
          case measure => simp [intOf]
      · have r0 : wr.cell? ⟨w.heap.size + 4, 15, none⟩ = some (.pointer (some ⟨w.heap.size, 5, none⟩)) := HF.out.row.1 15 (by decide)
        have r1 : wr.cell? ⟨w.heap.size + 4, 16, none⟩ = some (.int .i64 1) := HF.out.row.1 16 (by decide)
        have r2 : wr.cell? ⟨w.heap.size + 4, 17, none⟩ = some (.int .i64 0) := HF.out.row.1 17 (by decide)
        have r3 : wr.cell? ⟨w.heap.size + 4, 18, none⟩ = some (.int .i64 0) := HF.out.row.1 18 (by decide)
        have r4 : wr.cell? ⟨w.heap.size + 4, 19, none⟩ = some (.int .i64 0) := HF.out.row.1 19 (by decide)
        rcases HF.out.cal.at_ 5 (by decide) (by decide) with ⟨hl, hc⟩ | ⟨hl, p, n, m, hc⟩
        · obtain ⟨hn1, hn2⟩ := fill_new (k := 3) (c := c) (by decide) ((fill_at (k := 3) (c := c) (by decide)).symm.trans hl)
          have HN1 := Lib.hid hn1
          have HN2 := Lib.hid hn2
          clear hl hn1 hn2
          go_wp2
          go_roundw
          case rel =>
            refine ⟨4, by decide, rfl, ?_⟩
            show Fill _ _ _ _
            refine HF.out.setA _ _ 5 (by decide) (by decide) _ ?_ HN2.out rfl
            rw [show calL (fillK 4 c) 5 = _ from HN1.out]
            exact fl_new2 _ (by omega) (by omega) ⟨1, 0, 0, 0⟩
          case measure => simp [intOf]
        · have HS := Lib.hid (fill_same (k := 3) (c := c) (by decide) (fun e => hl ((fill_at (k := 3) (c := c) (by decide)).trans e)))
          clear hl
          go_wp2
          go_roundw
          case rel => exact ⟨4, by decide, rfl, by rw [show fillK 4 c = _ from HS.out]; exact HF.out.alloc _⟩
          case measure => simp [intOf]
      · have r0 : wr.cell? ⟨w.heap.size + 4, 20, none⟩ = some (.pointer (some ⟨w.heap.size, 6, none⟩)) := HF.out.row.1 20 (by decide)
        have r1 : wr.cell? ⟨w.heap.size + 4, 21, none⟩ = some (.int .i64 1) := HF.out.row.1 21 (by decide)
        have r2 : wr.cell? ⟨w.heap.size + 4, 22, none⟩ = some (.int .i64 0) := HF.out.row.1 22 (by decide)
        have r3 : wr.cell? ⟨w.heap.size + 4, 23, none⟩ = some (.int .i64 0) := HF.out.row.1 23 (by decide)
        have r4 : wr.cell? ⟨w.heap.size + 4, 24, none⟩ = some (.int .i64 0) := HF.out.row.1 24 (by decide)
        rcases HF.out.cal.at_ 6 (by decide) (by decide) with ⟨hl, hc⟩ | ⟨hl, p, n, m, hc⟩
        · obtain ⟨hn1, hn2⟩ := fill_new (k := 4) (c := c) (by decide) ((fill_at (k := 4) (c := c) (by decide)).symm.trans hl)
          have HN1 := Lib.hid hn1
          have HN2 := Lib.hid hn2
          clear hl hn1 hn2
          go_wp2
          go_roundw
          case rel =>
            refine ⟨5, by decide, rfl, ?_⟩
            show Fill _ _ _ _
            refine HF.out.setA _ _ 6 (by decide) (by decide) _ ?_ HN2.out rfl
            rw [show calL (fillK 5 c) 6 = _ from HN1.out]
            exact fl_new2 _ (by omega) (by omega) ⟨1, 0, 0, 0⟩
          case measure => simp [intOf]
        · have HS := Lib.hid (fill_same (k := 4) (c := c) (by decide) (fun e => hl ((fill_at (k := 4) (c := c) (by decide)).trans e)))
          clear hl
          go_wp2
          go_roundw
          case rel => exact ⟨5, by decide, rfl, by rw [show fillK 5 c = _ from HS.out]; exact HF.out.alloc _⟩
          case measure => simp [intOf]
      · have r0 : wr.cell? ⟨w.heap.size + 4, 25, none⟩ = some (.pointer (some ⟨w.heap.size, 7, none⟩)) := HF.out.row.1 25 (by decide)
        have r1 : wr.cell? ⟨w.heap.size + 4, 26, none⟩ = some (.int .i64 1) := HF.out.row.1 26 (by decide)
        have r2 : wr.cell? ⟨w.heap.size + 4, 27, none⟩ = some (.int .i64 0) := HF.out.row.1 27 (by decide)
        have r3 : wr.cell? ⟨w.heap.size + 4, 28, none⟩ = some (.int .i64 0) := HF.out.row.1 28 (by decide)
        have r4 : wr.cell? ⟨w.heap.size + 4, 29, none⟩ = some (.int .i64 0) := HF.out.row.1 29 (by decide)
        rcases HF.out.cal.at_ 7 (by decide) (by decide) with ⟨hl, hc⟩ | ⟨hl, p, n, m, hc⟩
        · obtain ⟨hn1, hn2⟩ := fill_new (k := 5) (c := c) (by decide) ((fill_at (k := 5) (c := c) (by decide)).symm.trans hl)
          have HN1 := Lib.hid hn1
          have HN2 := Lib.hid hn2
          clear hl hn1 hn2
          go_wp2
          go_roundw
          case rel =>
            refine ⟨6, by decide, rfl, ?_⟩
            show Fill _ _ _ _
            refine HF.out.setA _ _ 7 (by decide) (by decide) _ ?_ HN2.out rfl
            rw [show calL (fillK 6 c) 7 = _ from HN1.out]
            exact fl_new2 _ (by omega) (by omega) ⟨1, 0, 0, 0⟩
          case measure => simp [intOf]
        · have HS := Lib.hid (fill_same (k := 5) (c := c) (by decide) (fun e => hl ((fill_at (k := 5) (c := c) (by decide)).trans e)))
          clear hl
          go_wp2
          go_roundw
          case rel => exact ⟨6, by decide, rfl, by rw [show fillK 6 c = _ from HS.out]; exact HF.out.alloc _⟩
          case measure => simp [intOf]
    · obtain rfl : k = 6 := by omega
      obtain ⟨A, n, m, hA, hL⟩ := HF.out.cal.cells
      have c0 : wr.cell? ⟨w.heap.size, 0, none⟩ = some (.slice (A 0) (n 0) (m 0)) := hA 0 (by decide)
      have c1 : wr.cell? ⟨w.heap.size, 1, none⟩ = some (.slice (A 1) (n 1) (m 1)) := hA 1 (by decide)
      have c2 : wr.cell? ⟨w.heap.size, 2, none⟩ = some (.slice (A 2) (n 2) (m 2)) := hA 2 (by decide)
      have c3 : wr.cell? ⟨w.heap.size, 3, none⟩ = some (.slice (A 3) (n 3) (m 3)) := hA 3 (by decide)
      have c4 : wr.cell? ⟨w.heap.size, 4, none⟩ = some (.bool (fillK 6 c).back) := hA 4 (by decide)
      have c5 : wr.cell? ⟨w.heap.size, 5, none⟩ = some (.slice (A 5) (n 5) (m 5)) := hA 5 (by decide)
      have c6 : wr.cell? ⟨w.heap.size, 6, none⟩ = some (.slice (A 6) (n 6) (m 6)) := hA 6 (by decide)
      have c7 : wr.cell? ⟨w.heap.size, 7, none⟩ = some (.slice (A 7) (n 7) (m 7)) := hA 7 (by decide)
      have z0 : wr.cell? ⟨w.heap.size + 1, 0, none⟩ = some (.slice none 0 0) := HF.out.res.1 0 (by decide)
      have z1 : wr.cell? ⟨w.heap.size + 1, 1, none⟩ = some (.slice none 0 0) := HF.out.res.1 1 (by decide)
      have z2 : wr.cell? ⟨w.heap.size + 1, 2, none⟩ = some (.slice none 0 0) := HF.out.res.1 2 (by decide)
      have z3 : wr.cell? ⟨w.heap.size + 1, 3, none⟩ = some (.slice none 0 0) := HF.out.res.1 3 (by decide)
      have z4 : wr.cell? ⟨w.heap.size + 1, 4, none⟩ = some (.bool false) := HF.out.res.1 4 (by decide)
      have z5 : wr.cell? ⟨w.heap.size + 1, 5, none⟩ = some (.slice none 0 0) := HF.out.res.1 5 (by decide)
      have z6 : wr.cell? ⟨w.heap.size + 1, 6, none⟩ = some (.slice none 0 0) := HF.out.res.1 6 (by decide)
      have z7 : wr.cell? ⟨w.heap.size + 1, 7, none⟩ = some (.slice none 0 0) := HF.out.res.1 7 (by decide)
      have hzf := HF.out.res.2
      have HL := Lib.hid hL
      clear hA hL
      go_wp2
      refine bodyPost_ret (v := .agg #[.slice (A 0) (n 0) (m 0), .slice (A 1) (n 1) (m 1), .slice (A 2) (n 2) (m 2), .slice (A 3) (n 3) (m 3), .bool (fillK 6 c).back, .slice (A 5) (n 5) (m 5), .slice (A 6) (n 6) (m 6), .slice (A 7) (n 7) (m 7)]) ?_ rfl ⟨fun j => if j = 4 then .bool (fillK 6 c).back else .slice (A j) (n j) (m j), rfl, ⟨rfl, fun j hj h4 => ?_⟩, ?_⟩
      · rw [results_cell1 rfl]
        go_simp
      · dsimp only
        rw [if_neg h4]
        exact (HL.out j hj h4).out
      · exact Below.set8 HF.out.below (by omega)
end Go.Proofs.Ythkleinjddkhoaa
