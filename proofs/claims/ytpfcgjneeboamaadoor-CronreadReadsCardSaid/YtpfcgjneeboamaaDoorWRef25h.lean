/- The walks of package feriaref25: item, a range. -/
import Derived.Test.YtpfcgjneeboamaaDoorWRef25g
namespace Go.Proofs.YtpfcgjneeboamaaDoor
open Go.RowKit
set_option linter.unusedSimpArgs false
set_option linter.unusedVariables false

section
variable (s : ByteArray) (hs : s.size ≤ 1000000) (σ : PS) (hσ : OfR s σ) (w : World)
include hs hσ
set_option maxHeartbeats 4000000 in
theorem ritem_low (f : Nat) (hf : f < 5) (hst : (isP [42] σ).2 = false) (hds : (isP [45] (rNumR s.size f σ).1).2 = true)
    (he : (rNumR s.size f (isP [45] (rNumR s.size f σ).1).1).1.e = 0) (hlo : (rNumR s.size f (isP [45] (rNumR s.size f σ).1).1).2 < (rNumR s.size f σ).2) : Calls Tryd.prog 35 #[rvP s σ, .int .i64 (f : Int)] w (Ret (tupR s (rItemR s.size f σ).1 (itV (rItemR s.size f σ).2)) w) := by
  have HI0 := Lib.hid (fun W b (h : W.cell? ⟨b, 0, none⟩ = some (.int .u8 ((42 : UInt8).toNat : Int))) => is_rf s hs σ hσ W _ 1 1 42 (rdBytes_one' W b 42 h))
  have HNu := Lib.hid (fun W => rnumber_any s hs σ hσ W f hf)
  have hN := ofR_rnum s σ hσ s.size f
  have HI1 := Lib.hid (fun W b (h : W.cell? ⟨b, 0, none⟩ = some (.int .u8 ((45 : UInt8).toNat : Int))) => is_rf s hs (rNumR s.size f σ).1 hN W _ 1 1 45 (rdBytes_one' W b 45 h))
  have hM := ofR_is hN [45]
  have HN2 := Lib.hid (fun W => rnumber_any s hs (isP [45] (rNumR s.size f σ).1).1 hM W f hf)
  have hY := ofR_rnum s (isP [45] (rNumR s.size f σ).1).1 hM s.size f
  have HI2 := Lib.hid (fun W b (h : W.cell? ⟨b, 0, none⟩ = some (.int .u8 ((47 : UInt8).toNat : Int))) => is_rf s hs (rNumR s.size f (isP [45] (rNumR s.size f σ).1).1).1 hY W _ 1 1 47 (rdBytes_one' W b 47 h))
  have hZ := ofR_is hY [47]
  have HSt := Lib.hid (fun W => rstep_any s hs (isP [47] (rNumR s.size f (isP [45] (rNumR s.size f σ).1).1).1).1 hZ W)
  have HF := Lib.hid (fun p q W => fail_rf s (isP [45] (rNumR s.size f σ).1).1 p q W)
  obtain ⟨k, hk, hl, ha⟩ := hσ.at_
  unfold rItemR
  rw [hst, if_neg (by simp)]
  unfold rFromR
  rw [hds, if_pos rfl]
  rw [hst, isP_false hst] at HI0
  rw [hds] at HI1
  obtain ⟨jM, hjM, hlM, haM⟩ := hM.at_
  have hX0 : atP s.size (failP (jM : Int) 4 (isP [45] (rNumR s.size f σ).1).1) = (jM : Int) := by rw [← haM]; unfold atP failP; split <;> rfl
  generalize (isP [45] (rNumR s.size f σ).1).1 = M at *
  generalize rNumR s.size f σ = X at *
  obtain ⟨X, n⟩ := X
  dsimp only at *
  unfold rToR
  rw [haM]
  rw [if_pos ⟨he, hlo⟩]
  have HF4 := Lib.hid (fun W => HF.out (jM : Int) 4 W)
  generalize failP (jM : Int) 4 M = F at *
  generalize rNumR s.size f M = Y at *
  obtain ⟨Y, m⟩ := Y
  dsimp only at *
  unfold tupR rvP rV itV at *
  rw [ha] at HI0 HNu ⊢
  rw [haM] at HI1 HN2
  generalize atP s.size X = jX at *
  rw [haM, hX0] at HF4
  rw [hX0]
  generalize atP s.size Y = jY at *
  clear hσ hN hM hY hZ hk hl ha hst hds HI2 HSt HF hjM hlM haM hX0
  have he' : (Y.e == 0) = true := by simpa using he
  clear he
  go_enter Tryd.func35, Tryd.ntmps35
  go_wp2_with fail
  generalize hW : World.alloc _ _ = W0
  obtain ⟨hb, hP, hQ, hI, hc, hz⟩ := ri_base s w k σ.a σ.e 42 50 50 34 5 hW
  clear hW
  refine (HI0.out W0 _ hc).mono ?_
  rintro e w1 ⟨rfl, hb1⟩
  have HP := Lib.hid (Arr.below hP (Arr.lt hP (by decide)) hb1)
  have HQ := Lib.hid (Arr.below hQ (Arr.lt hQ (by decide)) hb1)
  have HI := Lib.hid (Arr.below hI (Arr.lt hI (by decide)) hb1)
  have HB := Lib.hid (bthen hb hb1 hb.size)
  have hz1 : w.heap.size + 1 + 1 + 1 < w1.heap.size := Nat.lt_of_lt_of_le hz hb1.size
  clear hb hP hQ hI hc hz hb1 HI0
  obtain ⟨p0, p1, p2, p3, pf⟩ := RvAt.cells HP.out
  have zP := Arr.lt HP.out (by decide)
  go_wp2_with fail
  generalize hW : World.alloc _ _ = W2
  obtain ⟨hb, hX, hT, hz⟩ := ri_pair s w1 k σ.a σ.e ⟨1, 0, 0, 0⟩ 50 34 hW
  clear hW p0 p1 p2 p3 pf zP
  refine (HNu.out W2).mono ?_
  rintro e w2 ⟨rfl, hb1⟩
  have hb2 := bthen hb hb1 hb.size
  have HX := Lib.hid (Arr.below hX (Arr.lt hX (by decide)) hb1)
  have HT := Lib.hid (Arr.below hT (Arr.lt hT (by decide)) hb1)
  have hz2 : w1.heap.size + 1 < w2.heap.size := Nat.lt_of_lt_of_le hz hb1.size
  replace HP := Lib.hid (Arr.below HP.out (Arr.lt HP.out (by decide)) hb2)
  replace HQ := Lib.hid (Arr.below HQ.out (Arr.lt HQ.out (by decide)) hb2)
  replace HI := Lib.hid (Arr.below HI.out (Arr.lt HI.out (by decide)) hb2)
  replace HB := Lib.hid (bthen HB.out hb2 HB.out.size)
  clear HNu hb hX hT hz hb1 hb2
  generalize w1.heap.size = nx at *
  obtain ⟨p0, p1, p2, p3, pf⟩ := RvAt.cells HP.out
  obtain ⟨q0, q1, q2, q3, qf⟩ := RvAt.cells HQ.out
  obtain ⟨i0, i1, i2, i3, if_⟩ := ItAt.cells HI.out
  obtain ⟨x0, x1, x2, x3, xf⟩ := RvAt.cells HX.out
  obtain ⟨t0, t1, t2, t3, tf⟩ := ItAt.cells HT.out
  have zP := Arr.lt HP.out (by decide)
  have zQ := Arr.lt HQ.out (by decide)
  have zI := Arr.lt HI.out (by decide)
  have zX := Arr.lt HX.out (by decide)
  have zT := Arr.lt HT.out (by decide)
  go_wp2_with fail
  clear p0 p1 p2 p3 pf q0 q1 q2 q3 qf i0 i1 i2 i3 if_ x0 x1 x2 x3 xf t0 t1 t2 t3 tf zP zQ zI zX zT
  generalize hW : World.setCell _ _ _ = W5
  obtain ⟨hX5, hT5, hs5, hA5, hB5⟩ := ri_foldI s 1 (by decide) ⟨1, n, 0, 0⟩ HX.out HT.out rfl (fun q hq h => by
    obtain rfl | rfl | rfl | rfl : q = 0 ∨ q = 1 ∨ q = 2 ∨ q = 3 := by omega
    all_goals first | rfl | exact absurd rfl h) hW
  clear hW
  replace HP := Lib.hid (hA5 (by omega) (by omega) HP.out)
  replace HQ := Lib.hid (hA5 (by omega) (by omega) HQ.out)
  replace HI := Lib.hid (hA5 (by omega) (by omega) HI.out)
  replace HX := Lib.hid hX5
  replace HT := Lib.hid hT5
  replace HB := Lib.hid (hB5 _ _ HB.out (by omega))
  generalize hW : World.alloc _ _ = W6
  have hc : W6.cell? ⟨w2.heap.size, 0, none⟩ = some (.int .u8 ((45 : UInt8).toNat : Int)) := by rw [← hW, ← hs5]; exact cell_new rfl rfl
  have hb6 : Below W5.heap.size W5 W6 := by rw [← hW]; exact (Below.refl _ _).alloc (Nat.le_refl _) _
  clear hW
  refine (HI1.out W6 _ hc).mono ?_
  rintro e w3 ⟨rfl, hb7⟩
  have hb8 := bthen hb6 hb7 hb6.size
  have hz3 : nx + 1 < w3.heap.size := by have := hb8.size; omega
  replace HP := Lib.hid (Arr.below HP.out (Arr.lt HP.out (by decide)) hb8)
  replace HQ := Lib.hid (Arr.below HQ.out (Arr.lt HQ.out (by decide)) hb8)
  replace HI := Lib.hid (Arr.below HI.out (Arr.lt HI.out (by decide)) hb8)
  replace HX := Lib.hid (Arr.below HX.out (Arr.lt HX.out (by decide)) hb8)
  replace HT := Lib.hid (Arr.below HT.out (Arr.lt HT.out (by decide)) hb8)
  replace HB := Lib.hid (bthen HB.out hb8 HB.out.size)
  clear hX5 hT5 hA5 hB5 hs5 hc hb6 hb7 hb8 HI1 hz2
  obtain ⟨p0, p1, p2, p3, pf⟩ := RvAt.cells HP.out
  obtain ⟨q0, q1, q2, q3, qf⟩ := RvAt.cells HQ.out
  obtain ⟨i0, i1, i2, i3, if_⟩ := ItAt.cells HI.out
  obtain ⟨x0, x1, x2, x3, xf⟩ := RvAt.cells HX.out
  obtain ⟨t0, t1, t2, t3, tf⟩ := ItAt.cells HT.out
  have zP := Arr.lt HP.out (by decide)
  have zQ := Arr.lt HQ.out (by decide)
  have zI := Arr.lt HI.out (by decide)
  have zX := Arr.lt HX.out (by decide)
  have zT := Arr.lt HT.out (by decide)
  go_wp2_with fail
  clear p0 p1 p2 p3 pf q0 q1 q2 q3 qf i0 i1 i2 i3 if_ x0 x1 x2 x3 xf t0 t1 t2 t3 tf zP zQ zI zX zT
  generalize hW : World.setCell _ _ _ = W7
  have hT7 : ItAt W7 (nx + 1) ⟨2, n, 0, 1⟩ := by rw [← hW]; exact itAt_set3 (itAt_set0 HT.out 2) 1
  have hA7 : ∀ {b m g}, b ≠ nx + 1 → Arr w3 b m g → Arr W7 b m g := by intro b m g h1 h2; rw [← hW]; exact (h2.other h1.symm).other h1.symm
  have hb7 : Below w.heap.size w W7 := by rw [← hW]; exact (HB.out.setCell (by show w.heap.size ≤ nx + 1; omega) _).setCell (by show w.heap.size ≤ nx + 1; omega) _
  have hs7 : W7.heap.size = w3.heap.size := by rw [← hW]; simp
  clear hW
  replace HP := Lib.hid (hA7 (by omega) HP.out)
  replace HQ := Lib.hid (hA7 (by omega) HQ.out)
  replace HI := Lib.hid (hA7 (by omega) HI.out)
  replace HX := Lib.hid (hA7 (by omega) HX.out)
  replace HT := Lib.hid hT7
  replace HB := Lib.hid hb7
  generalize hW : World.alloc _ _ = W8
  have HM : Hid (RvAt W8 w3.heap.size s jM M.a M.e) := by show RvAt _ _ _ _ _ _; rw [← hW, ← hs7]; exact rvAt_new _ _ _ _ _ _
  have hb8 : Below W7.heap.size W7 W8 := by rw [← hW]; exact (Below.refl _ _).alloc (Nat.le_refl _) _
  have hz8 : w3.heap.size < W8.heap.size := Arr.lt HM.out (by decide)
  clear hW
  refine (HN2.out W8).mono ?_
  rintro e w4 ⟨rfl, hb9⟩
  replace HM := Lib.hid (Arr.below HM.out (Arr.lt HM.out (by decide)) hb9)
  have hb10 := bthen hb8 hb9 hb8.size
  have hz4 : w3.heap.size < w4.heap.size := Nat.lt_of_lt_of_le hz8 hb9.size
  replace HP := Lib.hid (Arr.below HP.out (Arr.lt HP.out (by decide)) hb10)
  replace HQ := Lib.hid (Arr.below HQ.out (Arr.lt HQ.out (by decide)) hb10)
  replace HI := Lib.hid (Arr.below HI.out (Arr.lt HI.out (by decide)) hb10)
  replace HX := Lib.hid (Arr.below HX.out (Arr.lt HX.out (by decide)) hb10)
  replace HT := Lib.hid (Arr.below HT.out (Arr.lt HT.out (by decide)) hb10)
  replace HB := Lib.hid (bthen HB.out hb10 HB.out.size)
  clear hT7 hA7 hb7 hs7 hb8 hb9 hb10 hz8 HN2
  generalize w3.heap.size = nm at *
  obtain ⟨p0, p1, p2, p3, pf⟩ := RvAt.cells HP.out
  obtain ⟨q0, q1, q2, q3, qf⟩ := RvAt.cells HQ.out
  obtain ⟨i0, i1, i2, i3, if_⟩ := ItAt.cells HI.out
  obtain ⟨x0, x1, x2, x3, xf⟩ := RvAt.cells HX.out
  obtain ⟨t0, t1, t2, t3, tf⟩ := ItAt.cells HT.out
  have zP := Arr.lt HP.out (by decide)
  have zQ := Arr.lt HQ.out (by decide)
  have zI := Arr.lt HI.out (by decide)
  have zX := Arr.lt HX.out (by decide)
  have zT := Arr.lt HT.out (by decide)
  obtain ⟨m0, m1, m2, m3, mf⟩ := RvAt.cells HM.out
  have zM := Arr.lt HM.out (by decide)
  go_wp2
  clear p0 p1 p2 p3 pf q0 q1 q2 q3 qf i0 i1 i2 i3 if_ x0 x1 x2 x3 xf t0 t1 t2 t3 tf zP zQ zI zX zT
  clear m0 m1 m2 m3 mf zM
  generalize hW : World.setCell _ _ _ = W5
  obtain ⟨hX5, hT5, hs5, hA5, hB5⟩ := ri_foldI s 2 (by decide) ⟨2, n, m, 1⟩ HX.out HT.out rfl (fun q hq h => by
    obtain rfl | rfl | rfl | rfl : q = 0 ∨ q = 1 ∨ q = 2 ∨ q = 3 := by omega
    all_goals first | rfl | exact absurd rfl h) hW
  clear hW
  replace HP := Lib.hid (hA5 (by omega) (by omega) HP.out)
  replace HQ := Lib.hid (hA5 (by omega) (by omega) HQ.out)
  replace HI := Lib.hid (hA5 (by omega) (by omega) HI.out)
  replace HX := Lib.hid hX5
  replace HT := Lib.hid hT5
  replace HB := Lib.hid (hB5 _ _ HB.out (by omega))
  replace HM := Lib.hid (hA5 (by omega) (by omega) HM.out)
  replace hz4 : nm < W5.heap.size := by omega
  clear hX5 hT5 hA5 hB5 hs5
  obtain ⟨p0, p1, p2, p3, pf⟩ := RvAt.cells HP.out
  obtain ⟨q0, q1, q2, q3, qf⟩ := RvAt.cells HQ.out
  obtain ⟨i0, i1, i2, i3, if_⟩ := ItAt.cells HI.out
  obtain ⟨x0, x1, x2, x3, xf⟩ := RvAt.cells HX.out
  obtain ⟨t0, t1, t2, t3, tf⟩ := ItAt.cells HT.out
  have zP := Arr.lt HP.out (by decide)
  have zQ := Arr.lt HQ.out (by decide)
  have zI := Arr.lt HI.out (by decide)
  have zX := Arr.lt HX.out (by decide)
  have zT := Arr.lt HT.out (by decide)
  obtain ⟨m0, m1, m2, m3, mf⟩ := RvAt.cells HM.out
  have zM := Arr.lt HM.out (by decide)
  have hbB := HB.out
  go_region_with (
    go_at_call 21
    refine (HF4.out _).mono ?_
    rintro e w6 ⟨rfl, hb6⟩
    clear p0 p1 p2 p3 pf q0 q1 q2 q3 qf i0 i1 i2 i3 if_ x0 x1 x2 x3 xf t0 t1 t2 t3 tf zP zQ zI zX zT
    clear m0 m1 m2 m3 mf zM
    have hb7 : Below W5.heap.size W5 w6 := (Below.drew (Below.refl _ W5)).trans hb6
    replace HP := Lib.hid (Arr.below HP.out (Arr.lt HP.out (by decide)) hb7)
    replace HQ := Lib.hid (Arr.below HQ.out (Arr.lt HQ.out (by decide)) hb7)
    replace HI := Lib.hid (Arr.below HI.out (Arr.lt HI.out (by decide)) hb7)
    replace HX := Lib.hid (Arr.below HX.out (Arr.lt HX.out (by decide)) hb7)
    replace HT := Lib.hid (Arr.below HT.out (Arr.lt HT.out (by decide)) hb7)
    replace HB := Lib.hid (bthen HB.out hb7 HB.out.size)
    clear hb6 hb7 hbB
    obtain ⟨p0, p1, p2, p3, pf⟩ := RvAt.cells HP.out
    obtain ⟨q0, q1, q2, q3, qf⟩ := RvAt.cells HQ.out
    obtain ⟨i0, i1, i2, i3, if_⟩ := ItAt.cells HI.out
    obtain ⟨x0, x1, x2, x3, xf⟩ := RvAt.cells HX.out
    obtain ⟨t0, t1, t2, t3, tf⟩ := ItAt.cells HT.out
    have zP := Arr.lt HP.out (by decide)
    have zQ := Arr.lt HQ.out (by decide)
    have zI := Arr.lt HI.out (by decide)
    have zX := Arr.lt HX.out (by decide)
    have zT := Arr.lt HT.out (by decide)
    have hbB := HB.out)
  (try go_region_with (fail))
  all_goals (
    (try go_wp2)
    (try simp only [Exit.inBlock, Exit.then])
    refine bodyPost_ret (v := .tuple #[.agg #[.string s, .int .i64 (jM), .int .i64 (F.a), .int .i64 (F.e)], .agg #[.int .i64 (2), .int .i64 (n), .int .i64 (m), .int .i64 (1)]]) ?_ rfl ⟨rfl, by (repeat' (first | (with_reducible exact Below.refl _ _) | (with_reducible assumption) | (with_reducible refine below_drewN ?_ _) | (with_reducible refine Below.alloc ?_ ?_ _) | (with_reducible refine Below.drew ?_) | (with_reducible refine Below.setCell ?_ ?_ _) | go_size))⟩
    rw [results_cell_cc rfl]
    go_simp)
end
end Go.Proofs.YtpfcgjneeboamaaDoor
