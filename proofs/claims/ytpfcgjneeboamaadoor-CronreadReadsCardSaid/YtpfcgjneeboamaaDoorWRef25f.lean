/- The walks of package feriaref25: item, further. -/
import Derived.Test.YtpfcgjneeboamaaDoorWRef25e
namespace Go.Proofs.YtpfcgjneeboamaaDoor
open Go.RowKit
set_option linter.unusedSimpArgs false
set_option linter.unusedVariables false

section
variable (s : ByteArray) (hs : s.size ≤ 1000000) (σ : PS) (hσ : OfR s σ) (w : World)
include hs hσ
set_option maxHeartbeats 4000000 in
theorem ritem_star_no (f : Nat) (hf : f < 5) (hst : (isP [42] σ).2 = true) (hsl : (isP [47] (isP [42] σ).1).2 = false) : Calls Tryd.prog 35 #[rvP s σ, .int .i64 (f : Int)] w (Ret (tupR s (rItemR s.size f σ).1 (itV (rItemR s.size f σ).2)) w) := by
  have HI0 := Lib.hid (fun W b (h : W.cell? ⟨b, 0, none⟩ = some (.int .u8 ((42 : UInt8).toNat : Int))) => is_rf s hs σ hσ W _ 1 1 42 (rdBytes_one' W b 42 h))
  have hS := ofR_is hσ [42]
  have HI1 := Lib.hid (fun W b (h : W.cell? ⟨b, 0, none⟩ = some (.int .u8 ((47 : UInt8).toNat : Int))) => is_rf s hs (isP [42] σ).1 hS W _ 1 1 47 (rdBytes_one' W b 47 h))
  have hB := ofR_is hS [47]
  obtain ⟨k, hk, hl, ha⟩ := hσ.at_
  unfold rItemR
  rw [if_pos hst]
  rw [hst] at HI0
  generalize (isP [42] σ).1 = S at *
  unfold rByR
  rw [hsl, if_neg (by simp)]
  rw [hsl] at HI1
  dsimp only
  generalize (isP [47] S).1 = B at *
  unfold tupR rvP rV itV at *
  rw [ha] at HI0 ⊢
  generalize atP s.size S = jS at *
  generalize atP s.size B = jB at *
  clear hσ hS hB hk hl ha hst hsl
  go_enter Tryd.func35, Tryd.ntmps35
  go_wp2_with fail
  generalize hW : World.alloc _ _ = W0
  obtain ⟨hb, hP, hQ, hI, hc, hz⟩ := ri_base s w k σ.a σ.e 42 50 50 34 5 hW
  clear hW
  refine (HI0.out W0 _ hc).mono ?_
  rintro e w1 ⟨rfl, hb1⟩
  have HP := Lib.hid (Arr.below hP (Arr.lt hP (by decide)) hb1)
  have HQ := Lib.hid (Arr.below hQ (Arr.lt hQ (by decide)) hb1)
  have HI := Lib.hid (Arr.below hI (Arr.lt hI (by decide)) hb1)
  have HB := Lib.hid (bthen hb hb1 hb.size)
  have hz1 : w.heap.size + 1 + 1 + 1 < w1.heap.size := Nat.lt_of_lt_of_le hz hb1.size
  clear hb hP hQ hI hc hz hb1 HI0
  go_wp2_with fail
  generalize hW : World.alloc _ _ = W2
  obtain ⟨hb, hX, hT, hc, hz⟩ := ri_two s w1 jS S.a S.e ⟨0, 0, 0, 1⟩ 47 50 34 5 hW
  clear hW
  refine (HI1.out W2 _ hc).mono ?_
  rintro e w2 ⟨rfl, hb1⟩
  have hb2 := bthen hb hb1 hb.size
  have HX := Lib.hid (Arr.below hX (Arr.lt hX (by decide)) hb1)
  have HT := Lib.hid (Arr.below hT (Arr.lt hT (by decide)) hb1)
  have hz2 : w1.heap.size + 1 + 1 < w2.heap.size := Nat.lt_of_lt_of_le hz hb1.size
  replace HP := Lib.hid (Arr.below HP.out (Arr.lt HP.out (by decide)) hb2)
  replace HQ := Lib.hid (Arr.below HQ.out (Arr.lt HQ.out (by decide)) hb2)
  replace HI := Lib.hid (Arr.below HI.out (Arr.lt HI.out (by decide)) hb2)
  replace HB := Lib.hid (bthen HB.out hb2 HB.out.size)
  clear HI1 hb hX hT hc hz hb1 hb2
  generalize w1.heap.size = nx at *
  obtain ⟨p0, p1, p2, p3, pf⟩ := RvAt.cells HP.out
  obtain ⟨q0, q1, q2, q3, qf⟩ := RvAt.cells HQ.out
  obtain ⟨i0, i1, i2, i3, if_⟩ := ItAt.cells HI.out
  obtain ⟨x0, x1, x2, x3, xf⟩ := RvAt.cells HX.out
  obtain ⟨t0, t1, t2, t3, tf⟩ := ItAt.cells HT.out
  have zP := Arr.lt HP.out (by decide)
  have zQ := Arr.lt HQ.out (by decide)
  have zI := Arr.lt HI.out (by decide)
  have zX := Arr.lt HX.out (by decide)
  have zT := Arr.lt HT.out (by decide)
  go_wp2
  generalize hW : World.alloc _ _ = W5
  have hb5 : Below w2.heap.size w2 W5 := by rw [← hW]; exact (Below.refl _ _).alloc (Nat.le_refl _) _
  clear hW
  clear p0 p1 p2 p3 pf q0 q1 q2 q3 qf i0 i1 i2 i3 if_ x0 x1 x2 x3 xf t0 t1 t2 t3 tf zP zQ zI zX zT
  replace HP := Lib.hid (Arr.below HP.out (Arr.lt HP.out (by decide)) hb5)
  replace HQ := Lib.hid (Arr.below HQ.out (Arr.lt HQ.out (by decide)) hb5)
  replace HI := Lib.hid (Arr.below HI.out (Arr.lt HI.out (by decide)) hb5)
  replace HX := Lib.hid (Arr.below HX.out (Arr.lt HX.out (by decide)) hb5)
  replace HT := Lib.hid (Arr.below HT.out (Arr.lt HT.out (by decide)) hb5)
  replace HB := Lib.hid (bthen HB.out hb5 HB.out.size)
  clear hb5
  obtain ⟨p0, p1, p2, p3, pf⟩ := RvAt.cells HP.out
  obtain ⟨q0, q1, q2, q3, qf⟩ := RvAt.cells HQ.out
  obtain ⟨i0, i1, i2, i3, if_⟩ := ItAt.cells HI.out
  obtain ⟨x0, x1, x2, x3, xf⟩ := RvAt.cells HX.out
  obtain ⟨t0, t1, t2, t3, tf⟩ := ItAt.cells HT.out
  have zP := Arr.lt HP.out (by decide)
  have zQ := Arr.lt HQ.out (by decide)
  have zI := Arr.lt HI.out (by decide)
  have zX := Arr.lt HX.out (by decide)
  have zT := Arr.lt HT.out (by decide)
  have hbB := HB.out
  (try go_region_with (fail))
  all_goals (
    (try go_wp2)
    (try simp only [Exit.inBlock, Exit.then])
    refine bodyPost_ret (v := .tuple #[.agg #[.string s, .int .i64 (jS), .int .i64 (S.a), .int .i64 (S.e)], .agg #[.int .i64 (0), .int .i64 (0), .int .i64 (0), .int .i64 (1)]]) ?_ rfl ⟨rfl, by (repeat' (first | (with_reducible exact Below.refl _ _) | (with_reducible assumption) | (with_reducible refine below_drewN ?_ _) | (with_reducible refine Below.alloc ?_ ?_ _) | (with_reducible refine Below.drew ?_) | (with_reducible refine Below.setCell ?_ ?_ _) | go_size))⟩
    rw [results_cell_cc rfl]
    go_simp)
end
end Go.Proofs.YtpfcgjneeboamaaDoor
