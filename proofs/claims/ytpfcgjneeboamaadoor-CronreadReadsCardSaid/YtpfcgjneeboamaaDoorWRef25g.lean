/- The walks of package feriaref25: item, a number. -/
import Derived.Test.YtpfcgjneeboamaaDoorWRef25f
namespace Go.Proofs.YtpfcgjneeboamaaDoor
open Go.RowKit
set_option linter.unusedSimpArgs false
set_option linter.unusedVariables false

theorem isP_false {cs : List UInt8} {σ : PS} (h : (isP cs σ).2 = false) : (isP cs σ).1 = σ := by
  unfold isP at *
  split at h
  · rename_i he
    rw [if_pos he]
    split at h
    · cases h
    · rfl
  · rename_i he; rw [if_neg he]
theorem ri_pair (s : ByteArray) (W : World) (k a e : Int) (i : It) (ty ty2 : TypeId) {W2 : World} (hW : ((W.alloc (.cells #[.string s, .int .i64 k, .int .i64 a, .int .i64 e] ty)).alloc (.cells #[.int .i64 i.k, .int .i64 i.f, .int .i64 i.t, .int .i64 i.s] ty2)) = W2) :
    Below W.heap.size W W2 ∧ RvAt W2 W.heap.size s k a e ∧ ItAt W2 (W.heap.size + 1) i ∧ W.heap.size + 1 < W2.heap.size := by
  subst hW
  have h1 := rvAt_new W s k a e ty
  have hI := itAt_new (W.alloc (.cells #[.string s, .int .i64 k, .int .i64 a, .int .i64 e] ty)) i.k i.f i.t i.s ty2
  refine ⟨((Below.refl _ _).alloc (Nat.le_refl _) _).alloc (by simp) _, ?_, ?_, by simp⟩
  · exact Arr.alloc h1 (Arr.lt h1 (by decide)) _
  · simpa using hI
theorem ri_foldI (s : ByteArray) {W W' : World} {x : Nat} {S : ByteArray} {k0 a0 e0 j a e v : Int} {i0 : It} (i : Nat) (hi : i < 4) (i1 : It) (HX : RvAt W x S k0 a0 e0) (HT : ItAt W (x + 1) i0)
    (h1 : itG i1 i = .int .i64 v) (h2 : ∀ q, q < 4 → q ≠ i → itG i1 q = itG i0 q)
    (hW : (((((W.setCell ⟨x, 0, none⟩ (.string s)).setCell ⟨x, 1, none⟩ (.int .i64 j)).setCell ⟨x, 2, none⟩ (.int .i64 a)).setCell ⟨x, 3, none⟩ (.int .i64 e)).setCell ⟨x + 1, i, none⟩ (.int .i64 v)) = W') :
    RvAt W' x s j a e ∧ ItAt W' (x + 1) i1 ∧ W'.heap.size = W.heap.size ∧ (∀ {b m g}, b ≠ x → b ≠ x + 1 → Arr W b m g → Arr W' b m g) ∧ ∀ B w, Below B w W → B ≤ x → Below B w W' := by
  subst hW
  refine ⟨?_, ?_, by simp, fun h1 h2 h => ?_, fun B w h hB => ?_⟩
  · refine Arr.other ?_ (by omega)
    have e1 := Arr.set (g' := fun q => if q = 0 then .string s else rvG S k0 a0 e0 q) HX 0 (by decide) (.string s) rfl (fun q _ h => if_neg h)
    have e2 := Arr.set (g' := fun q => if q = 0 then .string s else if q = 1 then .int .i64 j else rvG S k0 a0 e0 q) e1 1 (by decide) (.int .i64 j) rfl (fun q _ h => by simp only [if_neg h])
    have e3 := Arr.set (g' := fun q => if q = 0 then .string s else if q = 1 then .int .i64 j else if q = 2 then .int .i64 a else rvG S k0 a0 e0 q) e2 2 (by decide) (.int .i64 a) rfl (fun q _ h => by simp only [if_neg h])
    refine Arr.set (g' := rvG s j a e) e3 3 (by decide) (.int .i64 e) rfl (fun q hq h => ?_)
    obtain rfl | rfl | rfl | rfl : q = 0 ∨ q = 1 ∨ q = 2 ∨ q = 3 := by omega
    all_goals first | rfl | exact absurd rfl h
  · have h := Arr.other (b' := x) (i := 3) (v := .int .i64 e) (Arr.other (b' := x) (i := 2) (v := .int .i64 a) (Arr.other (b' := x) (i := 1) (v := .int .i64 j) (Arr.other (b' := x) (i := 0) (v := .string s) HT (by omega)) (by omega)) (by omega)) (by omega)
    exact Arr.set h i hi (.int .i64 v) h1 (fun q hq hn => h2 q hq hn)
  · exact (((((h.other h1.symm).other h1.symm).other h1.symm).other h1.symm).other h2.symm)
  · exact ((((h.setCell hB _).setCell hB _).setCell hB _).setCell hB _).setCell (Nat.le_succ_of_le hB) _
section
variable (s : ByteArray) (hs : s.size ≤ 1000000) (σ : PS) (hσ : OfR s σ) (w : World)
include hs hσ
set_option maxHeartbeats 4000000 in
theorem ritem_one (f : Nat) (hf : f < 5) (hst : (isP [42] σ).2 = false) (hds : (isP [45] (rNumR s.size f σ).1).2 = false) : Calls Tryd.prog 35 #[rvP s σ, .int .i64 (f : Int)] w (Ret (tupR s (rItemR s.size f σ).1 (itV (rItemR s.size f σ).2)) w) := by
  have HI0 := Lib.hid (fun W b (h : W.cell? ⟨b, 0, none⟩ = some (.int .u8 ((42 : UInt8).toNat : Int))) => is_rf s hs σ hσ W _ 1 1 42 (rdBytes_one' W b 42 h))
  have HNu := Lib.hid (fun W => rnumber_any s hs σ hσ W f hf)
  have hN := ofR_rnum s σ hσ s.size f
  have HI1 := Lib.hid (fun W b (h : W.cell? ⟨b, 0, none⟩ = some (.int .u8 ((45 : UInt8).toNat : Int))) => is_rf s hs (rNumR s.size f σ).1 hN W _ 1 1 45 (rdBytes_one' W b 45 h))
  obtain ⟨k, hk, hl, ha⟩ := hσ.at_
  unfold rItemR
  rw [hst, if_neg (by simp)]
  unfold rFromR
  rw [hds, if_neg (by simp)]
  rw [hst, isP_false hst] at HI0
  rw [hds, isP_false hds] at HI1
  generalize rNumR s.size f σ = X at *
  obtain ⟨X, n⟩ := X
  dsimp only at *
  unfold tupR rvP rV itV at *
  rw [ha] at HI0 HNu ⊢
  generalize atP s.size X = jX at *
  clear hσ hN hk hl ha hst hds
  go_enter Tryd.func35, Tryd.ntmps35
  go_wp2_with fail
  generalize hW : World.alloc _ _ = W0
  obtain ⟨hb, hP, hQ, hI, hc, hz⟩ := ri_base s w k σ.a σ.e 42 50 50 34 5 hW
  clear hW
  refine (HI0.out W0 _ hc).mono ?_
  rintro e w1 ⟨rfl, hb1⟩
  have HP := Lib.hid (Arr.below hP (Arr.lt hP (by decide)) hb1)
  have HQ := Lib.hid (Arr.below hQ (Arr.lt hQ (by decide)) hb1)
  have HI := Lib.hid (Arr.below hI (Arr.lt hI (by decide)) hb1)
  have HB := Lib.hid (bthen hb hb1 hb.size)
  have hz1 : w.heap.size + 1 + 1 + 1 < w1.heap.size := Nat.lt_of_lt_of_le hz hb1.size
  clear hb hP hQ hI hc hz hb1 HI0
  obtain ⟨p0, p1, p2, p3, pf⟩ := RvAt.cells HP.out
  have zP := Arr.lt HP.out (by decide)
  go_wp2_with fail
  generalize hW : World.alloc _ _ = W2
  obtain ⟨hb, hX, hT, hz⟩ := ri_pair s w1 k σ.a σ.e ⟨1, 0, 0, 0⟩ 50 34 hW
  clear hW p0 p1 p2 p3 pf zP
  refine (HNu.out W2).mono ?_
  rintro e w2 ⟨rfl, hb1⟩
  have hb2 := bthen hb hb1 hb.size
  have HX := Lib.hid (Arr.below hX (Arr.lt hX (by decide)) hb1)
  have HT := Lib.hid (Arr.below hT (Arr.lt hT (by decide)) hb1)
  have hz2 : w1.heap.size + 1 < w2.heap.size := Nat.lt_of_lt_of_le hz hb1.size
  replace HP := Lib.hid (Arr.below HP.out (Arr.lt HP.out (by decide)) hb2)
  replace HQ := Lib.hid (Arr.below HQ.out (Arr.lt HQ.out (by decide)) hb2)
  replace HI := Lib.hid (Arr.below HI.out (Arr.lt HI.out (by decide)) hb2)
  replace HB := Lib.hid (bthen HB.out hb2 HB.out.size)
  clear HNu hb hX hT hz hb1 hb2
  generalize w1.heap.size = nx at *
  obtain ⟨p0, p1, p2, p3, pf⟩ := RvAt.cells HP.out
  obtain ⟨q0, q1, q2, q3, qf⟩ := RvAt.cells HQ.out
  obtain ⟨i0, i1, i2, i3, if_⟩ := ItAt.cells HI.out
  obtain ⟨x0, x1, x2, x3, xf⟩ := RvAt.cells HX.out
  obtain ⟨t0, t1, t2, t3, tf⟩ := ItAt.cells HT.out
  have zP := Arr.lt HP.out (by decide)
  have zQ := Arr.lt HQ.out (by decide)
  have zI := Arr.lt HI.out (by decide)
  have zX := Arr.lt HX.out (by decide)
  have zT := Arr.lt HT.out (by decide)
  go_wp2_with fail
  clear p0 p1 p2 p3 pf q0 q1 q2 q3 qf i0 i1 i2 i3 if_ x0 x1 x2 x3 xf t0 t1 t2 t3 tf zP zQ zI zX zT
  generalize hW : World.setCell _ _ _ = W5
  obtain ⟨hX5, hT5, hs5, hA5, hB5⟩ := ri_foldI s 1 (by decide) ⟨1, n, 0, 0⟩ HX.out HT.out rfl (fun q hq h => by
    obtain rfl | rfl | rfl | rfl : q = 0 ∨ q = 1 ∨ q = 2 ∨ q = 3 := by omega
    all_goals first | rfl | exact absurd rfl h) hW
  clear hW
  replace HP := Lib.hid (hA5 (by omega) (by omega) HP.out)
  replace HQ := Lib.hid (hA5 (by omega) (by omega) HQ.out)
  replace HI := Lib.hid (hA5 (by omega) (by omega) HI.out)
  replace HX := Lib.hid hX5
  replace HT := Lib.hid hT5
  replace HB := Lib.hid (hB5 _ _ HB.out (by omega))
  generalize hW : World.alloc _ _ = W6
  have hc : W6.cell? ⟨w2.heap.size, 0, none⟩ = some (.int .u8 ((45 : UInt8).toNat : Int)) := by rw [← hW, ← hs5]; exact cell_new rfl rfl
  have hb6 : Below W5.heap.size W5 W6 := by rw [← hW]; exact (Below.refl _ _).alloc (Nat.le_refl _) _
  clear hW
  refine (HI1.out W6 _ hc).mono ?_
  rintro e w3 ⟨rfl, hb7⟩
  have hb8 := bthen hb6 hb7 hb6.size
  have hz3 : nx + 1 < w3.heap.size := by have := hb8.size; omega
  replace HP := Lib.hid (Arr.below HP.out (Arr.lt HP.out (by decide)) hb8)
  replace HQ := Lib.hid (Arr.below HQ.out (Arr.lt HQ.out (by decide)) hb8)
  replace HI := Lib.hid (Arr.below HI.out (Arr.lt HI.out (by decide)) hb8)
  replace HX := Lib.hid (Arr.below HX.out (Arr.lt HX.out (by decide)) hb8)
  replace HT := Lib.hid (Arr.below HT.out (Arr.lt HT.out (by decide)) hb8)
  replace HB := Lib.hid (bthen HB.out hb8 HB.out.size)
  clear hX5 hT5 hA5 hB5 hs5 hc hb6 hb7 hb8 HI1 hz2
  obtain ⟨p0, p1, p2, p3, pf⟩ := RvAt.cells HP.out
  obtain ⟨q0, q1, q2, q3, qf⟩ := RvAt.cells HQ.out
  obtain ⟨i0, i1, i2, i3, if_⟩ := ItAt.cells HI.out
  obtain ⟨x0, x1, x2, x3, xf⟩ := RvAt.cells HX.out
  obtain ⟨t0, t1, t2, t3, tf⟩ := ItAt.cells HT.out
  have zP := Arr.lt HP.out (by decide)
  have zQ := Arr.lt HQ.out (by decide)
  have zI := Arr.lt HI.out (by decide)
  have zX := Arr.lt HX.out (by decide)
  have zT := Arr.lt HT.out (by decide)
  go_wp2
  generalize hW : World.alloc _ _ = W5
  have hb5 : Below w3.heap.size w3 W5 := by rw [← hW]; exact (Below.refl _ _).alloc (Nat.le_refl _) _
  clear hW
  clear p0 p1 p2 p3 pf q0 q1 q2 q3 qf i0 i1 i2 i3 if_ x0 x1 x2 x3 xf t0 t1 t2 t3 tf zP zQ zI zX zT
  replace HP := Lib.hid (Arr.below HP.out (Arr.lt HP.out (by decide)) hb5)
  replace HQ := Lib.hid (Arr.below HQ.out (Arr.lt HQ.out (by decide)) hb5)
  replace HI := Lib.hid (Arr.below HI.out (Arr.lt HI.out (by decide)) hb5)
  replace HX := Lib.hid (Arr.below HX.out (Arr.lt HX.out (by decide)) hb5)
  replace HT := Lib.hid (Arr.below HT.out (Arr.lt HT.out (by decide)) hb5)
  replace HB := Lib.hid (bthen HB.out hb5 HB.out.size)
  clear hb5
  obtain ⟨p0, p1, p2, p3, pf⟩ := RvAt.cells HP.out
  obtain ⟨q0, q1, q2, q3, qf⟩ := RvAt.cells HQ.out
  obtain ⟨i0, i1, i2, i3, if_⟩ := ItAt.cells HI.out
  obtain ⟨x0, x1, x2, x3, xf⟩ := RvAt.cells HX.out
  obtain ⟨t0, t1, t2, t3, tf⟩ := ItAt.cells HT.out
  have zP := Arr.lt HP.out (by decide)
  have zQ := Arr.lt HQ.out (by decide)
  have zI := Arr.lt HI.out (by decide)
  have zX := Arr.lt HX.out (by decide)
  have zT := Arr.lt HT.out (by decide)
  have hbB := HB.out
  (try go_region_with (fail))
  all_goals (
    (try go_wp2)
    (try simp only [Exit.inBlock, Exit.then])
    refine bodyPost_ret (v := .tuple #[.agg #[.string s, .int .i64 (jX), .int .i64 (X.a), .int .i64 (X.e)], .agg #[.int .i64 (1), .int .i64 (n), .int .i64 (0), .int .i64 (0)]]) ?_ rfl ⟨rfl, by (repeat' (first | (with_reducible exact Below.refl _ _) | (with_reducible assumption) | (with_reducible refine below_drewN ?_ _) | (with_reducible refine Below.alloc ?_ ?_ _) | (with_reducible refine Below.drew ?_) | (with_reducible refine Below.setCell ?_ ?_ _) | go_size))⟩
    rw [results_cell_cc rfl]
    go_simp)
end
end Go.Proofs.YtpfcgjneeboamaaDoor
