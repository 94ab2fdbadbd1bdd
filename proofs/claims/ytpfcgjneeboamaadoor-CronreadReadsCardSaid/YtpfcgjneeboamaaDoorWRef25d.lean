/- The walks of package feriaref25: number, by a name. -/
import Derived.Test.YtpfcgjneeboamaaDoorWRef25c
namespace Go.Proofs.YtpfcgjneeboamaaDoor
open Go.RowKit
set_option linter.unusedSimpArgs false
set_option linter.unusedVariables false

section
variable (s : ByteArray) (hs : s.size ≤ 1000000) (σ : PS) (hσ : OfR s σ) (w : World)
include hs hσ
set_option maxHeartbeats 8000000 in
theorem rnumber_name (f : Nat) (hf : f < 5) (hc : cNames f ≠ [] ∧ doneP σ = false ∧ headB letterP σ.l = true) : Calls Tryd.prog 47 #[rvP s σ, .int .i64 (f : Int)] w (Ret (tupR s (rNumR s.size f σ).1 (.int .i64 (rNumR s.size f σ).2)) w) := by
  have HBd := Lib.hid (fun W => rbounds_any (f : Int) W)
  have HNm := Lib.hid (fun W => rnames_any f W)
  have HS := Lib.hid (fun W => some_rf s hs σ hσ W 2)
  have HF := Lib.hid (fun p q W => fail_rf s σ p q W)
  have HD := Lib.hid (fun W => done_rf s σ hσ W)
  obtain ⟨k, hk, hl, ha⟩ := hσ.at_
  have hX : atP s.size (failP (k : Int) 6 σ) = (k : Int) := by rw [← ha]; unfold atP failP; split <;> rfl
  have HF6 := Lib.hid (fun W => HF.out (k : Int) 6 W)
  unfold rNumR
  rw [if_pos hc, ha]
  clear HF
  obtain ⟨hn0, hd, hh⟩ := hc
  have hlt : k < s.size := by
    have h2 : ¬ doneP σ = true := by rw [hd]; simp
    unfold doneP at h2
    rw [decide_eq_true_eq, not_or, hl, List.drop_eq_nil_iff, len_data] at h2
    omega
  have hlet : letterP s[k] = true := by
    rw [hl, drop_cons s k hlt] at hh
    simpa [headB] using hh
  have HCl := Lib.hid (fun W => rclass_at s[k] 2 W)
  rw [show clsP 2 s[k] = true from hlet] at HCl
  have hk' : (k : Int) < (s.size : Int) := by omega
  rw [hd] at HD
  have hcl : clsP 2 = letterP := rfl
  rw [hcl] at HS
  have hWs : (strB (someP letterP σ).2).size ≤ 1000000 := by
    rw [strB_size]
    unfold someP
    split
    · have h1 := (List.takeWhile_prefix letterP (l := σ.l)).length_le
      have h2 := hσ.suf.length_le
      rw [len_data] at h2
      simp only; omega
    · simp
  have HSm := Lib.hid (fun W => rsmall_any (strB (someP letterP σ).2) hWs W)
  rw [strB_data] at HSm
  obtain ⟨⟨T, L⟩, hq⟩ : ∃ q, q = someP letterP σ := ⟨_, rfl⟩
  rw [← hq] at HS HSm ⊢
  dsimp only at HS HSm ⊢
  have HW1 := Lib.hid (fun i => @wIdx_at (lowerL L) (cNames f) i)
  have HW2 := Lib.hid (@wIdx_no (lowerL L) (cNames f))
  generalize hx : lowerL L = x at *
  generalize hz : cNames f = zs at *
  generalize failP (k : Int) 6 σ = F at *
  obtain ⟨R, hR⟩ : ∃ R, R = (if wIdx x zs < 0 then (F, 0) else (T, cLo (f : Int) + wIdx x zs)) := ⟨_, rfl⟩
  rw [← hR]
  unfold tupR rvP rV at *
  rw [ha] at HS HF6 HD ⊢
  rw [hX] at HF6
  generalize hlo : cLo (f : Int) = lo at *
  have hlo0 : 0 ≤ lo := by rw [← hlo]; have := cBounds f hf; omega
  have hlo1 : lo ≤ 9999 := by rw [← hlo]; have := cBounds f hf; omega
  have hzl : zs.length ≤ 12 := by rw [← hz]; unfold cNames; split; decide; split; decide; decide
  generalize hhi : cHi (f : Int) = hi at *
  have HR1 : Hid (wIdx x zs = -1 → R = (F, 0)) := by intro h; rw [hR, h]; rfl
  have HR2 : Hid (∀ i : Nat, wIdx x zs = (i : Int) → R = (T, lo + (i : Int))) := by intro i h; rw [hR, h, if_neg (by omega)]
  have HX := Lib.hid hX
  clear hlo hhi hq hl ha hσ hd hh hlet hcl hWs hx hR hX
  generalize hjT : atP s.size T = jT at *
  have HJ := Lib.hid hjT
  clear hjT
  have hzv : Hid (∀ j, j < zs.length → ∀ (B : Nat) (W : World), (∀ i, i < zs.length → W.cell? ⟨B, 0 + i, none⟩ = some (.string ((zs.map strB).getD i ByteArray.empty))) → ∃ y, zs[j]? = some y ∧ W.cell? ⟨B, j, none⟩ = some (.string (strB y))) := by
    intro j hj B W h
    refine ⟨zs[j], List.getElem?_eq_getElem hj, ?_⟩
    have := h j hj
    rw [Nat.zero_add] at this
    rw [this, List.getD_eq_getElem?_getD, List.getElem?_map, List.getElem?_eq_getElem hj]
    rfl
  go_enter Tryd.func47, Tryd.ntmps47
  go_wp2_with fail
  refine (HBd.out _).mono ?_
  rintro e w0 ⟨rfl, rfl⟩
  go_wp2_with fail
  refine (HNm.out _).mono ?_
  rintro e w0 ⟨A, nn, rfl, hnA, hb0', hge⟩
  rcases hnA with ⟨_, _, h⟩ | ⟨B, rfl, hnz, _, hcells⟩
  · rw [hz] at h; exact absurd h hn0
  rw [hz] at hnz hcells
  subst hnz
  have hBge := hge B 0 rfl
  have hzp : 0 < zs.length := List.length_pos_iff.2 hn0
  have hzp' : (0 : Int) < (zs.length : Int) := by omega
  have HCe := Lib.hid hcells
  have HB0 := Lib.hid hb0'
  clear hz hn0 hcells hge
  obtain ⟨q0, q1, f0, f1⟩ := rv_cells s w hb0'
  have c0 := q0 0 _ rfl
  have c1 := q0 1 _ rfl
  have c2 := q0 2 _ rfl
  have c3 := q0 3 _ rfl
  have r0 := q1 0 _ rfl
  have r1 := q1 1 _ rfl
  have r2 := q1 2 _ rfl
  have r3 := q1 3 _ rfl
  have hz1 : w.heap.size + 1 < w0.heap.size := by have := hb0'.size; simp at this; omega
  have hz0 : w.heap.size < w0.heap.size := by omega
  have hbw : Below w.heap.size w w0 := (((Below.refl _ w).alloc (Nat.le_refl _) _).alloc (by simp) _).trans (hb0'.mono (by simp; omega))
  clear q0 q1 hb0'
  go_wp2_with fail
  refine (HD.out _).mono ?_
  rintro e w1 ⟨rfl, hbn0⟩
  have hbc0 := bthen HB0.out hbn0 HB0.out.size
  have HB1 := Lib.hid hbc0
  have HBb1 := Lib.hid hbn0
  clear c0 c1 c2 c3 r0 r1 r2 r3 f0 f1 hz1 hz0 hbw
  clear HB0 hbn0
  obtain ⟨q0, q1, f0, f1⟩ := rv_cells s w hbc0
  have c0 := q0 0 _ rfl
  have c1 := q0 1 _ rfl
  have c2 := q0 2 _ rfl
  have c3 := q0 3 _ rfl
  have r0 := q1 0 _ rfl
  have r1 := q1 1 _ rfl
  have r2 := q1 2 _ rfl
  have r3 := q1 3 _ rfl
  have hz1 : w.heap.size + 1 < w1.heap.size := by have := hbc0.size; simp at this; omega
  have hz0 : w.heap.size < w1.heap.size := by omega
  have hbw : Below w.heap.size w w1 := (((Below.refl _ w).alloc (Nat.le_refl _) _).alloc (by simp) _).trans (hbc0.mono (by simp; omega))
  clear q0 q1 hbc0
  go_wp2_with fail
  refine (HCl.out _).mono ?_
  rintro e w2 ⟨rfl, hbn1⟩
  have hbc1 := bthen HB1.out hbn1 HB1.out.size
  have HB2 := Lib.hid hbc1
  have HBb2 := Lib.hid (bthen HBb1.out hbn1 HBb1.out.size)
  clear c0 c1 c2 c3 r0 r1 r2 r3 f0 f1 hz1 hz0 hbw
  clear HB1 HBb1 hbn1
  obtain ⟨q0, q1, f0, f1⟩ := rv_cells s w hbc1
  have c0 := q0 0 _ rfl
  have c1 := q0 1 _ rfl
  have c2 := q0 2 _ rfl
  have c3 := q0 3 _ rfl
  have r0 := q1 0 _ rfl
  have r1 := q1 1 _ rfl
  have r2 := q1 2 _ rfl
  have r3 := q1 3 _ rfl
  have hz1 : w.heap.size + 1 < w2.heap.size := by have := hbc1.size; simp at this; omega
  have hz0 : w.heap.size < w2.heap.size := by omega
  have hbw : Below w.heap.size w w2 := (((Below.refl _ w).alloc (Nat.le_refl _) _).alloc (by simp) _).trans (hbc1.mono (by simp; omega))
  clear q0 q1 hbc1
  go_wp2_with fail
  refine (HS.out _).mono ?_
  rintro e w3 ⟨rfl, hbn2⟩
  have hbc2 := bthen HB2.out hbn2 HB2.out.size
  have HB3 := Lib.hid hbc2
  have HBb3 := Lib.hid (bthen HBb2.out hbn2 HBb2.out.size)
  clear c0 c1 c2 c3 r0 r1 r2 r3 f0 f1 hz1 hz0 hbw
  clear HB2 HBb2 hbn2
  obtain ⟨q0, q1, f0, f1⟩ := rv_cells s w hbc2
  have c0 := q0 0 _ rfl
  have c1 := q0 1 _ rfl
  have c2 := q0 2 _ rfl
  have c3 := q0 3 _ rfl
  have r0 := q1 0 _ rfl
  have r1 := q1 1 _ rfl
  have r2 := q1 2 _ rfl
  have r3 := q1 3 _ rfl
  have hz1 : w.heap.size + 1 < w3.heap.size := by have := hbc2.size; simp at this; omega
  have hz0 : w.heap.size < w3.heap.size := by omega
  have hbw : Below w.heap.size w w3 := (((Below.refl _ w).alloc (Nat.le_refl _) _).alloc (by simp) _).trans (hbc2.mono (by simp; omega))
  clear q0 q1 hbc2
  go_wp2
  generalize hW : World.alloc w3 _ = W4
  have hbW : Below w.heap.size w W4 := by rw [← hW]; exact hbw.alloc (by omega) _
  have hba : Below w3.heap.size w3 W4 := by rw [← hW]; exact (Below.refl _ _).alloc (Nat.le_refl _) _
  have HBn := Lib.hid (bthen HBb3.out hba HBb3.out.size)
  have hb04 := bthen HB3.out hba HB3.out.size
  have hW0 := rv_new2 w s (k : Int) σ.a σ.e 50 50
  have HP4 := Lib.hid (Arr.below hW0.1 (Arr.lt hW0.1 (by decide)) hb04)
  have HQ4 := Lib.hid (Arr.below hW0.2 (Arr.lt hW0.2 (by decide)) hb04)
  have HN4 : Hid (RvAt W4 w3.heap.size s jT T.a T.e) := by show RvAt _ _ _ _ _ _; rw [← hW]; exact rvAt_new _ _ _ _ _ _
  have hz3 : w.heap.size + 1 < W4.heap.size := Nat.lt_of_lt_of_le hz1 hba.size
  have hz4 : w3.heap.size < W4.heap.size := Arr.lt HN4.out (by decide)
  have hz5 : w.heap.size + 1 < w3.heap.size := hz1
  clear hW hW0 hba hb04 HB3 HBb3
  clear c0 c1 c2 c3 r0 r1 r2 r3 f0 f1 hz1 hz0 hbw
  generalize w3.heap.size = q3 at *
  go_loopw [11] (fun i wr => ∃ q : Nat, q ≤ zs.length ∧ i = .int .i64 q ∧ Hid (∀ j, j < q → zs[j]? ≠ some x) ∧ Below W4.heap.size W4 wr) (fun i _ => zs.length - (intOf i).toNat)
  case atStart => exact ⟨0, Nat.zero_le _, rfl, fun j h => absurd h (Nat.not_lt_zero _), Below.refl _ _⟩
  case round =>
    obtain ⟨q, hq, rfl, HNo, hb⟩ := hrel
    have hsz := hb.size
    have HNN := Lib.hid (bthen HBn.out hb HBn.out.size)
    by_cases hlt : q < zs.length
    · have hlt' : (q : Int) < (zs.length : Int) := by omega
      obtain ⟨y, hy, hyc⟩ := hzv.out q hlt B wr (fun i hi => (HNN.out.cell (p := ⟨B, _, none⟩) (World.block_lt_of_cell? _ _ (HCe.out i hi))).trans (HCe.out i hi))
      have Hy := Lib.hid hy
      clear hy
      have g0 : ∀ y' : Ext wr, y'.W.cell? ⟨B, q, none⟩ = some (.string (strB y)) := fun y' => y'.cell hyc
      clear hyc
      by_cases hxy : x = y
      · have e : ((strB x).toList == (strB y).toList) = true := by rw [hxy]; simp
        have hR := HR2.out q (HW1.out q (by rw [Hy.out, hxy]) HNo.out)
        subst hR
        clear hxy
        go_wp2_with fail
        refine wp_region_grew (by kernel_rfl) (by kernel_rfl) ?_
        repeat (first | go_big_quiet_skip | (go_big_quiet_want; go_big_quiet_op; (first | go_big_quiet_on | go_big_quiet_call ((with_reducible first | exact ext_call _ (HSm.out _))))))
        refine wpQuiet_nil ?_
        rintro _ ⟨xw, rfl⟩
        have hbx := bthen hb (Ext.h xw) hsz
        have hbz := bthen hbW hbx hbW.size
        obtain ⟨c0, c1, c2, c3, cf⟩ := RvAt.cells (Arr.below HP4.out (by omega) hbx)
        obtain ⟨r0, r1, r2, r3, rf⟩ := RvAt.cells (Arr.below HQ4.out (by omega) hbx)
        obtain ⟨n0, n1, n2, n3, nf⟩ := RvAt.cells (Arr.below HN4.out (by omega) hbx)
        have hz6 : w.heap.size + 1 < xw.W.heap.size := by have := hbx.size; omega
        clear g0 hb hbx
        go_wp2
        all_goals (
          (try go_wp2)
          (try simp only [Exit.inBlock, Exit.then])
          refine bodyPost_ret (v := .tuple #[.agg #[.string s, .int .i64 (jT), .int .i64 (T.a), .int .i64 (T.e)], .int .i64 (lo + (q : Int))]) ?_ rfl ⟨(by rw [HJ.out]), by (repeat' (first | (with_reducible exact Below.refl _ _) | (with_reducible assumption) | (with_reducible refine below_drewN ?_ _) | (with_reducible refine Below.alloc ?_ ?_ _) | (with_reducible refine Below.drew ?_) | (with_reducible refine Below.setCell ?_ ?_ _) | go_size))⟩
          rw [results_cell_r2 rfl]
          go_simp)
      · have e : ((strB x).toList == (strB y).toList) = false := by
          rw [beq_eq_false_iff_ne]
          intro h
          rw [ByteArray.toList_eq, ByteArray.toList_eq, strB_data, strB_data] at h
          exact hxy h
        go_wp2_with fail
        refine wp_region_grew (by kernel_rfl) (by kernel_rfl) ?_
        repeat (first | go_big_quiet_skip | (go_big_quiet_want; go_big_quiet_op; (first | go_big_quiet_on | go_big_quiet_call ((with_reducible first | exact ext_call _ (HSm.out _))))))
        refine wpQuiet_nil ?_
        rintro _ ⟨xw, rfl⟩
        have hbx := bthen hb (Ext.h xw) hsz
        go_wp2
        go_roundw
        case rel =>
          refine ⟨q + 1, by omega, by go_num, ?_, hbx⟩
          intro j hj hjx
          rcases Nat.lt_or_ge j q with h | h
          · exact HNo.out j h hjx
          · obtain rfl : j = q := by omega
            rw [Hy.out] at hjx
            cases hjx
            exact hxy rfl
        case measure => simp [intOf]; omega
    · obtain rfl : q = zs.length := by omega
      have hR := HR1.out (HW2.out HNo.out)
      subst hR
      have hbz := bthen hbW hb hbW.size
      obtain ⟨c0, c1, c2, c3, cf⟩ := RvAt.cells (Arr.below HP4.out (by omega) hb)
      have HQ5 := Lib.hid (Arr.below HQ4.out (by omega) hb)
      have hz6 : w.heap.size + 1 < wr.heap.size := by omega
      dsimp only
      rw [HX.out]
      clear hb
      go_wp2_with fail
      refine (HF6.out _).mono ?_
      rintro e w5 ⟨rfl, hb5⟩
      obtain ⟨r0, r1, r2, r3, rf⟩ := RvAt.cells (Arr.below HQ5.out (by omega) hb5)
      have hbx := bthen hbz hb5 hbz.size
      have hz7 : w.heap.size + 1 < w5.heap.size := by have := hb5.size; omega
      clear hb5 c0 c1 c2 c3 cf
      go_wp2
      all_goals (
        (try go_wp2)
        (try simp only [Exit.inBlock, Exit.then])
        refine bodyPost_ret (v := .tuple #[.agg #[.string s, .int .i64 (k), .int .i64 (F.a), .int .i64 (F.e)], .int .i64 0]) ?_ rfl ⟨(by rw [HX.out]), by (repeat' (first | (with_reducible exact Below.refl _ _) | (with_reducible assumption) | (with_reducible refine below_drewN ?_ _) | (with_reducible refine Below.alloc ?_ ?_ _) | (with_reducible refine Below.drew ?_) | (with_reducible refine Below.setCell ?_ ?_ _) | go_size))⟩
        rw [results_cell_r2 rfl]
        go_simp)
end
end Go.Proofs.YtpfcgjneeboamaaDoor
