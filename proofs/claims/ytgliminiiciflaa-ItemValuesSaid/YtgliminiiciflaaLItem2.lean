/- The law ItemValues: its walk. -/
import Derived.Test.YtgliminiiciflaaLItem
import Derived.Test.YtgliminiiciflaaWWide2
import Derived.Test.YtgliminiiciflaaWRef04
import Derived.Deep.AppendLies
import Derived.Deep.RegionLaw
import Derived.Deep.RegionHeld3
import Derived.ChangeKeysEq
import Derived.DeepKeys
namespace Go.Proofs.Ytgliminiiciflaa
open Go.RowKit
set_option linter.unusedSimpArgs false
set_option linter.unusedVariables false

theorem eql_wide (a0 a1 a2 a3 a4 a5 a6 : Int) (w : World) : (binOp .eql 70 (.agg #[.int .u64 a0, .int .u64 a1, .int .u64 a2, .int .u64 a3, .int .u64 a4, .int .u64 a5, .int .u64 a6]) (.agg #[.int .u64 a0, .int .u64 a1, .int .u64 a2, .int .u64 a3, .int .u64 a4, .int .u64 a5, .int .u64 a6])).run Try.prog w = .ok (.bool true) w := by
  obtain ⟨i, hi⟩ := info_of_underlying Try.underlying54
  have hc : Try.prog.cellsOf 54 = 1 := by kernel_rfl
  have hr : List.range 7 = [0, 1, 2, 3, 4, 5, 6] := rfl
  rw [run_eql_struct, run_equalIn_array w 9999 _ _ Try.underlying70 hi, hc, hr]
  simp [Op.eqItems, go_sem]

set_option maxHeartbeats 1000000 in
/-- Ints at two slices of the same numbers. -/
theorem ints_same (A B : Option Addr) (n c d : Nat) (l : List Int) (w : World) (hA : RdInts w A n l) (hB : RdInts w B n l) (hn : n ≤ 9223372036854775806) :
    Calls Try.prog 46 #[.slice A n c, .slice B n d] w (RetN (.bool true) w) := by
  have HA := Lib.hid hA
  have HB := Lib.hid hB
  clear hA hB
  go_enter Try.func46, Try.ntmps46
  go_wp2
  go_loopw [5] (fun i wr => ∃ k j : Nat, k ≤ n ∧ i = .int .i64 k ∧ wr = w.drewN j) (fun i _ => n - (intOf i).toNat)
  case atStart => exact ⟨0, 0, Nat.zero_le _, rfl, rfl⟩
  case round =>
    obtain ⟨k, j, hk, rfl, rfl⟩ := hrel
    by_cases hlt : k < n
    · obtain ⟨b, o, x, rfl, _, hx, c0⟩ := RdInts.at_ HA.out hlt
      obtain ⟨b', o', y, rfl, _, hy, c0'⟩ := RdInts.at_ HB.out hlt
      obtain rfl : x = y := by rw [hx] at hy; injection hy
      have hlt' : (k : Int) < (n : Int) := by omega
      clear hx hy
      go_wp2
      go_quiet (fail)
      go_wp2
      go_roundw
      case rel => exact ⟨k + 1, _, by omega, by go_num, rfl⟩
      case measure => simp [intOf]; omega
    · obtain rfl : k = n := by omega
      go_wp2
      go_ret
      exact ⟨rfl, _, rfl⟩

theorem refVal_len {lo hi : Int} {l : List It} {n : Nat} (h : l.length = n) (hn : n ≤ 100000) : (refVal l lo hi).length ≤ 1000000000 := by
  rw [← val_eq]
  have h1 := rawL_len lo hi l
  have h2 := compact_len ((rawL lo hi l).mergeSort fun x y => decide (x ≤ y))
  rw [sortL_len] at h2
  unfold valL
  omega

set_option maxRecDepth 20000 in
set_option maxHeartbeats 8000000 in
theorem itemValues_any (A : Option Addr) (n c : Nat) (l : List It) (x0 x1 : Int) (w : World) (hA : RdIts w A n l) (hn : n ≤ 9223372036854775807) (h0 : In64 x0) (h1 : In64 x1) :
    Calls Try.prog 9 #[.slice A n c, .agg #[.int .i64 x0, .int .i64 x1]] w (Ret (.bool true) w) := by
  have HLV := Lib.hid (fun W => lives12_any W)
  by_cases hbig : 30 < n
  · have hbig' : (30 : Int) < (n : Int) := by omega
    clear hA
    go_enter Try.func9, Try.ntmps9
    go_wp2_with fail
    refine (HLV.out _).mono ?_
    rintro e w1 ⟨rfl, hb1⟩
    go_wp2
    go_ret
    exact ⟨rfl, ((Below.refl _ w).alloc (Nat.le_refl _) _).trans (hb1.mono (by simp))⟩
  · have hbig' : ¬ (30 : Int) < (n : Int) := by omega
    obtain ⟨i0, hi0, hz0, hz1, hz2⟩ := info_parts info_int
    have HI0 := Lib.hid hi0
    have HZ0 := Lib.hid hz0
    have HZ1 := Lib.hid hz1
    have HZ2 := Lib.hid hz2
    clear hi0 hz0 hz1 hz2
    have HR := Lib.hid (fun W (hW : Below w.heap.size w W) => rvalues_any A n c l x0 x1 W (hA.below hW (Nat.le_refl _)) (by omega) h0 h1)
    have HV := Lib.hid (fun W (hW : Below w.heap.size w W) => values_any x0 x1 A n c l W (hA.below hW (Nat.le_refl _)) (by omega))
    have HM := Lib.hid (fun W (hW : Below w.heap.size w W) => imask_any x0 x1 A n c l W (hA.below hW (Nat.le_refl _)) (by omega))
    have HW := Lib.hid (fun W (hW : Below w.heap.size w W) => wide_any x0 x1 A n c l W (hA.below hW (Nat.le_refl _)) (by omega) h0)
    rw [val_eq] at HV HW
    have hlen := refVal_len (lo := x0) (hi := x1) hA.1 (by omega)
    have HBd : Hid (∀ x ∈ refVal l x0 x1, 0 ≤ x0 ∧ x0 ≤ x ∧ x ≤ 9999) := fun x hx => val_bd (by rw [val_eq]; exact hx)
    generalize refVal l x0 x1 = V at *
    obtain ⟨L, hL⟩ : ∃ L, L = V.map (· - x0) := ⟨_, rfl⟩
    rw [← hL] at HW
    have HL := Lib.hid hL
    have hLlen : L.length = V.length := by rw [hL]; simp
    have HIn := Lib.hid h0
    clear hA hL h0 h1
    go_enter Try.func9, Try.ntmps9
    go_wp2_with fail
    have hb0 : Below w.heap.size w (w.alloc (.cells #[.int .i64 x0, .int .i64 x1] 63)) := by (repeat' (first | (with_reducible exact Below.refl _ _) | (with_reducible assumption) | (with_reducible refine below_drewN ?_ _) | (with_reducible refine Below.alloc ?_ ?_ _) | (with_reducible refine Below.drew ?_) | (with_reducible refine Below.setCell ?_ ?_ _) | go_size))
    refine (HR.out _ hb0).mono ?_
    rintro e w1 ⟨v, rfl, hown, hb1⟩
    have g0 : w1.cell? ⟨w.heap.size, 0, none⟩ = some (.int .i64 x0) := (hb1.cell (p := ⟨_, 0, none⟩) (by simp)).trans (by simp [go_sem])
    have g1 : w1.cell? ⟨w.heap.size, 1, none⟩ = some (.int .i64 x1) := (hb1.cell (p := ⟨_, 1, none⟩) (by simp)).trans (by simp [go_sem])
    have hsz1 : w.heap.size < w1.heap.size := by have := hb1.size; simp at this; omega
    have hb01 : Below w.heap.size w w1 := hb0.trans (hb1.mono (by simp))
    obtain ⟨A', c', rfl, hc1, hc2, hrd, -⟩ := OwnInts.rd hown
    obtain ⟨m, hm⟩ : ∃ m, m = V.length := ⟨_, rfl⟩
    have HVL : Hid (V.length = m) := hm.symm
    rw [← hm] at hrd hc1 hlen hLlen ⊢
    have HRD := Lib.hid hrd
    have HLL := Lib.hid hLlen
    clear hm hown hrd hb1 hb0 HR hLlen
    go_wp2
    go_loopw [6, 7] (fun v i wr => ∃ (vo : Value) (k : Nat), vo = v ∧ k ≤ m ∧ i = .int .i64 k ∧ Hid (OwnInts wr w1.heap.size vo ((V.take k).map (· - x0))) ∧ (wr.cell? ⟨w.heap.size, 0, none⟩ = some (.int .i64 x0) ∧ wr.cell? ⟨w.heap.size, 1, none⟩ = some (.int .i64 x1)) ∧ Below w1.heap.size w1 wr) (fun _ i _ => m - (intOf i).toNat)
    case atStart => exact ⟨_, 0, rfl, Nat.zero_le _, by go_num, World.ownsRow_nil _ _ _ _, ⟨g0, g1⟩, Below.refl _ _⟩
    case round =>
      have gA := g0
      have gB := g1
      clear g0 g1
      obtain ⟨vo, k, rfl, hk, rfl, HO, ⟨g0, g1⟩, hb⟩ := hrel
      have hsz := hb.size
      by_cases hlt : k < m
      · obtain ⟨b, o, x, rfl, hbl, hx, c0⟩ := RdInts.at_ (HRD.out.below hb (Nat.le_refl _)) hlt
        have hlt' : (k : Int) < (m : Int) := by omega
        obtain ⟨b0, b1, b2⟩ := HBd.out x (List.mem_of_getElem? hx)
        have hts : V.take (k + 1) = V.take k ++ [x] := by rw [List.take_add_one, hx]; rfl
        have hS1 : (V.take (k + 1)).map (· - x0) = (V.take k).map (· - x0) ++ [x - x0] := by rw [hts, List.map_append]; rfl
        have hln : ((V.take k).map (· - x0)).length ≤ m := by simp; omega
        have HSN : Hid (((V.take k).map (· - x0)).map (Value.int .i64) ++ [.int .i64 (x - x0)] = ((V.take (k + 1)).map (· - x0)).map (Value.int .i64)) := by
          show _ = _
          rw [hS1]; simp
        have HNL : Hid (((V.take (k + 1)).map (· - x0)).length = ((V.take k).map (· - x0)).length + 1) := by
          show _ = _
          rw [hS1]; simp
        obtain ⟨X0, hX0⟩ : ∃ X, X = (V.take k).map (· - x0) := ⟨_, rfl⟩
        obtain ⟨X1, hX1⟩ : ∃ X, X = (V.take (k + 1)).map (· - x0) := ⟨_, rfl⟩
        rw [← hX0] at HO HSN HNL hln
        rw [← hX1] at HSN HNL
        have HX1 := Lib.hid hX1
        have hwr : IntKind.i64.wrap (x - x0) = x - x0 := wrap64_of (by omega) (by omega)
        clear hX0 hX1 hS1 hts hx
        go_wp2
        have hi0 := HI0.out
        have hz0 := HZ0.out
        have hz1 := HZ1.out
        have hz2 := HZ2.out
        have s1 : Hid (∀ t, (wr.alloc (.cells #[.int .i64 (x - x0)] t)).drew.ownsRow w1.heap.size 3 1 vo X0.length (X0.map (Value.int .i64))) := fun t => HO.out.alloc _
        have s2 : Hid (∀ t j u, [Value.int .i64 (x - x0)][j]? = some u → (wr.alloc (.cells #[.int .i64 (x - x0)] t)).drew.cell? ((⟨wr.heap.size, 0, none⟩ : Addr).add j) = some u) := by
          intro t j u hu
          rcases j with _ | j
          · simp at hu; subst hu
            exact cell_new (w := wr) rfl rfl
          · simp at hu
        have s3 : ∀ u ∈ [Value.int .i64 (x - x0)], u.oneCell' = true := by intro u hu; simp at hu; subst hu; rfl
        have s4 : X0.length + 1 ≤ maxLen := by simp only [maxLen]; omega
        have s5 : (X0.length + 1) * 8 ≤ 140737488355328 := by omega
        have s6 : ∀ t, w1.heap.size ≤ (wr.alloc (.cells #[.int .i64 (x - x0)] t)).drew.heap.size := by intro t; simp; omega
        have S3 := Lib.hid s3
        have S4 := Lib.hid s4
        have S5 := Lib.hid s5
        have S6 := Lib.hid s6
        clear s3 s4 s5 s6
        go_region_law (refine step_append_lies _ rfl (.tmp 24) (.tmp 32) 64 rfl w1.heap.size 3 i0 (.int .i64 0) 1 8 Try.underlying64 hi0 hz0 hz1 hz2 rfl (by decide) vo X0.length (X0.map (Value.int .i64)) (by simp [Act.eval, Act.put]) (s1.out _) ⟨wr.heap.size, 0, none⟩ 1 1 [.int .i64 (x - x0)] (by simp [Act.eval, Act.put]) rfl (s2.out _) S3.out (by decide) S4.out S5.out (S6.out _) _ rfl ?_; intro g cap w' hown hg hlast hgs)
        · have HV2 : Hid (OwnInts w' w1.heap.size (.slice (some ⟨g, 0, none⟩) (X0.length + 1) cap) X1) := by
            show World.ownsRow _ _ _ _ _ _ _
            rw [HNL.out, ← HSN.out]
            exact hown
          have hbn : Below w1.heap.size w1 w' := by
            refine Below.grown ?_ hg (by simp; omega) ?_
            · exact Below.drew (hb.alloc (by omega) _)
            · intro b hb'
              rcases own_some HO.out with ⟨h1, _⟩ | ⟨g, cap, h1, h2, h3⟩
              · rw [h1] at hb'; simp [Value.ownBlock] at hb'
              · rw [h1] at hb'; simp [Value.ownBlock] at hb'; subst hb'; exact h2
          have g0' : w'.cell? ⟨w.heap.size, 0, none⟩ = some (.int .i64 x0) := (hbn.cell (p := ⟨_, 0, none⟩) hsz1).trans gA
          have g1' : w'.cell? ⟨w.heap.size, 1, none⟩ = some (.int .i64 x1) := (hbn.cell (p := ⟨_, 1, none⟩) hsz1).trans gB
          clear hown hg hi0 hz0 hz1 hz2 s1 s2
          (try go_wp2)
          go_roundw
          case rel => exact ⟨_, k + 1, rfl, by omega, by go_num, by rw [← HX1.out]; exact HV2.out, ⟨g0', g1'⟩, hbn⟩
          case measure => simp [intOf]; omega
        · have HV2 : Hid (OwnInts w' w1.heap.size (.slice (some ⟨g, 0, none⟩) (X0.length + 1) cap) X1) := by
            show World.ownsRow _ _ _ _ _ _ _
            rw [HNL.out, ← HSN.out]
            exact hown
          have hbn : Below w1.heap.size w1 w' := by
            refine Below.grown ?_ hg (by simp; omega) ?_
            · exact Below.drew (hb.alloc (by omega) _)
            · intro b hb'
              rcases own_some HO.out with ⟨h1, _⟩ | ⟨g, cap, h1, h2, h3⟩
              · rw [h1] at hb'; simp [Value.ownBlock] at hb'
              · rw [h1] at hb'; simp [Value.ownBlock] at hb'; subst hb'; exact h2
          have g0' : w'.cell? ⟨w.heap.size, 0, none⟩ = some (.int .i64 x0) := (hbn.cell (p := ⟨_, 0, none⟩) hsz1).trans gA
          have g1' : w'.cell? ⟨w.heap.size, 1, none⟩ = some (.int .i64 x1) := (hbn.cell (p := ⟨_, 1, none⟩) hsz1).trans gB
          clear hown hg hi0 hz0 hz1 hz2 s1 s2
          (try go_wp2)
          go_roundw
          case rel => exact ⟨_, k + 1, rfl, by omega, by go_num, by rw [← HX1.out]; exact HV2.out, ⟨g0', g1'⟩, hbn⟩
          case measure => simp [intOf]; omega
      · obtain rfl : k = m := by omega
        clear gA gB
        have hVt : (V.take k).map (· - x0) = L := by rw [List.take_of_length_le (by have := HVL.out; omega)]; exact HL.out.symm
        rw [hVt] at HO
        obtain ⟨A2, c2, hv, _, _, hrd2, _⟩ := OwnInts.rd HO.out
        rw [HLL.out] at hv hrd2
        subst hv
        have HF := Lib.hid hrd2
        have hz : w.heap.size < wr.heap.size := by omega
        have hbw : Below w.heap.size w wr := bthen hb01 hb hb01.size
        clear hVt hrd2 HO
        go_wp2_with fail
        refine (HV.out _ hbw).mono ?_
        rintro e w2 ⟨v2, rfl, hown2, hb2⟩
        obtain ⟨A3, c3, hv, _, _, hrd3, _⟩ := OwnInts.rd hown2
        rw [HVL.out] at hv hrd3
        subst hv
        obtain ⟨q1, q2⟩ := bcell hb2
        have hbw2 := bthen hbw hb2 hbw.size
        have HI2 := Lib.hid (ints_same A3 A' k c3 c' V w2 hrd3 (HRD.out.below (bthen hb hb2 hb.size) (Nat.le_refl _)) (by omega))
        clear hown2 hrd3
        go_wp2_with fail
        refine HI2.out.mono ?_
        rintro e w3 ⟨rfl, j, rfl⟩
        have hb23 : Below wr.heap.size wr (w2.drewN j) := below_drewN hb2 j
        obtain ⟨q3, q4⟩ := bcell hb23
        go_wp2_with fail
        refine (HM.out _ (bthen hbw hb23 hbw.size)).mono ?_
        rintro e w4 ⟨rfl, hb4⟩
        have hb24 := bthen hb23 hb4 hb23.size
        obtain ⟨q5, q6⟩ := bcell hb24
        have HRM := Lib.hid (rmaskOf_any A' k c' V w4 (HRD.out.below (bthen hb hb24 hb.size) (Nat.le_refl _)) (by omega))
        generalize maskL V = M at *
        go_wp2_with fail
        refine HRM.out.mono ?_
        rintro e w5 ⟨rfl, rfl⟩
        go_wp2_with fail
        refine (HW.out _ (bthen hbw hb24 hbw.size)).mono ?_
        rintro e w6 ⟨rfl, hb6⟩
        have hb26 := bthen hb24 hb6 hb24.size
        have HRW := Lib.hid (fun W (hW : Below wr.heap.size wr W) => rwideOf_any A2 k c2 L W (HF.out.below hW (Nat.le_refl _)) (by omega))
        unfold wideV at *
        have heq := eql_wide (wordL L 0) (wordL L 1) (wordL L 2) (wordL L 3) (wordL L 4) (wordL L 5) (wordL L 6)
        generalize wordL L 0 = a0 at *
        generalize wordL L 1 = a1 at *
        generalize wordL L 2 = a2 at *
        generalize wordL L 3 = a3 at *
        generalize wordL L 4 = a4 at *
        generalize wordL L 5 = a5 at *
        generalize wordL L 6 = a6 at *
        go_wp2_with fail
        refine (HRW.out _ hb26).mono ?_
        rintro e w7 ⟨rfl, hb7⟩
        have hb27 := bthen hb26 hb7 hb26.size
        go_wp2_with fail
        refine (HLV.out _).mono ?_
        rintro e w8 ⟨rfl, hb8⟩
        have hb28 := bthen hb27 hb8 hb27.size
        go_wp2
        go_ret
        exact ⟨rfl, bthen hbw hb28 hbw.size⟩
end Go.Proofs.Ytgliminiiciflaa
