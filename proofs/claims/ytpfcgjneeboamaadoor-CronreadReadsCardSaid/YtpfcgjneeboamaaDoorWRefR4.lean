/- The walks of package feriaref11: Number. -/
import Derived.Test.YtpfcgjneeboamaaDoorWRefR2
namespace Go.Proofs.YtpfcgjneeboamaaDoor
open Go.RowKit
set_option linter.unusedSimpArgs false
set_option linter.unusedVariables false

section
variable (s : ByteArray) (hs : s.size ≤ 1000000) (σ : PS) (hσ : OfR s σ) (w : World)
include hs hσ
set_option maxHeartbeats 2000000 in
theorem number_rf (m : Nat) (hm1 : 1 ≤ m) (hm : m ≤ 18) : Calls Tryd.prog 61 #[rvP s σ, .int .i64 (m : Int)] w (Ret (.tuple #[rvP s (numP s.size m σ).1, .int .i64 (numP s.size m σ).2.1, .bool (numP s.size m σ).2.2]) w) := by
  have HS := Lib.hid (fun W => some_rf s hs σ hσ W 1)
  have HL := Lib.hid (fun W => lacks_rf s σ hσ W)
  have HF := Lib.hid (fun p q W => fail_rf s σ p q W)
  have hcl : clsP 1 = digitP := rfl
  rw [hcl] at HS
  obtain ⟨k, hk, hl, ha⟩ := hσ.at_
  have hall := all_take digitP σ.l
  by_cases h0 : (someP digitP σ).2 = []
  · have hN : numP s.size m σ = (lackP s.size σ, 0, false) := by
      unfold numP lackP failP
      by_cases he : σ.e = 0
      · have h1 : σ.l.takeWhile digitP = [] := by unfold someP at h0; rw [if_pos he] at h0; exact h0
        rw [if_pos he, if_pos he]
        unfold numE
        rw [if_pos h1, if_neg (pLack_ne _), if_neg (pLack_ne _)]
      · rw [if_neg he, if_neg he]
    rw [hN]
    dsimp only
    rw [h0] at HS
    generalize (someP digitP σ).1 = T at *
    generalize lackP s.size σ = X at *
    have hE : Hid (strB [] = ⟨#[]⟩) := rfl
    rw [hE.out] at HS
    unfold tupR rvP rV at *
    rw [ha] at HS HL HF ⊢
    generalize atP s.size T = jT at *
    generalize atP s.size X = jX at *
    clear hl ha hσ hall h0 hN hE HF hcl
    go_enter Tryd.func61, Tryd.ntmps61
    go_wp2_with fail
    refine (HS.out _).mono ?_
    rintro e w1 ⟨rfl, hb1⟩
    obtain ⟨q0, q1, f0, f1⟩ := rv_cells s w hb1
    have c0 := q0 0 _ rfl
    have c1 := q0 1 _ rfl
    have c2 := q0 2 _ rfl
    have c3 := q0 3 _ rfl
    have r0 := q1 0 _ rfl
    have r1 := q1 1 _ rfl
    have r2 := q1 2 _ rfl
    have r3 := q1 3 _ rfl
    have hz1 : w.heap.size + 1 < w1.heap.size := by have := hb1.size; simp at this; omega
    have hz0 : w.heap.size < w1.heap.size := by omega
    have hbw : Below w.heap.size w w1 := (((Below.refl _ w).alloc (Nat.le_refl _) _).alloc (by simp) _).trans (hb1.mono (by simp; omega))
    clear q0 q1 hb1
    clear HS
    go_wp2_with fail
    refine (HL.out _).mono ?_
    rintro e w2 ⟨rfl, hb2⟩
    obtain ⟨hc2, hf2⟩ := bcell hb2
    have x0 := (hc2 (w.heap.size + 1) 0 (by simp; omega))
    have x1 := (hc2 (w.heap.size + 1) 1 (by simp; omega))
    have x2 := (hc2 (w.heap.size + 1) 2 (by simp; omega))
    have x3 := (hc2 (w.heap.size + 1) 3 (by simp; omega))
    have y0 := (hf2 (w.heap.size + 1) 0 (by simp; omega))
    have hz2 : w.heap.size + 1 < w2.heap.size := by have := hb2.size; simp at this; omega
    have hbx : Below w.heap.size w w2 := (hbw.alloc (by omega) _).trans (hb2.mono (by simp; omega))
    clear hb2
    clear HL
    go_wp2
    all_goals (
      (try go_wp2)
      (try simp only [Exit.inBlock, Exit.then])
      refine bodyPost_ret (v := .tuple #[.agg #[.string s, .int .i64 jX, .int .i64 X.a, .int .i64 X.e], .int .i64 0, .bool false]) ?_ rfl ⟨rfl, by (repeat' (first | (with_reducible exact Below.refl _ _) | (with_reducible assumption) | (with_reducible refine below_drewN ?_ _) | (with_reducible refine Below.alloc ?_ ?_ _) | (with_reducible refine Below.drew ?_) | (with_reducible refine Below.setCell ?_ ?_ _) | go_size))⟩
      rw [results_cell2 rfl]
      go_simp)
  · have he : σ.e = 0 := by
      by_cases he : σ.e = 0
      · exact he
      · exfalso; apply h0; unfold someP; rw [if_neg he]
    have hS : someP digitP σ = (⟨σ.l.dropWhile digitP, σ.a, 0⟩, σ.l.takeWhile digitP) := by unfold someP; rw [if_pos he]
    rw [hS] at HS h0
    dsimp only at HS h0
    have hT : OfR s ⟨σ.l.dropWhile digitP, σ.a, 0⟩ := .of_suf ((drop_suf _ _).trans hσ.suf)
    obtain ⟨j, hj, hlj, haj⟩ := hT.at_
    have htl : (strB (σ.l.takeWhile digitP)).size = (σ.l.takeWhile digitP).length := strB_size _
    have htd : (strB (σ.l.takeWhile digitP)).data.toList = σ.l.takeWhile digitP := strB_data _
    have hln : (σ.l.takeWhile digitP).length ≤ s.size := by
      have h1 := (List.takeWhile_prefix digitP (l := σ.l)).length_le
      have h2 := hσ.suf.length_le
      rw [len_data] at h2
      omega
    have hne : (σ.l.takeWhile digitP).length ≠ 0 := fun h => h0 (List.length_eq_zero_iff.1 h)
    have ht0 : (strB (σ.l.takeWhile digitP)).toList.isEmpty = false := by
      rw [ByteArray.toList_eq, htd]
      cases hq : σ.l.takeWhile digitP with
      | nil => exact absurd hq h0
      | cons a l => rfl
    have hmm1 : ¬ (m : Int) < 1 := by omega
    have hmm : ¬ (18 : Int) < (m : Int) := by omega
    by_cases hlong : m < (σ.l.takeWhile digitP).length
    · have hN : numP s.size m σ = (failP (k : Int) 4 σ, 0, false) := by
        unfold numP failP numE
        rw [if_pos he, if_neg h0, if_pos hlong, if_pos he, if_neg (by decide), ha]
        rfl
      rw [hN]
      dsimp only
      have HF2 := Lib.hid (fun W => HF.out (k : Int) 4 W)
      have hX : atP s.size (failP (k : Int) 4 σ) = (k : Int) := by rw [← ha]; unfold atP failP; split <;> rfl
      generalize failP (k : Int) 4 σ = X at *
      generalize strB (σ.l.takeWhile digitP) = t at *
      generalize (σ.l.takeWhile digitP).length = q at *
      have hlong' : (m : Int) < (t.size : Int) := by omega
      have htb : t.size ≤ 1000000 := by omega
      unfold tupR rvP rV at *
      rw [ha] at HS HF2 ⊢
      rw [haj] at HS
      dsimp only at HS
      rw [he] at HS HF2 ⊢
      rw [hX] at HF2 ⊢
      clear hl ha hσ hall h0 hN HF hcl HL hS hT hlj haj htd hln hX he hne htl hlong
      go_enter Tryd.func61, Tryd.ntmps61
      go_wp2_with fail
      refine (HS.out _).mono ?_
      rintro e w1 ⟨rfl, hb1⟩
      obtain ⟨q0, q1, f0, f1⟩ := rv_cells s w hb1
      have c0 := q0 0 _ rfl
      have c1 := q0 1 _ rfl
      have c2 := q0 2 _ rfl
      have c3 := q0 3 _ rfl
      have r0 := q1 0 _ rfl
      have r1 := q1 1 _ rfl
      have r2 := q1 2 _ rfl
      have r3 := q1 3 _ rfl
      have hz1 : w.heap.size + 1 < w1.heap.size := by have := hb1.size; simp at this; omega
      have hz0 : w.heap.size < w1.heap.size := by omega
      have hbw : Below w.heap.size w w1 := (((Below.refl _ w).alloc (Nat.le_refl _) _).alloc (by simp) _).trans (hb1.mono (by simp; omega))
      clear q0 q1 hb1
      clear HS
      go_wp2_with fail
      refine (HF2.out _).mono ?_
      rintro e w2 ⟨rfl, hb2⟩
      obtain ⟨hc2, hf2⟩ := bcell hb2
      have x0 := (hc2 (w.heap.size + 1) 0 (by simp; omega))
      have x1 := (hc2 (w.heap.size + 1) 1 (by simp; omega))
      have x2 := (hc2 (w.heap.size + 1) 2 (by simp; omega))
      have x3 := (hc2 (w.heap.size + 1) 3 (by simp; omega))
      have y0 := (hf2 (w.heap.size + 1) 0 (by simp; omega))
      have hz2 : w.heap.size + 1 < w2.heap.size := by have := hb2.size; simp at this; omega
      have hbx : Below w.heap.size w w2 := (hbw.alloc (by omega) _).trans (hb2.mono (by simp; omega))
      clear hb2
      clear HF2
      go_wp2
      all_goals (
        (try go_wp2)
        (try simp only [Exit.inBlock, Exit.then])
        refine bodyPost_ret (v := .tuple #[.agg #[.string s, .int .i64 k, .int .i64 X.a, .int .i64 X.e], .int .i64 0, .bool false]) ?_ rfl ⟨rfl, by (repeat' (first | (with_reducible exact Below.refl _ _) | (with_reducible assumption) | (with_reducible refine below_drewN ?_ _) | (with_reducible refine Below.alloc ?_ ?_ _) | (with_reducible refine Below.drew ?_) | (with_reducible refine Below.setCell ?_ ?_ _) | go_size))⟩
        rw [results_cell2 rfl]
        go_simp)
    · have hN : numP s.size m σ = (⟨σ.l.dropWhile digitP, σ.a, 0⟩, numOf (σ.l.takeWhile digitP), true) := by
        unfold numP numE
        rw [if_pos he, if_neg h0, if_neg hlong, if_pos rfl]
      rw [hN]
      dsimp only
      generalize ht : strB (σ.l.takeWhile digitP) = t at *
      generalize σ.l.takeWhile digitP = L at *
      have hlong' : ¬ (m : Int) < (t.size : Int) := by omega
      have htb : t.size ≤ 18 := by omega
      unfold tupR rvP rV at *
      rw [ha] at HS ⊢
      rw [haj] at HS ⊢
      dsimp only at HS ⊢
      rw [he] at HS ⊢
      have HAll := Lib.hid hall
      have HRL := Lib.hid htd
      have htl2 : t.data.toList.length = t.size := Array.length_toList
      clear hl ha hσ hall h0 hN HF hcl HL hS hT hlj haj htd hln he hne htl hlong ht
      go_enter Tryd.func61, Tryd.ntmps61
      go_wp2_with fail
      refine (HS.out _).mono ?_
      rintro e w1 ⟨rfl, hb1⟩
      obtain ⟨q0, q1, f0, f1⟩ := rv_cells s w hb1
      have c0 := q0 0 _ rfl
      have c1 := q0 1 _ rfl
      have c2 := q0 2 _ rfl
      have c3 := q0 3 _ rfl
      have r0 := q1 0 _ rfl
      have r1 := q1 1 _ rfl
      have r2 := q1 2 _ rfl
      have r3 := q1 3 _ rfl
      have hz1 : w.heap.size + 1 < w1.heap.size := by have := hb1.size; simp at this; omega
      have hz0 : w.heap.size < w1.heap.size := by omega
      have hbw : Below w.heap.size w w1 := (((Below.refl _ w).alloc (Nat.le_refl _) _).alloc (by simp) _).trans (hb1.mono (by simp; omega))
      clear q0 q1 hb1
      clear HS
      go_wp2
      go_loop [9, 10] (fun v i => ∃ q : Nat, q ≤ t.size ∧ i = .int .i64 q ∧ v = .int .i64 (numOf (t.data.toList.take q))) (fun _ i => t.size - (intOf i).toNat)
      case atStart => exact ⟨0, Nat.zero_le _, rfl, rfl⟩
      case round =>
        obtain ⟨q, hq, rfl, rfl⟩ := hrel
        by_cases hlt : q < t.size
        · have hx : t.data.toList[q]? = some t[q] := byte_at t q hlt
          have hd : digitP t[q] = true := HAll.out _ (HRL.out ▸ List.mem_of_getElem? hx)
          simp only [digitP, decide_eq_true_eq] at hd
          have hb1 : (48 : Int) ≤ (t[q].toNat : Int) := by omega
          have hb2 : (t[q].toNat : Int) ≤ 57 := by omega
          have hbd := numOf_bd (t.data.toList.take q) (fun c hc => HAll.out c (HRL.out ▸ List.mem_of_mem_take hc))
          rw [List.length_take_of_le (by omega)] at hbd
          have hp := pow_le17 (k := q) (by omega)
          have hs1 : t.data.toList.take (q + 1) = t.data.toList.take q ++ [t[q]] := by
            rw [List.take_add_one, hx]; rfl
          have HS1 : Hid (numOf (t.data.toList.take (q + 1)) = 10 * numOf (t.data.toList.take q) + (t[q].toNat : Int) - 48) := by
            show _ = _
            rw [hs1, numOf_snoc]; omega
          have hlt' : (q : Int) < (t.size : Int) := by omega
          have hn1 : 0 ≤ numOf (t.data.toList.take q) := hbd.1
          have hn2 : numOf (t.data.toList.take q) ≤ 100000000000000000 := by omega
          clear hx hd hbd hp hs1
          generalize hg : numOf (t.data.toList.take q) = nq at *
          clear hg
          go_wp2
          go_round
          case rel => exact ⟨q + 1, by omega, by go_num, by rw [HS1.out]⟩
          case measure => simp [intOf]; omega
        · obtain rfl : q = t.size := by omega
          have HE : Hid (t.data.toList.take t.size = L) := by
            show _ = _
            rw [List.take_of_length_le (by omega), HRL.out]
          rw [HE.out]
          go_wp2
          all_goals (
            (try go_wp2)
            (try simp only [Exit.inBlock, Exit.then])
            refine bodyPost_ret (v := .tuple #[.agg #[.string s, .int .i64 j, .int .i64 σ.a, .int .i64 0], .int .i64 (numOf L), .bool true]) ?_ rfl ⟨rfl, by (repeat' (first | (with_reducible exact Below.refl _ _) | (with_reducible assumption) | (with_reducible refine below_drewN ?_ _) | (with_reducible refine Below.alloc ?_ ?_ _) | (with_reducible refine Below.drew ?_) | (with_reducible refine Below.setCell ?_ ?_ _) | go_size))⟩
            rw [results_cell2 rfl]
            go_simp)
end
end Go.Proofs.YtpfcgjneeboamaaDoor
