/- The walk of the document's text of a line; the law CronshowShows. -/
import Derived.Test.YtgliminiiciflaaDoorWShow7
import Derived.Test.YtgliminiiciflaaDoorLShow
namespace Go.Proofs.YtgliminiiciflaaDoor
open Go.RowKit
set_option linter.unusedSimpArgs false
set_option linter.unusedVariables false

theorem lineT_take_len {l : Nat → List It} (h : ∀ k, ∀ it ∈ l k, it.wf) (hn : ∀ k, k < 5 → (l k).length ≤ 1000) (q : Nat) : (lineT ((rowsOf l).take q)).length ≤ 600000 := by
  have := join_len (((rowsOf l).take q).map fieldT) [32] 101000 (by
    intro x hx
    obtain ⟨y, hy, rfl⟩ := List.mem_map.1 hx
    obtain ⟨k, hk, rfl⟩ := List.mem_map.1 (List.mem_of_mem_take hy)
    have h1 := fieldT_len (h k)
    have h2 := hn k (List.mem_range.1 hk)
    omega)
  have e : (((rowsOf l).take q).map fieldT).length ≤ 5 := by rw [List.length_map, List.length_take]; have : (rowsOf l).length = 5 := rfl; omega
  have e2 : (((rowsOf l).take q).map fieldT).length * (101000 + 1) ≤ 5 * (101000 + 1) := Nat.mul_le_mul_right _ e
  unfold lineT
  simp only [List.length_cons, List.length_nil] at this
  omega

set_option maxRecDepth 20000 in
set_option maxHeartbeats 1000000 in
theorem rshow_any (A : Nat → Option Addr) (n c : Nat → Nat) (l : Nat → List It) (w : World) (hA : RdLine w A n l) (hn : ∀ k, n k ≤ 200) (hwf : ∀ k, ∀ it ∈ l k, it.wf) :
    Calls Tryd.prog 18 #[crV A n c] w (Ret (.string (strB (lineT (rowsOf l)))) w) := by
  have HF := Lib.hid (fun k hk W => rfield_in k hk A n c W)
  have HT := Lib.hid (fun k (hk : k < 5) W (hb : Below w.heap.size w W) => rfield_any (A k) (n k) (c k) (l k) W ((hA k hk).below hb (Nat.le_refl _)) (by have := hn k; omega) (hwf k))
  have hl : ∀ k, k < 5 → (l k).length ≤ 1000 := fun k hk => by rw [(hA k hk).1]; have := hn k; omega
  have HLen := Lib.hid (fun q => lineT_take_len hwf hl q)
  have HFl : Hid (∀ k, k < 5 → (strB (fieldT (l k))).size ≤ 101000) := fun k hk => by
    rw [strB_size]
    have h1 := fieldT_len (hwf k)
    have h2 := hl k hk
    omega
  clear hA hn hwf hl
  go_enter Tryd.func18, Tryd.ntmps18
  go_wp2
  go_loopw [3, 4] (fun s i wr => ∃ (S : ByteArray) (k : Nat), s = .string S ∧ k ≤ 5 ∧ i = .int .i64 k ∧ Hid (S = strB (lineT ((rowsOf l).take k))) ∧ Hid (LineAt wr w.heap.size 0 A n c) ∧ Below w.heap.size w wr ∧ w.heap.size < wr.heap.size) (fun _ i _ => 5 - (intOf i).toNat)
  case atStart => exact ⟨_, 0, rfl, by omega, rfl, rfl, ⟨by simp [go_sem], by simp [go_sem], by simp [go_sem], by simp [go_sem], by simp [go_sem]⟩, by (repeat' (first | (with_reducible exact Below.refl _ _) | (with_reducible assumption) | (with_reducible refine below_drewN ?_ _) | (with_reducible refine Below.alloc ?_ ?_ _) | (with_reducible refine Below.drew ?_) | (with_reducible refine Below.setCell ?_ ?_ _) | go_size)), by simp⟩
  case round =>
    obtain ⟨S, k, rfl, hk, rfl, H, HLr, hb, hz1⟩ := hrel
    have hsz := hb.size
    have hzS : S.size ≤ 600000 := by rw [H.out, strB_size]; exact HLen.out k
    by_cases h5 : k < 5
    · have h5' : (k : Int) < 5 := by omega
      obtain ⟨c0, c1, c2, c3, c4⟩ := HLr.out
      simp only [Nat.zero_add] at c1 c2 c3 c4
      have hzT := HFl.out k h5
      have HTk := Lib.hid (lineT_take (l := l) h5)
      have HTT := HT
      obtain ⟨T, hT⟩ : ∃ T, T = strB (fieldT (l k)) := ⟨_, rfl⟩
      have HTn : Hid (∀ W, Below w.heap.size w W → Calls Tryd.prog 14 #[.slice (A k) (n k) (c k)] W (Ret (.string T) W)) := by
        intro W hW; rw [hT]; exact HT.out k h5 W hW
      rw [← hT] at hzT
      have HTD : Hid (T.data.toList = fieldT (l k)) := by show _ = _; rw [hT]; exact strB_data _
      clear hT
      by_cases h0 : k = 0
      · subst h0
        go_wp2_with fail
        refine (HF.out 0 h5 _).mono ?_
        rintro e w2 ⟨rfl, hb3⟩
        have hb4 := bthen hb hb3 hsz
        have HL2 := Lib.hid (LineAt.below HLr.out (fun o => hb3.cell (p := ⟨_, o, none⟩) hz1))
        clear c0 c1 c2 c3 c4
        go_wp2_with fail
        refine (HTn.out _ hb4).mono ?_
        rintro e w3 ⟨rfl, hb5⟩
        have hb6 := bthen hb4 hb5 hb4.size
        have HL3 := Lib.hid (LineAt.below HL2.out (fun o => hb5.cell (p := ⟨_, o, none⟩) (Nat.lt_of_lt_of_le hz1 hb3.size)))
        have hz3 := Nat.lt_of_lt_of_le hz1 (Nat.le_trans hb3.size hb5.size)
        clear hb3 hb5
        go_wp2
        go_roundw
        case rel =>
          refine ⟨_, 1, rfl, by omega, rfl, ?_, HL3.out, hb6, hz3⟩
          refine strB_of ?_
          rw [HTk.out, str_app, HTD.out, H.out]; rfl
        case measure => simp [intOf]
      · have h0' : (0 : Int) < (k : Int) := by omega
        have HH : Hid (S.data.toList = lineT ((rowsOf l).take k)) := by show _ = _; rw [H.out]; exact strB_data _
        go_wp2_with fail
        refine (HF.out k h5 _).mono ?_
        rintro e w2 ⟨rfl, hb3⟩
        have hb4 := bthen hb hb3 hsz
        have HL2 := Lib.hid (LineAt.below HLr.out (fun o => hb3.cell (p := ⟨_, o, none⟩) hz1))
        clear c0 c1 c2 c3 c4
        go_wp2_with fail
        refine (HTn.out _ hb4).mono ?_
        rintro e w3 ⟨rfl, hb5⟩
        have hb6 := bthen hb4 hb5 hb4.size
        have HL3 := Lib.hid (LineAt.below HL2.out (fun o => hb5.cell (p := ⟨_, o, none⟩) (Nat.lt_of_lt_of_le hz1 hb3.size)))
        have hz3 := Nat.lt_of_lt_of_le hz1 (Nat.le_trans hb3.size hb5.size)
        clear hb3 hb5
        go_wp2
        go_roundw
        case rel =>
          refine ⟨_, k + 1, rfl, by omega, by go_num, ?_, HL3.out, hb6, hz3⟩
          refine strB_of ?_
          rw [HTk.out, if_neg h0, str_app, str_app, HTD.out, HH.out]
        case measure => simp [intOf]; omega
    · obtain rfl : k = 5 := by omega
      have HF2 : Hid (S = strB (lineT (rowsOf l))) := H.out
      go_wp2
      go_ret
      exact ⟨rets_eq HF2.out, hb⟩

theorem chk_cases (l : Nat → List It) : chk l = (5, 0) ∧ (∀ k, k < 5 → faultI k (l k) = 0) ∨ (chk l).2 ≠ 0 := by
  by_cases h : ∀ k, k < 5 → faultI k (l k) = 0
  · exact .inl ⟨chk_all h, h⟩
  · right
    have h0 : faultI 0 (l 0) ≠ 0 ∨ faultI 1 (l 1) ≠ 0 ∨ faultI 2 (l 2) ≠ 0 ∨ faultI 3 (l 3) ≠ 0 ∨ faultI 4 (l 4) ≠ 0 := by
      refine Classical.byContradiction fun hh => h fun k hk => ?_
      simp only [not_or, Decidable.not_not] at hh
      obtain ⟨a0, a1, a2, a3, a4⟩ := hh
      obtain rfl | rfl | rfl | rfl | rfl : k = 0 ∨ k = 1 ∨ k = 2 ∨ k = 3 ∨ k = 4 := by omega
      all_goals assumption
    unfold chk chkN chkN chkN chkN chkN chkN
    simp only [Nat.sub_self, Nat.reduceSub]
    split
    · split
      · split
        · split
          · split
            · simp_all
            · assumption
          · assumption
        · assumption
      · assumption
    · assumption
set_option maxRecDepth 20000 in
set_option maxHeartbeats 1000000 in
theorem cronshowShows_any (A : Nat → Option Addr) (n c : Nat → Nat) (l : Nat → List It) (w : World) (hA : RdLine w A n l) (hn : ∀ k, n k ≤ 9223372036854775807) (hnil : ∀ k, A k = none → n k = 0) (hwf : ∀ k, ∀ it ∈ l k, it.wf) (hw : Pow w) (hout : ∀ k, 5 ≤ k → n k = 0) :
    Calls Tryd.prog 4 #[crV A n c] w (Ret (.bool true) w) := by
  have HV := Lib.hid (fun W (hb : Below w.heap.size w W) => lives26_any W (tab_below hw hb))
  have HG := Lib.hid (fun W => great_any A n c W)
  have HK := Lib.hid (fun W (hb : Below w.heap.size w W) => rcheck_any A n c l W (hA.below hb (Nat.le_refl _)) hn)
  cases hg : greatB n with
  | true =>
    rw [hg] at HG
    clear hA hn hnil hwf hw hg HK
    go_enter Tryd.func4, Tryd.ntmps4
    go_wp2_with fail
    refine (HG.out _).mono ?_
    rintro e w1 ⟨rfl, hb1⟩
    have hb2 : Below w.heap.size w w1 := ((Below.refl _ w).alloc (Nat.le_refl _) _).trans (hb1.mono (by simp))
    go_wp2_with fail
    refine (HV.out _ hb2).mono ?_
    rintro e w2 ⟨rfl, hb3⟩
    go_wp2
    go_ret
    exact ⟨rfl, bthen hb2 hb3 hb2.size⟩
  | false =>
    rw [hg] at HG
    have hn2 : ∀ k, n k ≤ 200 := fun k => by
      rcases Nat.lt_or_ge k 5 with h | h
      · exact great_le hg k h
      · rw [hout k h]; omega
    by_cases hc : (chk l).2 = 0
    · have hc5 : chk l = (5, 0) := by
        rcases chk_cases l with h | h
        · exact h.1
        · exact absurd hc h
      have HS := Lib.hid (fun W (hb : Below w.heap.size w W) => show_ok A n c l W (hA.below hb (Nat.le_refl _)) hn2 hnil hwf (tab_below hw hb) hc5)
      have HR := Lib.hid (fun W (hb : Below w.heap.size w W) => rshow_any A n c l W (hA.below hb (Nat.le_refl _)) hn2 hwf)
      rw [hc5] at HK
      clear hA hn hnil hwf hw hg hc hc5 hn2 hout
      generalize strB (lineT (rowsOf l)) = T at HS HR
      go_enter Tryd.func4, Tryd.ntmps4
      go_wp2_with fail
      refine (HG.out _).mono ?_
      rintro e w1 ⟨rfl, hb1⟩
      obtain ⟨hq1, hq2⟩ := bcell hb1
      have hb2 : Below w.heap.size w w1 := ((Below.refl _ w).alloc (Nat.le_refl _) _).trans (hb1.mono (by simp))
      have hz1 : w.heap.size < w1.heap.size := by have := hb1.size; simp at this; omega
      have HL : Hid (LineAt w1 w.heap.size 0 A n c) := ⟨by rw [hq1 _ _ (by simp)]; simp [go_sem], by rw [hq1 _ _ (by simp)]; simp [go_sem], by rw [hq1 _ _ (by simp)]; simp [go_sem], by rw [hq1 _ _ (by simp)]; simp [go_sem], by rw [hq1 _ _ (by simp)]; simp [go_sem]⟩
      clear hb1 hq1 hq2
      obtain ⟨c0, c1, c2, c3, c4⟩ := HL.out
      simp only [Nat.zero_add] at c1 c2 c3 c4
      go_wp2_with fail
      refine (HS.out _ hb2).mono ?_
      rintro e w2 ⟨rfl, hb3⟩
      have hb4 := bthen hb2 hb3 hb2.size
      have HL2 := Lib.hid (LineAt.below HL.out (fun o => hb3.cell (p := ⟨_, o, none⟩) hz1))
      have hz2 := Nat.lt_of_lt_of_le hz1 hb3.size
      clear c0 c1 c2 c3 c4 hb3
      obtain ⟨c0, c1, c2, c3, c4⟩ := HL2.out
      simp only [Nat.zero_add] at c1 c2 c3 c4
      go_wp2_with fail
      refine (HK.out _ hb4).mono ?_
      rintro e w3 ⟨rfl, hb5⟩
      have hb6 := bthen hb4 hb5 hb4.size
      have HL3 := Lib.hid (LineAt.below HL2.out (fun o => hb5.cell (p := ⟨_, o, none⟩) hz2))
      clear c0 c1 c2 c3 c4 hb5
      obtain ⟨c0, c1, c2, c3, c4⟩ := HL3.out
      simp only [Nat.zero_add] at c1 c2 c3 c4
      go_wp2_with fail
      refine (HR.out _ hb6).mono ?_
      rintro e w4 ⟨rfl, hb7⟩
      have hb8 := bthen hb6 hb7 hb6.size
      clear c0 c1 c2 c3 c4 hb7
      go_wp2_with fail
      refine (HV.out _ hb8).mono ?_
      rintro e w5 ⟨rfl, hb9⟩
      go_wp2
      go_ret
      exact ⟨rfl, bthen hb8 hb9 hb8.size⟩
    · have HS := Lib.hid (fun W (hb : Below w.heap.size w W) => show_bad A n c l W (hA.below hb (Nat.le_refl _)) hn hc)
      generalize (chk l).1 = q1 at HK
      generalize (chk l).2 = q2 at HK HS hc
      have hc' : (q2 != 0) = true := by simpa using hc
      clear hA hn hnil hwf hw hg hc hn2 hout
      go_enter Tryd.func4, Tryd.ntmps4
      go_wp2_with fail
      refine (HG.out _).mono ?_
      rintro e w1 ⟨rfl, hb1⟩
      obtain ⟨hq1, hq2⟩ := bcell hb1
      have hb2 : Below w.heap.size w w1 := ((Below.refl _ w).alloc (Nat.le_refl _) _).trans (hb1.mono (by simp))
      have hz1 : w.heap.size < w1.heap.size := by have := hb1.size; simp at this; omega
      have HL : Hid (LineAt w1 w.heap.size 0 A n c) := ⟨by rw [hq1 _ _ (by simp)]; simp [go_sem], by rw [hq1 _ _ (by simp)]; simp [go_sem], by rw [hq1 _ _ (by simp)]; simp [go_sem], by rw [hq1 _ _ (by simp)]; simp [go_sem], by rw [hq1 _ _ (by simp)]; simp [go_sem]⟩
      clear hb1 hq1 hq2
      obtain ⟨c0, c1, c2, c3, c4⟩ := HL.out
      simp only [Nat.zero_add] at c1 c2 c3 c4
      go_wp2_with fail
      refine (HS.out _ hb2).mono ?_
      rintro e w2 ⟨rfl, hb3⟩
      have hb4 := bthen hb2 hb3 hb2.size
      have HL2 := Lib.hid (LineAt.below HL.out (fun o => hb3.cell (p := ⟨_, o, none⟩) hz1))
      clear c0 c1 c2 c3 c4 hb3
      obtain ⟨c0, c1, c2, c3, c4⟩ := HL2.out
      simp only [Nat.zero_add] at c1 c2 c3 c4
      go_wp2_with fail
      refine (HK.out _ hb4).mono ?_
      rintro e w3 ⟨rfl, hb5⟩
      have hb6 := bthen hb4 hb5 hb4.size
      clear c0 c1 c2 c3 c4 hb5
      go_wp2_with fail
      refine (HV.out _ hb6).mono ?_
      rintro e w4 ⟨rfl, hb7⟩
      go_wp2
      go_ret
      exact ⟨rfl, bthen hb6 hb7 hb6.size⟩
end Go.Proofs.YtgliminiiciflaaDoor
