/- The laws LexTakes and LexNone: their walks. -/
import Derived.Test.YtgliminiiciflaaWLexNil
namespace Go.Proofs.Ytgliminiiciflaa
open Go.RowKit
set_option linter.unusedSimpArgs false
set_option linter.unusedVariables false

def exS : ByteArray := ⟨#[49, 50, 32, 97, 98]⟩
theorem exS_num : someK digitP exS 0 0 = 2 ∧ numB exS 0 0 3 = true ∧ numOf (runL digitP exS 0 0) = 12 := by decide +kernel
theorem exS_blank : someK blankP exS 2 0 = 3 := by decide +kernel
theorem exS_word : someK letterP exS 3 0 = 5 := by decide +kernel
theorem exS_ab : exS.extract 3 5 = ⟨#[97, 98]⟩ := by decide +kernel
theorem exS_one : (exS.extract 2 3).size = 1 := by decide +kernel
theorem exS_done : doneB exS 5 0 = true := by decide +kernel

set_option maxRecDepth 100000 in
set_option maxHeartbeats 400000 in
theorem lives11_any (w : World) : Calls Try.prog 14 #[] w (Ret (.bool true) w) := by
  have HN := Lib.hid (new_any exS w (by decide))
  rw [show newBad exS = 0 from by decide, show newE exS = 0 from by decide] at HN
  have H1 := Lib.hid (fun W b (h : Rdr W b exS 0 0 0) => number_any b exS 0 0 0 3 W h (by decide) (by decide))
  simp only [exS_num.1, exS_num.2.1, exS_num.2.2, if_true] at H1
  have H2 := Lib.hid (fun W b (h : Rdr W b exS 2 0 0) => blanks_any b exS 2 0 0 W h (by decide) (by decide))
  rw [exS_blank, exS_one] at H2
  have H3 := Lib.hid (fun W b (h : Rdr W b exS 3 0 0) => word_any b exS 3 0 0 W h (by decide) (by decide))
  rw [exS_word, exS_ab] at H3
  have H4 := Lib.hid (fun W b (h : Rdr W b exS 5 0 0) => done_any b exS 5 0 0 W h)
  rw [exS_done] at H4
  go_enter Try.func14, Try.ntmps14
  go_wp2_with fail
  refine HN.out.mono ?_
  rintro x w1 ⟨b, hbl, rfl, h1, hb1⟩
  go_wp2_with fail
  refine (H1.out _ _ h1).mono ?_
  rintro x w2 ⟨rfl, h2, g2⟩
  go_wp2_with fail
  refine (H2.out _ _ h2).mono ?_
  rintro x w3 ⟨rfl, h3, g3⟩
  go_wp2_with fail
  refine (H3.out _ _ h3).mono ?_
  rintro x w4 ⟨rfl, h4, g4⟩
  go_wp2_with fail
  refine (H4.out _ _ h4).mono ?_
  rintro x w5 ⟨rfl, q, rfl⟩
  go_wp2
  go_ret
  exact ⟨rfl, Chg.below hb1 (((g2.trans g3).trans g4).drewN q) hbl hb1.size⟩

theorem rdBytes_one (w : World) (b : Nat) (x : UInt8) (hb : b < w.heap.size) (h : w.cell? ⟨b, 0, none⟩ = some (.int .u8 (x.toNat : Int))) : RdBytes w (some ⟨b, 0, none⟩) 1 [x] :=
  ⟨rfl, fun _ => ⟨b, 0, rfl, hb, fun i y hi j v hj => by
    rcases i with _ | i
    · obtain rfl : x = y := by simpa using hi
      rcases j with _ | j
      · obtain rfl : Value.int .u8 (x.toNat : Int) = v := by simpa [byteEnc] using hj
        simpa using h
      · simp [byteEnc] at hj
    · simp at hi⟩⟩
theorem str_self (t : ByteArray) : (t.toList == t.toList) = true := by simp
theorem extract_size (s : ByteArray) (k j : Nat) (h : j ≤ s.size) : (s.extract k j).size = j - k := by simp; omega

set_option maxRecDepth 100000 in
set_option maxHeartbeats 2000000 in
theorem lexTakes_any (s : ByteArray) (w : World) (hs : s.size ≤ 9223372036854775807) : Calls Try.prog 4 #[.string s] w (Ret (.bool true) w) := by
  have HV := Lib.hid (fun W => lives11_any W)
  by_cases hl : 2000 < s.size
  · have hl' : (2000 : Int) < (s.size : Int) := by omega
    go_enter Try.func4, Try.ntmps4
    go_wp2_with fail
    refine (HV.out _).mono ?_
    rintro x w1 ⟨rfl, hb1⟩
    go_wp2
    go_ret
    exact ⟨rfl, hb1⟩
  have hl' : ¬ (2000 : Int) < (s.size : Int) := by omega
  have HN := Lib.hid (new_any s w hs)
  rw [show newBad s = 0 from if_neg (by omega), show newE s = 0 from if_neg (by omega)] at HN
  clear hl
  go_enter Try.func4, Try.ntmps4
  go_wp2_with fail
  refine HN.out.mono ?_
  rintro x w1 ⟨b, hbl, rfl, h1, hb1⟩
  have H1 := Lib.hid h1
  clear h1 HN
  go_wp2
  go_loopw [4, 5] (fun f i wr => ∃ k j : Nat, j ≤ k ∧ k ≤ s.size ∧ f = .int .i64 k ∧ i = .int .i64 j ∧ Hid (Rdr wr b s k 0 0) ∧ Below w.heap.size w wr) (fun _ i _ => s.size - (intOf i).toNat)
  case atStart => exact ⟨0, 0, Nat.le_refl _, Nat.zero_le _, rfl, rfl, H1.out, hb1⟩
  case round =>
    obtain ⟨k, j, hjk, hks, rfl, rfl, HR, hb⟩ := hrel
    have HD := Lib.hid (done_any b s k 0 0 wr HR.out)
    rw [doneB_ok] at HD
    by_cases hj : j < s.size
    · have hj' : (j : Int) < (s.size : Int) := by omega
      have hkk : k = s.size ∨ k < s.size := by omega
      rcases hkk with rfl | hk
      · rw [decide_eq_true rfl] at HD
        have HW := Lib.hid (fun q => wrong_any b s s.size 0 0 (wr.drewN q) HR.out)
        go_wp2_with fail
        refine HD.out.mono ?_
        rintro x w1 ⟨rfl, q, rfl⟩
        go_wp2_with fail
        refine (HW.out _).mono ?_
        rintro x w1 ⟨rfl, q, rfl⟩
        go_wp2_with fail
        refine (HV.out _).mono ?_
        rintro x w1 ⟨rfl, hb2⟩
        go_wp2
        go_ret
        exact ⟨rfl, bthen (below_drewN hb _) hb2 hb.size⟩
      · rw [decide_eq_false (by omega)] at HD
        have hj1 := someK_le letterP s k 0 hks
        have HWo := Lib.hid (fun q => word_any b s k 0 0 (wr.drewN q) HR.out hs hks)
        generalize someK letterP s k 0 = j1 at hj1 HWo
        obtain ⟨hk1, hj1s⟩ := hj1
        have HA1 := Lib.hid (fun W h => at_any b s j1 0 0 W h)
        have hj2 := someK_le blankP s j1 0 hj1s
        have HBl := Lib.hid (fun W h => blanks_any b s j1 0 0 W h hs hj1s)
        generalize someK blankP s j1 0 = j2 at hj2 HBl
        obtain ⟨hk2, hj2s⟩ := hj2
        rw [extract_size s j1 j2 hj2s] at HBl
        have HA2 := Lib.hid (fun W h => at_any b s j2 0 0 W h)
        go_wp2_with fail
        refine HD.out.mono ?_
        rintro x w1 ⟨rfl, q, rfl⟩
        go_wp2_with fail
        refine (HWo.out _).mono ?_
        rintro x w1 ⟨rfl, h1, g1⟩
        go_wp2_with fail
        refine (HA1.out _ h1).mono ?_
        rintro x w2 ⟨rfl, rfl⟩
        go_wp2_with fail
        refine (HA1.out _ h1).mono ?_
        rintro x w2 ⟨rfl, rfl⟩
        go_wp2_with fail
        refine (HBl.out _ h1).mono ?_
        rintro x w2 ⟨rfl, h2, g2⟩
        go_wp2_with fail
        refine (HA2.out _ h2).mono ?_
        rintro x w3 ⟨rfl, rfl⟩
        have e12 : (j2 : Int) - k = ((j1 - k : Nat) : Int) + ((j2 - j1 : Nat) : Int) := by omega
        have hbb : Below w.heap.size w w2 := Chg.below (Chg.below (below_drewN hb q) g1 hbl hb.size) g2 hbl (Nat.le_trans hb.size (Nat.le_trans g1.size (Nat.le_refl _)))
        go_wp2_with fail
        refine (peek_any b s j2 0 0 _ h2 hj2s).mono ?_
        rintro x w3 ⟨rfl, q3, rfl⟩
        go_wp2_with fail
        by_cases hd : j2 = s.size
        · refine (done_any b s j2 0 0 _ (h2.drewN _)).mono ?_
          rintro x w3 ⟨rfl, q4, rfl⟩
          rw [doneB_ok, decide_eq_true hd]
          have hlk : ¬ ((j2 : Int) ≤ (k : Int)) := by omega
          have hkj : k < j2 := by omega
          clear hd
          go_wp2_with fail
          refine (HA2.out _ (h2.drewN _)).mono ?_
          rintro x w3 ⟨rfl, rfl⟩
          go_wp2_with fail
          refine (HA2.out _ (h2.drewN _)).mono ?_
          rintro x w3 ⟨rfl, rfl⟩
          go_wp2
          go_roundw
          case rel => exact ⟨j2, j + 1, by omega, hj2s, rfl, by go_num, h2.drewN _, below_drewN hbb _⟩
          case measure => simp [intOf]; omega
        · refine (done_any b s j2 0 0 _ (h2.drewN _)).mono ?_
          rintro x w3 ⟨rfl, q4, rfl⟩
          rw [doneB_ok, decide_eq_false hd]
          have hlt2 : j2 < s.size := by omega
          have hpk : peekN s j2 0 = (s[j2].toNat : Int) := peekN_at hlt2
          have hlk : ¬ ((j2 : Int) + 1 ≤ (k : Int)) := by omega
          have HI := Lib.hid (fun W A n c (h : Rdr W b s j2 0 0) (hA : RdBytes W A n [s[j2]'hlt2]) hn => is_any b s j2 0 0 A n c [s[j2]'hlt2] W h hs hj2s hA hn)
          have e1 : isB s j2 0 [s[j2]] = true := by rw [isB_at hlt2]; simp
          rw [isK, e1, if_pos rfl] at HI
          have HA3 := Lib.hid (fun W h => at_any b s (j2 + 1) 0 0 W h)
          rw [hpk]
          clear hpk e1
          go_wp2_with fail
          refine (HI.out _ _ _ _ ?_ (rdBytes_one _ _ _ ?_ ?_) (by decide)).mono ?_
          · exact Rdr.kept (h2.drewN _) ((Below.refl _ _).alloc (Nat.le_refl _) _) (h2.drewN _).lt
          · (first | (simp; done) | (simp; omega))
          · exact cell_new rfl rfl
          rintro x w4 ⟨rfl, h4, g4⟩
          have hbc : Below w.heap.size w w4 := Chg.below ((below_drewN hbb _).alloc hbb.size _) g4 hbl (Nat.le_trans hbb.size (by simp))
          go_wp2_with fail
          refine (HA3.out _ h4).mono ?_
          rintro x w5 ⟨rfl, rfl⟩
          go_wp2_with fail
          refine (HA3.out _ h4).mono ?_
          rintro x w5 ⟨rfl, rfl⟩
          go_wp2
          go_roundw
          case rel => exact ⟨j2 + 1, j + 1, by omega, by omega, by go_num, by go_num, h4, hbc⟩
          case measure => simp [intOf]; omega
    · obtain rfl : j = k := by omega
      obtain rfl : j = s.size := by omega
      have hj' : ¬ (s.size : Int) < (s.size : Int) := by omega
      have HW := Lib.hid (fun q => wrong_any b s s.size 0 0 (wr.drewN q) HR.out)
      have HW := Lib.hid (HW.out 0)
      go_wp2_with fail
      refine HW.out.mono ?_
      rintro x w1 ⟨rfl, q, rfl⟩
      go_wp2_with fail
      refine (HV.out _).mono ?_
      rintro x w1 ⟨rfl, hb2⟩
      go_wp2
      go_ret
      exact ⟨rfl, bthen (below_drewN hb _) hb2 hb.size⟩
end Go.Proofs.Ytgliminiiciflaa
