/- The law LexNone: its walk. -/
import Derived.Test.YtgliminiiciflaaLLex
import Derived.Deep.OwnRows
namespace Go.Proofs.Ytgliminiiciflaa
open Go.RowKit
set_option linter.unusedSimpArgs false
set_option linter.unusedVariables false

theorem info_u8 : (Try.prog.info? 5).map (fun i => (i.zero, i.size, i.bytes)) = some (some (.int .u8 0), 1, 1) := by kernel_rfl
/-- A text of nothing but noughts. -/
def zeroS (m : Nat) : ByteArray := strOfNums (List.replicate m 0)
theorem zeroS_size (m : Nat) : (zeroS m).size = m := by rw [zeroS, strOfNums_size]; simp
theorem zeroS_at (m k : Nat) (h : k < (zeroS m).size) : (zeroS m)[k] = 0 := by
  have h1 := byte_at (zeroS m) k h
  rw [show (zeroS m).data.toList = List.replicate m 0 from by rw [show zeroS m = strOfNums (List.replicate m 0) from rfl, strOfNums_data, List.map_replicate]; rfl] at h1
  rw [zeroS_size] at h
  rw [List.getElem?_replicate_of_lt h] at h1
  exact (Option.some.inj h1).symm
theorem made_get (m k : Nat) (h : k < m) : (madeCells #[Value.int .u8 0] m)[k]? = some (.int .u8 0) := by
  have : k < (madeCells #[Value.int .u8 0] m).size := by rw [size_madeCells]; exact h
  rw [Array.getElem?_eq_getElem this]
  simp [madeCells, Nat.mod_one]

set_option maxRecDepth 100000 in
set_option maxHeartbeats 4000000 in
theorem lexNone_any (n : Int) (w : World) (h0 : 0 ≤ n) (h1 : n ≤ 65535) : Calls Try.prog 6 #[.int .u16 n] w (Ret (.bool true) w) := by
  have HV := Lib.hid (fun W => lives11_any W)
  obtain ⟨m, hm⟩ : ∃ m : Nat, (m : Int) = 8180 + n % 30 := ⟨(8180 + n % 30).toNat, by omega⟩
  have hmk : ∀ W : World, (Instr.makeSlice 52 (.int .i64 (8180 + n % 30)) (.int .i64 (8180 + n % 30))).run Try.prog W = .ok (.slice (some ⟨W.heap.size, 0, none⟩) m m) (W.alloc (.cells (madeCells #[.int .u8 0] m) 5)) := by
    intro W
    rw [← hm]
    exact run_make_row' 52 5 (.int .u8 0) 1 Try.underlying52 info_u8 rfl .i64 .i64 m (by omega) (by omega) W
  have hcv : ∀ (W : World) (b : Nat), b = W.heap.size → (convert 52 9 (.slice (some ⟨b, 0, none⟩) m m)).run Try.prog (W.alloc (.cells (madeCells #[.int .u8 0] m) 5)) = .ok (.string (zeroS m)) (W.alloc (.cells (madeCells #[.int .u8 0] m) 5)) := by
    rintro W b rfl
    refine run_convert_bytes_arg _ 52 5 Try.underlying52 Try.underlying5 W.heap.size 0 m m (List.replicate m 0) (by simp) ?_ 9 Try.underlying9
    intro i hi
    rw [Nat.zero_add]
    refine cell_new rfl ?_
    rw [made_get m i hi, List.getD_eq_getElem?_getD, List.getElem?_replicate_of_lt hi]
    rfl
  have hms : (zeroS m).size = m := zeroS_size m
  have HN := Lib.hid (fun W => new_any (zeroS m) W (by omega))
  have HI := Lib.hid (fun W b bad e A c (h : Rdr W b (zeroS m) 0 bad e) (hA : RdBytes W A 1 [0]) => is_any b (zeroS m) 0 bad e A 1 c [0] W h (by omega) (Nat.zero_le _) hA (by decide))
  have HI0 := Lib.hid (fun W b A c (h : Rdr W b (zeroS m) 0 0 0) (hA : RdBytes W A 1 [0]) => is_any b (zeroS m) 0 0 0 A 1 c [0] W h (by omega) (Nat.zero_le _) hA (by decide))
  have Hdd : Hid (doneB (zeroS m) 0 5 = true) := by simp [Hid, doneB]
  have Hi5 : Hid (isB (zeroS m) 0 5 [0] = false) := isB_done Hdd.out
  have Hi0 : Hid (isB (zeroS m) 0 0 [0] = true) := by
    show _ = _
    rw [isB_at (by omega), zeroS_at]; rfl
  unfold newBad newE at HN
  rw [hms] at HN
  generalize zeroS m = s at *
  generalize madeCells #[.int .u8 0] m = C at *
  have HM := Lib.hid hm
  have HMS := Lib.hid hms
  have hb1 : 8180 ≤ 8180 + n % 30 := by omega
  have hb2 : 8180 + n % 30 ≤ 8209 := by omega
  by_cases hl : 8192 < m
  · rw [if_pos hl, if_pos hl] at HN
    have hl' : (8192 : Int) < 8180 + n % 30 := by omega
    clear hm hms hl
    go_enter Try.func6, Try.ntmps6
    go_wp2_with fail
    refine (fail_nil _ _ _).mono ?_
    rintro x w1 ⟨rfl, rfl⟩
    go_wp2_with fail
    refine (end_nil _).mono ?_
    rintro x w1 ⟨rfl, q1, rfl⟩
    go_wp2_with fail
    refine (wrong_nil _).mono ?_
    rintro x w1 ⟨rfl, rfl⟩
    go_wp2_with fail
    refine (number_nil _ _).mono ?_
    rintro x w1 ⟨rfl, q2, rfl⟩
    go_wp2_with fail
    refine (at_nil _).mono ?_
    rintro x w1 ⟨rfl, rfl⟩
    go_wp2_with fail
    refine (done_nil _).mono ?_
    rintro x w1 ⟨rfl, q3, rfl⟩
    go_wp2_with fail
    refine (peek_nil _).mono ?_
    rintro x w1 ⟨rfl, q4, rfl⟩
    go_wp2_with fail
    refine (is_nil _ _).mono ?_
    rintro x w1 ⟨rfl, q5, rfl⟩
    go_wp2_with fail
    refine (must_nil _ _).mono ?_
    rintro x w1 ⟨rfl, q6, rfl⟩
    go_wp2_with fail
    refine (text_nil _ _).mono ?_
    rintro x w1 ⟨rfl, q7, rfl⟩
    go_wp2_with fail
    refine (blanks_nil _).mono ?_
    rintro x w1 ⟨rfl, q8, rfl⟩
    go_wp2_with fail
    refine (word_nil _).mono ?_
    rintro x w1 ⟨rfl, q9, rfl⟩
    go_wp2_with fail
    refine (HN.out _).mono ?_
    rintro x w1 ⟨b, hbl, rfl, h1, hb1⟩
    simp at hbl
    have hbb : Below w.heap.size w w1 := Below.trans (by (repeat' (first | (with_reducible exact Below.refl _ _) | (with_reducible assumption) | (with_reducible refine below_drewN ?_ _) | (with_reducible refine Below.alloc ?_ ?_ _) | (with_reducible refine Below.drew ?_) | (with_reducible refine Below.setCell ?_ ?_ _) | go_size))) (hb1.mono (by simp; omega))
    go_wp2_with fail
    refine (wrong_any b s 0 8192 5 _ h1).mono ?_
    rintro x w2 ⟨rfl, q10, rfl⟩
    go_wp2_with fail
    refine (done_any b s 0 8192 5 _ (h1.drewN _)).mono ?_
    rintro x w2 ⟨rfl, q11, rfl⟩
    rw [Hdd.out]
    go_wp2_with fail
    refine (HI.out _ b 8192 5 _ _ ?_ (rdBytes_one _ _ _ ?_ ?_)).mono ?_
    · exact Rdr.kept (h1.drewN _) ((Below.refl _ _).alloc (Nat.le_refl _) _) (h1.drewN _).lt
    · (first | (simp; done) | (simp; omega))
    · exact cell_new rfl rfl
    rintro x w4 ⟨rfl, h4, g4⟩
    rw [Hi5.out]
    have hbc : Below w.heap.size w w4 := Chg.below ((below_drewN hbb _).alloc hbb.size _) g4 (by omega) (Nat.le_trans hbb.size (by simp))
    go_wp2_with fail
    refine (HV.out _).mono ?_
    rintro x w5 ⟨rfl, hb5⟩
    go_wp2
    go_ret
    exact ⟨rfl, bthen hbc hb5 hbc.size⟩
  · rw [if_neg hl, if_neg hl] at HN
    have hl' : ¬ (8192 : Int) < 8180 + n % 30 := by omega
    clear hm hms hl
    rw [isK, Hi0.out, if_pos rfl] at HI0
    go_enter Try.func6, Try.ntmps6
    go_wp2_with fail
    refine (fail_nil _ _ _).mono ?_
    rintro x w1 ⟨rfl, rfl⟩
    go_wp2_with fail
    refine (end_nil _).mono ?_
    rintro x w1 ⟨rfl, q1, rfl⟩
    go_wp2_with fail
    refine (wrong_nil _).mono ?_
    rintro x w1 ⟨rfl, rfl⟩
    go_wp2_with fail
    refine (number_nil _ _).mono ?_
    rintro x w1 ⟨rfl, q2, rfl⟩
    go_wp2_with fail
    refine (at_nil _).mono ?_
    rintro x w1 ⟨rfl, rfl⟩
    go_wp2_with fail
    refine (done_nil _).mono ?_
    rintro x w1 ⟨rfl, q3, rfl⟩
    go_wp2_with fail
    refine (peek_nil _).mono ?_
    rintro x w1 ⟨rfl, q4, rfl⟩
    go_wp2_with fail
    refine (is_nil _ _).mono ?_
    rintro x w1 ⟨rfl, q5, rfl⟩
    go_wp2_with fail
    refine (must_nil _ _).mono ?_
    rintro x w1 ⟨rfl, q6, rfl⟩
    go_wp2_with fail
    refine (text_nil _ _).mono ?_
    rintro x w1 ⟨rfl, q7, rfl⟩
    go_wp2_with fail
    refine (blanks_nil _).mono ?_
    rintro x w1 ⟨rfl, q8, rfl⟩
    go_wp2_with fail
    refine (word_nil _).mono ?_
    rintro x w1 ⟨rfl, q9, rfl⟩
    go_wp2_with fail
    refine (HN.out _).mono ?_
    rintro x w1 ⟨b, hbl, rfl, h1, hb1⟩
    simp at hbl
    have hbb : Below w.heap.size w w1 := Below.trans (by (repeat' (first | (with_reducible exact Below.refl _ _) | (with_reducible assumption) | (with_reducible refine below_drewN ?_ _) | (with_reducible refine Below.alloc ?_ ?_ _) | (with_reducible refine Below.drew ?_) | (with_reducible refine Below.setCell ?_ ?_ _) | go_size))) (hb1.mono (by simp; omega))
    go_wp2_with fail
    refine (wrong_any b s 0 0 0 _ h1).mono ?_
    rintro x w2 ⟨rfl, q10, rfl⟩
    go_wp2_with fail
    refine (HI0.out _ b _ _ ?_ (rdBytes_one _ _ _ ?_ ?_)).mono ?_
    · exact Rdr.kept (h1.drewN _) ((Below.refl _ _).alloc (Nat.le_refl _) _) (h1.drewN _).lt
    · (first | (simp; done) | (simp; omega))
    · exact cell_new rfl rfl
    rintro x w4 ⟨rfl, h4, g4⟩
    have hbc : Below w.heap.size w w4 := Chg.below ((below_drewN hbb _).alloc hbb.size _) g4 (by omega) (Nat.le_trans hbb.size (by simp))
    go_wp2_with fail
    refine (at_any b s 1 0 0 _ h4).mono ?_
    rintro x w5 ⟨rfl, rfl⟩
    go_wp2_with fail
    refine (HV.out _).mono ?_
    rintro x w5 ⟨rfl, hb5⟩
    go_wp2
    go_ret
    exact ⟨rfl, bthen hbc hb5 hbc.size⟩
end Go.Proofs.Ytgliminiiciflaa
