/- The walk of the law CronreadLong. -/
import Derived.Test.YtgliminiiciflaaDoorLCread
import Derived.Test.YtgliminiiciflaaDoorRLong
import Derived.Test.YtgliminiiciflaaDoorLTake
import Derived.Laws.MakeOwn
import Derived.Laws.IdiomStrings
namespace Go.Proofs.YtgliminiiciflaaDoor
open Go.RowKit
set_option linter.unusedSimpArgs false
set_option linter.unusedVariables false

def longL (j i f : Nat) : List It := if f = i then List.replicate (j + 1) one1 else [star1]
theorem longT_rows (j i : Nat) : longT j i = lineT (rowsOf (longL j i)) := rfl
/-- The text of the first k fields. -/
def longS (j i k : Nat) : List UInt8 := lineT ((rowsOf (longL j i)).take k)
theorem longS_zero (j i : Nat) : longS j i 0 = [] := rfl
theorem longS_five (j i : Nat) : longS j i 5 = longT j i := rfl
theorem longS_succ (j i k : Nat) (hk : k < 5) : longS j i (k + 1) = (if k = 0 then [] else longS j i k ++ [32]) ++ fieldT (longL j i k) := lineT_take hk
theorem onesT_def (j : Nat) : fieldT (List.replicate (j + 1) one1) = onesT j := rfl
theorem longL_at (j i : Nat) : fieldT (longL j i i) = onesT j := by unfold longL; rw [if_pos rfl]; rfl
theorem longL_ne (j i k : Nat) (h : k ≠ i) : fieldT (longL j i k) = [42] := by unfold longL; rw [if_neg h]; exact fieldT_star1
theorem longS_len_le (j i : Nat) : ∀ k, k ≤ 5 → (longS j i k).length ≤ k * (2 * j + 2)
  | 0, _ => by simp [longS_zero]
  | k + 1, hk => by
    rw [longS_succ j i k (by omega)]
    have ih := longS_len_le j i k (by omega)
    have h2 : (fieldT (longL j i k)).length ≤ 2 * j + 1 := by
      by_cases h : k = i
      · subst h; rw [longL_at, onesT_len]; exact Nat.le_refl _
      · rw [longL_ne j i k h]; simp
    rw [List.length_append, Nat.succ_mul]
    split
    · simp only [List.length_nil]; omega
    · rw [List.length_append]; simp only [List.length_cons, List.length_nil]; omega
theorem longS_len_lo (j i : Nat) : ∀ k, k ≤ i → k ≤ 5 → (longS j i k).length = 2 * k - 1
  | 0, _, _ => by simp [longS_zero]
  | k + 1, hk, h5 => by
    rw [longS_succ j i k (by omega), longL_ne j i k (by omega)]
    have ih := longS_len_lo j i k (by omega) (by omega)
    split
    · rename_i h0; subst h0; rfl
    · rw [List.length_append, List.length_append, ih]; simp only [List.length_cons, List.length_nil]; omega
/-- So many ones, or none. -/
def oneS (k : Nat) : List UInt8 := fieldT (List.replicate k one1)
theorem oneS_zero : oneS 0 = [] := rfl
theorem oneS_succ (k : Nat) : oneS (k + 1) = (if k = 0 then [] else oneS k ++ [44]) ++ [49] := by
  unfold oneS
  have h : List.replicate (k + 1) one1 = List.replicate k one1 ++ [one1] := List.replicate_succ' ..
  rw [h]
  unfold fieldT
  rw [List.map_append, List.map_cons, List.map_nil, join_snoc, itemT_one1]
  by_cases h0 : k = 0
  · subst h0; simp
  · rw [if_neg h0, if_neg (by simp [h0])]
theorem oneS_len (k : Nat) : (oneS k).length = 2 * k - 1 := by
  cases k with
  | zero => rfl
  | succ k => exact (onesT_len k).trans (by omega)

theorem addr0 (b j : Nat) : (⟨b, 0, none⟩ : Addr).add j = ⟨b, j, none⟩ := by unfold Addr.add; split <;> simp_all
theorem made_one (v : Value) (N j : Nat) (h : j < N) : (madeCells #[v] N)[j]? = some v := by
  unfold madeCells
  rw [Array.getElem?_map, Array.getElem?_range, if_pos h]
  simp [Nat.mod_one]
theorem far_get (N j : Nat) (h : j < N) (c : UInt8) (hj : j < (List.replicate N c).length) : ((List.replicate N c)[j]'hj) = c := by simp
/-- 8193 bytes, all 0, as a string. -/
theorem far_ex : ∃ (Z : Array Value) (Far : ByteArray), Far.size = 8193 ∧ (∀ W : World, (Instr.makeSlice 44 (.int .i64 8193) (.int .i64 8193)).run Tryd.prog W = .ok (.slice (some ⟨W.heap.size, 0, none⟩) 8193 8193) (W.alloc (.cells Z 5))) ∧
    ∀ W : World, (convert 44 9 (.slice (some ⟨W.heap.size, 0, none⟩) 8193 8193)).run Tryd.prog (W.alloc (.cells Z 5)) = .ok (.string Far) (W.alloc (.cells Z 5)) := by
  obtain ⟨i0, hi0, hz0, hz1, hz2⟩ := info_parts (show (Tryd.prog.info? 5).map (fun i => (i.zero, i.size, i.bytes)) = some (some (.int .u8 0), 1, 1) by kernel_rfl)
  refine ⟨madeCells (Value.int .u8 0).cells (8193 * 1), strB (List.replicate 8193 0), ?_, fun W => ?_, fun W => ?_⟩
  · rw [strB_size, List.length_replicate]
  · have := run_make (P := Tryd.prog) W 44 5 i0 (.int .u8 0) Tryd.underlying44 hi0 hz0 .i64 .i64 8193 8193 (by decide) (by decide) (by rw [hz2]; decide) (by decide)
    rw [hz1] at this
    exact this
  · have h := run_convert_bytes_back (P := Tryd.prog) (W.alloc (.cells (madeCells (Value.int .u8 0).cells (8193 * 1)) 5)) 44 9 5 ⟨W.heap.size, 0, none⟩ 8193 (List.replicate 8193 0) Tryd.underlying44 Tryd.underlying5 Tryd.underlying9 (by
      intro j hj
      rw [addr0]
      refine cell_new rfl ?_
      rw [far_get 8193 j (by rw [List.length_replicate] at hj; exact hj) 0 hj]
      exact made_one (.int .u8 0) (8193 * 1) j (by rw [List.length_replicate] at hj; exact hj))
    rw [List.length_replicate] at h
    exact h

set_option maxRecDepth 20000 in
set_option maxHeartbeats 4000000 in
theorem cronreadLong_in (n fd : Int) (q i : Nat) (hq : n % 10 = (q : Int)) (hi : fd % 5 = (i : Int)) (hn0 : 0 ≤ n) (hn1 : n ≤ 255) (hf0 : 0 ≤ fd) (hf1 : fd ≤ 255) (w : World) : Calls Tryd.prog 6 #[.int .u8 n, .int .u8 fd] w (Ret (.bool true) w) := by
  have hq9 : q ≤ 9 := by omega
  have hi5 : i < 5 := by omega
  have HV := Lib.hid (fun W => lives25_any W)
  obtain ⟨Z, Far, hF, hmk, hcv0⟩ := far_ex
  have hcv : ∀ (W : World) (b : Nat), b = W.heap.size → (convert 44 9 (.slice (some ⟨b, 0, none⟩) 8193 8193)).run Tryd.prog (W.alloc (.cells Z 5)) = .ok (.string Far) (W.alloc (.cells Z 5)) := fun W b e => by rw [e]; exact hcv0 W
  clear hcv0
  have HFar := Lib.hid (fun W => read_line Far (by omega) W)
  have HFs := Lib.hid hF
  have HT := Lib.hid (fun W => read_line (strB (longT (59 + q) i)) (by rw [strB_size, longT_len _ _ hi5]; omega) W)
  clear hF
  go_enter Tryd.func6, Tryd.ntmps6
  go_wp2
  rw [hq]
  go_loopw [6, 7, 8] (fun sv av fv wr => ∃ (S : ByteArray) (a : Int) (k : Nat), sv = .string S ∧ av = .int .i64 a ∧ fv = .int .i64 k ∧ k ≤ 5 ∧ Hid (S = strB (longS (59 + q) i k)) ∧ Hid (a = if i < k ∧ 5 ≤ q then 2 * (i : Int) + 127 else 0) ∧ wr = w) (fun _ _ fv _ => 5 - (intOf fv).toNat)
  case atStart => exact ⟨_, 0, 0, rfl, rfl, rfl, by omega, rfl, by simp [Hid], rfl⟩
  case round =>
    obtain ⟨S, a, k, rfl, rfl, rfl, hk, HS, HA, rfl⟩ := hrel
    have hzS : S.size ≤ 1000 := by
      rw [HS.out, strB_size]
      have h1 := longS_len_le (59 + q) i k hk
      have h2 : k * (2 * (59 + q) + 2) ≤ 5 * (2 * (59 + q) + 2) := Nat.mul_le_mul_right _ hk
      omega
    by_cases h5 : k < 5
    · have h5' : (k : Int) < 5 := by omega
      have HN := Lib.hid (longS_succ (59 + q) i k h5)
      by_cases hki : k = i
      · subst hki
        have hne : ((k : Int) != (k : Int)) = false := by simp
        have HH : Hid (S.data.toList = longS (59 + q) k k) := by show _ = _; rw [HS.out]; exact strB_data _
        have HLo := Lib.hid (longS_len_lo (59 + q) k k (Nat.le_refl _) hk)
        obtain ⟨base, hbase⟩ : ∃ base, base = (if k = 0 then [] else longS (59 + q) k k ++ [32]) := ⟨_, rfl⟩
        have HBd := Lib.hid hbase.symm
        have HBl : Hid (base.length = 2 * k) := by
          show _ = _
          rw [hbase]
          split
          · rename_i h0; subst h0; rfl
          · rw [List.length_append, HLo.out]; simp only [List.length_cons, List.length_nil]; omega
        by_cases h0 : k = 0
        · have HBs : Hid (S.data.toList = base) := by show _ = _; rw [HH.out, hbase, if_pos h0]; subst h0; rfl
          obtain ⟨ZB, rfl⟩ : ∃ ZB, ZB = S := ⟨_, rfl⟩
          clear hbase
          subst h0
          go_wp2
          have hZs : ZB.size ≤ 1000 := by rw [← len_data, HBs.out]; have := HBl.out; omega
          go_loopw [6, 7, 9] (fun sv av iv wr2 => ∃ (S2 : ByteArray) (a2 : Int) (m : Nat), sv = .string S2 ∧ av = .int .i64 a2 ∧ iv = .int .i64 m ∧ m ≤ 60 + q ∧ Hid (S2.data.toList = base ++ oneS m) ∧ Hid (a2 = if 64 < m then 2 * ((0 : Nat) : Int) + 127 else 0) ∧ wr2 = wr) (fun _ _ iv _ => (60 + q) - (intOf iv).toNat)
          case atStart => exact ⟨_, _, 0, rfl, rfl, rfl, by omega, by show _ = _; rw [oneS_zero, List.append_nil]; exact HBs.out, by show _ = _; rw [HA.out, if_neg (by omega), if_neg (by omega)], rfl⟩
          case round =>
            obtain ⟨S2, a2, m, rfl, rfl, rfl, hm, HS2, HA2, rfl⟩ := hrel
            have hz2 : S2.size ≤ 1000 := by
              rw [← len_data, HS2.out, List.length_append, oneS_len]
              have := HBl.out; omega
            have hzl : (S2.size : Int) = ((base ++ oneS m).length : Int) := by rw [← HS2.out, len_data]
            by_cases hlt : m < 60 + q
            · have hlt' : (m : Int) < 60 + (q : Int) := by omega
              have HO := Lib.hid (oneS_succ m)
              by_cases hm0 : m = 0
              · subst hm0
                clear hzl
                go_wp2
                go_roundw
                case rel =>
                  refine ⟨_, _, 1, rfl, rfl, rfl, by omega, ?_, by show _ = _; rw [HA2.out, if_neg (by omega), if_neg (by omega)], trivial⟩
                  show _ = _
                  rw [HO.out, str_app, HS2.out]; simp [oneS_zero]
                case measure => simp [intOf]; try omega
              · have hm0' : (0 : Int) < (m : Int) := by omega
                by_cases hm64 : m = 64
                · subst hm64
                  have hzl2 : (S2.size : Int) = 2 * ((0 : Nat) : Int) + 127 := by
                    rw [hzl, List.length_append, oneS_len]; have := HBl.out; omega
                  have hzl3 := Lib.hid hzl2
                  clear hzl hzl2
                  have hz0 : 1 ≤ S2.size := by have := hzl3.out; omega
                  go_wp2
                  go_roundw
                  case rel =>
                    refine ⟨_, _, 65, rfl, rfl, by go_num, by omega, ?_, ?_, trivial⟩
                    · show _ = _
                      rw [HO.out, if_neg (by omega), str_app, str_app, HS2.out]; simp
                    · show _ = _
                      rw [if_pos (by omega), ← hzl3.out]; try omega
                  case measure => simp [intOf]; try omega
                · have hmb : ((m : Int) == 64) = false := by simp; omega
                  clear hzl
                  go_wp2
                  go_roundw
                  case rel =>
                    refine ⟨_, _, m + 1, rfl, rfl, by go_num, by omega, ?_, ?_, trivial⟩
                    · show _ = _
                      rw [HO.out, if_neg hm0, str_app, str_app, HS2.out]; simp
                    · show _ = _
                      rw [HA2.out]
                      have : (64 < m) ↔ (64 < m + 1) := by omega
                      simp only [this]
                  case measure => simp [intOf]; try omega
            · obtain rfl : m = 60 + q := by omega
              clear hzl
              go_wp2
              go_roundw
              case rel =>
                refine ⟨_, _, 0 + 1, rfl, rfl, by go_num, by omega, ?_, ?_, trivial⟩
                · refine strB_of ?_
                  rw [HN.out, longL_at, HS2.out, HBd.out]
                  show base ++ oneS (60 + q) = base ++ oneS (59 + q + 1)
                  rw [show 59 + q + 1 = 60 + q from by omega]
                · show _ = _
                  rw [HA2.out]
                  have : (64 < 60 + q) ↔ (0 < 0 + 1 ∧ 5 ≤ q) := by omega
                  simp only [this]
              case measure => simp [intOf]; try omega
        · have h0' : (0 : Int) < (k : Int) := by omega
          obtain ⟨ZB, hZB⟩ : ∃ ZB : ByteArray, ZB = S ++ ⟨#[32]⟩ := ⟨_, rfl⟩
          have HBs : Hid (ZB.data.toList = base) := by show _ = _; rw [hZB, str_app, HH.out, hbase, if_neg h0]
          clear hbase
          go_wp2
          rw [← hZB]
          have hZs : ZB.size ≤ 1000 := by rw [← len_data, HBs.out]; have := HBl.out; omega
          go_loopw [6, 7, 9] (fun sv av iv wr2 => ∃ (S2 : ByteArray) (a2 : Int) (m : Nat), sv = .string S2 ∧ av = .int .i64 a2 ∧ iv = .int .i64 m ∧ m ≤ 60 + q ∧ Hid (S2.data.toList = base ++ oneS m) ∧ Hid (a2 = if 64 < m then 2 * ((k : Nat) : Int) + 127 else 0) ∧ wr2 = wr) (fun _ _ iv _ => (60 + q) - (intOf iv).toNat)
          case atStart => exact ⟨_, _, 0, rfl, rfl, rfl, by omega, by show _ = _; rw [oneS_zero, List.append_nil]; exact HBs.out, by show _ = _; rw [HA.out, if_neg (by omega), if_neg (by omega)], rfl⟩
          case round =>
            obtain ⟨S2, a2, m, rfl, rfl, rfl, hm, HS2, HA2, rfl⟩ := hrel
            have hz2 : S2.size ≤ 1000 := by
              rw [← len_data, HS2.out, List.length_append, oneS_len]
              have := HBl.out; omega
            have hzl : (S2.size : Int) = ((base ++ oneS m).length : Int) := by rw [← HS2.out, len_data]
            by_cases hlt : m < 60 + q
            · have hlt' : (m : Int) < 60 + (q : Int) := by omega
              have HO := Lib.hid (oneS_succ m)
              by_cases hm0 : m = 0
              · subst hm0
                clear hzl
                go_wp2
                go_roundw
                case rel =>
                  refine ⟨_, _, 1, rfl, rfl, rfl, by omega, ?_, by show _ = _; rw [HA2.out, if_neg (by omega), if_neg (by omega)], trivial⟩
                  show _ = _
                  rw [HO.out, str_app, HS2.out]; simp [oneS_zero]
                case measure => simp [intOf]; try omega
              · have hm0' : (0 : Int) < (m : Int) := by omega
                by_cases hm64 : m = 64
                · subst hm64
                  have hzl2 : (S2.size : Int) = 2 * ((k : Nat) : Int) + 127 := by
                    rw [hzl, List.length_append, oneS_len]; have := HBl.out; omega
                  have hzl3 := Lib.hid hzl2
                  clear hzl hzl2
                  have hz0 : 1 ≤ S2.size := by have := hzl3.out; omega
                  go_wp2
                  go_roundw
                  case rel =>
                    refine ⟨_, _, 65, rfl, rfl, by go_num, by omega, ?_, ?_, trivial⟩
                    · show _ = _
                      rw [HO.out, if_neg (by omega), str_app, str_app, HS2.out]; simp
                    · show _ = _
                      rw [if_pos (by omega), ← hzl3.out]; try omega
                  case measure => simp [intOf]; try omega
                · have hmb : ((m : Int) == 64) = false := by simp; omega
                  clear hzl
                  go_wp2
                  go_roundw
                  case rel =>
                    refine ⟨_, _, m + 1, rfl, rfl, by go_num, by omega, ?_, ?_, trivial⟩
                    · show _ = _
                      rw [HO.out, if_neg hm0, str_app, str_app, HS2.out]; simp
                    · show _ = _
                      rw [HA2.out]
                      have : (64 < m) ↔ (64 < m + 1) := by omega
                      simp only [this]
                  case measure => simp [intOf]; try omega
            · obtain rfl : m = 60 + q := by omega
              clear hzl
              go_wp2
              go_roundw
              case rel =>
                refine ⟨_, _, k + 1, rfl, rfl, by go_num, by omega, ?_, ?_, trivial⟩
                · refine strB_of ?_
                  rw [HN.out, longL_at, HS2.out, HBd.out]
                  show base ++ oneS (60 + q) = base ++ oneS (59 + q + 1)
                  rw [show 59 + q + 1 = 60 + q from by omega]
                · show _ = _
                  rw [HA2.out]
                  have : (64 < 60 + q) ↔ (k < k + 1 ∧ 5 ≤ q) := by omega
                  simp only [this]
              case measure => simp [intOf]; try omega
      · have hne : ((k : Int) != (i : Int)) = true := by simp; omega
        have HE := Lib.hid (longL_ne (59 + q) i k hki)
        have hA2 : Hid (a = if i < k + 1 ∧ 5 ≤ q then 2 * (i : Int) + 127 else 0) := by
          show _ = _
          rw [HA.out]
          have : (i < k ∧ 5 ≤ q) ↔ (i < k + 1 ∧ 5 ≤ q) := by omega
          simp only [this]
        have HH : Hid (S.data.toList = longS (59 + q) i k) := by show _ = _; rw [HS.out]; exact strB_data _
        by_cases h0 : k = 0
        · subst h0
          go_wp2
          go_roundw
          case rel =>
            refine ⟨_, _, 1, rfl, rfl, rfl, by omega, ?_, hA2.out, trivial⟩
            refine strB_of ?_
            rw [HN.out, HE.out, str_app, HH.out]; rfl
          case measure => simp [intOf]
        · have h0' : (0 : Int) < (k : Int) := by omega
          go_wp2
          go_roundw
          case rel =>
            refine ⟨_, _, k + 1, rfl, rfl, by go_num, by omega, ?_, hA2.out, trivial⟩
            refine strB_of ?_
            rw [HN.out, if_neg h0, HE.out, str_app, str_app, HH.out]
          case measure => simp [intOf]; omega
    · obtain rfl : k = 5 := by omega
      have HS5 : Hid (S = strB (longT (59 + q) i)) := HS.out
      go_wp2_with fail
      have HT2 : Hid (∀ W, Calls Tryd.prog 20 #[.string S] W (RetLine S W)) := fun W => by rw [HS5.out]; exact HT.out W
      refine (HT2.out _).mono ?_
      rintro e w1 ⟨hb1, hres⟩
      by_cases hq5 : 5 ≤ q
      · have hO : outR S = .error (2 * (i : Int) + 127, 5) := by
          have h1 := cRead_long_err (q - 5) i hi5 (by omega)
          rw [show 64 + (q - 5) = 59 + q from by omega] at h1
          rw [outR_err (m := 2 * (q - 5) + 10 - 2 * i) (c := 5) (by rw [HS5.out, strB_data]; exact h1)]
          unfold placeI
          rw [HS5.out, strB_size, longT_len _ _ hi5]
          congr 2
          omega
        rcases hres with ⟨F, A, n', c', hO2, _⟩ | ⟨a', e', hO2, _, _, _, rfl⟩
        · rw [hO] at hO2; cases hO2
        · rw [hO] at hO2
          obtain ⟨rfl, rfl⟩ : a' = 2 * (i : Int) + 127 ∧ e' = 5 := by injection hO2 with h; injection h with h1 h2; exact ⟨h1.symm, h2.symm⟩
          have hA5 : a = 2 * (i : Int) + 127 := by rw [HA.out, if_pos ⟨by omega, hq5⟩]
          have hmany : (64 : Int) < 60 + (q : Int) := by omega
          have hz1 := hb1.size
          clear hO hO2
          rw [← hA5]
          go_wp2_with fail
          refine (HFar.out _).mono ?_
          rintro e w2 ⟨hb2, ⟨F2, A2, n2, c2, hO3, _⟩ | ⟨a3, e3, hO3, _, _, _, rfl⟩⟩
          · have hO4 : outR Far = .error (8192, 5) := by unfold outR; rw [if_pos (by rw [HFs.out]; omega)]
            rw [hO4] at hO3; cases hO3
          · have hO4 : outR Far = .error (8192, 5) := by unfold outR; rw [if_pos (by rw [HFs.out]; omega)]
            rw [hO4] at hO3
            obtain ⟨rfl, rfl⟩ : a3 = 8192 ∧ e3 = 5 := by injection hO3 with h; injection h with h1 h2; exact ⟨h1.symm, h2.symm⟩
            have hb3 : Below wr.heap.size wr w2 := ((hb1.alloc hz1 _).alloc (by simp; omega) _).trans (hb2.mono (by simp; omega))
            have hz2 := hb3.size
            clear hO3 hO4 hb2
            go_wp2_with fail
            refine (HV.out _).mono ?_
            rintro e w3 ⟨rfl, hb4⟩
            have hb5 : Below wr.heap.size wr w3 := (hb3.alloc hz2 _).trans (hb4.mono (by simp; omega))
            go_wp2
            go_ret
            exact ⟨rfl, hb5⟩
      · have hO : outR S = .ok (longF (59 + q) i) := by
          rw [outR_ok (x := longF (59 + q) i) (r := [])]
          rw [HS5.out, strB_data]; exact cRead_long_ok (59 + q) i hi5 (by omega)
        rcases hres with ⟨F, A, n', c', hO2, rfl, _⟩ | ⟨a', e', hO2, _, _, _, rfl⟩
        · have hmany : ¬ (64 : Int) < 60 + (q : Int) := by omega
          have hz1 := hb1.size
          clear hO hO2
          go_wp2_with fail
          refine (HFar.out _).mono ?_
          rintro e w2 ⟨hb2, ⟨F2, A2, n2, c2, hO3, _⟩ | ⟨a3, e3, hO3, _, _, _, rfl⟩⟩
          · have hO4 : outR Far = .error (8192, 5) := by unfold outR; rw [if_pos (by rw [HFs.out]; omega)]
            rw [hO4] at hO3; cases hO3
          · have hO4 : outR Far = .error (8192, 5) := by unfold outR; rw [if_pos (by rw [HFs.out]; omega)]
            rw [hO4] at hO3
            obtain ⟨rfl, rfl⟩ : a3 = 8192 ∧ e3 = 5 := by injection hO3 with h; injection h with h1 h2; exact ⟨h1.symm, h2.symm⟩
            have hb3 : Below wr.heap.size wr w2 := ((hb1.alloc hz1 _).alloc (by simp; omega) _).trans (hb2.mono (by simp; omega))
            have hz2 := hb3.size
            clear hO3 hO4 hb2
            go_wp2_with fail
            refine (HV.out _).mono ?_
            rintro e w3 ⟨rfl, hb4⟩
            have hb5 : Below wr.heap.size wr w3 := (hb3.alloc hz2 _).trans (hb4.mono (by simp; omega))
            go_wp2
            go_ret
            exact ⟨rfl, hb5⟩
        · rw [hO] at hO2; cases hO2
theorem cronreadLong_any (n fd : Int) (hn : 0 ≤ n ∧ n ≤ 255) (hf : 0 ≤ fd ∧ fd ≤ 255) (w : World) : Calls Tryd.prog 6 #[.int .u8 n, .int .u8 fd] w (Ret (.bool true) w) :=
  cronreadLong_in n fd (n % 10).toNat (fd % 5).toNat (by omega) (by omega) hn.1 hn.2 hf.1 hf.2 w
end Go.Proofs.YtgliminiiciflaaDoor
