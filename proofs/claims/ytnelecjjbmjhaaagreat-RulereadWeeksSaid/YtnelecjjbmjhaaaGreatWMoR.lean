/- The walk of moment.Read. -/
import Derived.Test.YtnelecjjbmjhaaaGreatRMom
namespace Go.Proofs.YtnelecjjbmjhaaaGreat
open Go.RowKit
set_option linter.unusedSimpArgs false
set_option linter.unusedVariables false

theorem tup2 {a b : Int} {c : Bool} (h : a = b) : Ending.returned (.tuple #[.int .i64 a, .bool c]) = .returned (.tuple #[.int .i64 b, .bool c]) := by rw [h]
theorem wrongL_cons {k : Nat} {c : UInt8} {l : List UInt8} (h : k < 15) : wrongL k (c :: l) = if stemB k c = true then wrongL (k + 1) l else ((k : Int), 3) := by
  rw [wrongL, if_neg (by omega)]
set_option maxHeartbeats 2000000 in
theorem mwrong_any (s : ByteArray) (hs : s.size ≤ 9223372036854775807) (w : World) : Calls Tryz.prog 67 #[.string s] w (RetQ (.tuple #[.int .i64 (wrongL 0 s.data.toList).1, .int .i64 (wrongL 0 s.data.toList).2]) w) := by
  have HD := Lib.hid (fun k (h : k < s.size) => drop_cons s k h)
  have HE := Lib.hid (drop_end s)
  generalize hR : wrongL 0 s.data.toList = R at *
  have HR := Lib.hid hR
  clear hR
  by_cases h15 : s.size < 15
  · have h15' : ((s.size : Nat) : Int) < 15 := by omega
    have h14 : ((s.size : Nat) : Int) ≤ 14 := by omega
    go_enter Tryz.func67, Tryz.ntmps67
    go_wp2
    go_step3
    go_wp2
    go_step3
    go_wp2
    go_loop [9] (fun i => ∃ q : Nat, q ≤ s.size ∧ i = .int .i64 q ∧ wrongL q (s.data.toList.drop q) = R) (fun i => s.size - (intOf i).toNat)
    case atStart => exact ⟨0, Nat.zero_le _, rfl, HR.out⟩
    case round =>
      obtain ⟨q, hq, rfl, hw⟩ := hrel
      have HW := Lib.hid hw
      clear hw
      by_cases hlt : q < s.size
      · have hlt' : (q : Int) < (s.size : Int) := by omega
        have hq14 : ((q : Int) == 14) = false := by simp; omega
        have HW2 : Hid ((if stemB q s[q] = true then wrongL (q + 1) (s.data.toList.drop (q + 1)) else ((q : Int), 3)) = R) := by
          show _ = _
          rw [← HW.out, HD.out q hlt]
          rw [wrongL_cons (by omega)]
        clear HW
        have hb0 : (0 : Int) ≤ (s[q].toNat : Int) := by omega
        have HB : Hid (s[q].toNat < 256) := s[q].toNat_lt
        by_cases h8 : q = 8
        · subst h8
          by_cases hc : (s[8].toNat : Int) = 84
          · have HW3 : Hid (wrongL (8 + 1) (s.data.toList.drop (8 + 1)) = R) := by
              show _ = _
              rw [← HW2.out, if_pos]
              unfold stemB
              rw [if_pos rfl, decide_eq_true_eq]
              exact UInt8.toNat_inj.1 (by have : (84 : UInt8).toNat = 84 := rfl; omega)
            clear HW2
            have hc' : ((s[8].toNat : Int) == 84) = true := by simpa using hc
            go_wp2
            go_round
            case rel => exact ⟨_ + 1, by omega, by go_num, HW3.out⟩
            case measure => first | (simp [intOf]; done) | (simp [intOf]; omega)
          · have HV : Hid (R = (8, 3)) := by
              show _ = _
              rw [← HW2.out, if_neg (by
                unfold stemB
                rw [if_pos rfl, decide_eq_true_eq]
                intro e
                apply hc
                rw [e]
                rfl)]
              rfl
            clear HW2
            have hc' : ((s[8].toNat : Int) == 84) = false := by simpa using hc
            go_wp2
            (try rw [Exit.noGoto_ret])
            go_ret2
            exact ⟨by rw [HV.out]; rfl, rfl⟩
        · have h8' : ((q : Int) == 8) = false := by simp; omega
          by_cases hc : 48 ≤ (s[q].toNat : Int)
          · by_cases hc2 : (s[q].toNat : Int) ≤ 57
            · have HW3 : Hid (wrongL (q + 1) (s.data.toList.drop (q + 1)) = R) := by
                show _ = _
                rw [← HW2.out, if_pos]
                unfold stemB digitP
                rw [if_neg h8, decide_eq_true_eq]
                omega
              clear HW2
              go_wp2
              go_round
              case rel => exact ⟨_ + 1, by omega, by go_num, HW3.out⟩
              case measure => first | (simp [intOf]; done) | (simp [intOf]; omega)
            · have HV : Hid (R = ((q : Int), 3)) := by
                show _ = _
                rw [← HW2.out, if_neg (by
                  unfold stemB digitP
                  rw [if_neg h8, decide_eq_true_eq]
                  omega)]
              clear HW2
              have hc3 : 57 < (s[q].toNat : Int) := by omega
              go_wp2
              (try rw [Exit.noGoto_ret])
              go_ret2
              exact ⟨by rw [HV.out]; rfl, rfl⟩
          · have HV : Hid (R = ((q : Int), 3)) := by
              show _ = _
              rw [← HW2.out, if_neg (by
                unfold stemB digitP
                rw [if_neg h8, decide_eq_true_eq]
                omega)]
            clear HW2
            have hc3 : (s[q].toNat : Int) < 48 := by omega
            go_wp2
            (try rw [Exit.noGoto_ret])
            go_ret2
            exact ⟨by rw [HV.out]; rfl, rfl⟩
      · obtain rfl : q = s.size := by omega
        have HV : Hid (R = ((s.size : Int), 2)) := by
          show _ = _
          rw [← HW.out, HE.out]
          unfold wrongL
          rw [if_pos h15]
        go_wp2
        (try rw [Exit.noGoto_ret])
        go_ret2
        exact ⟨by rw [HV.out]; rfl, rfl⟩
  · have h15' : ¬ ((s.size : Nat) : Int) < 15 := by omega
    by_cases h16 : 15 < s.size
    · have h16' : 15 < ((s.size : Nat) : Int) := by omega
      go_enter Tryz.func67, Tryz.ntmps67
      go_wp2
      go_step3
      go_wp2
      go_step3
      go_wp2
      go_loop [9] (fun i => ∃ q : Nat, q < 15 ∧ i = .int .i64 q ∧ wrongL q (s.data.toList.drop q) = R) (fun i => 15 - (intOf i).toNat)
      case atStart => exact ⟨0, by decide, rfl, HR.out⟩
      case round =>
        obtain ⟨q, hq, rfl, hw⟩ := hrel
        have HW := Lib.hid hw
        clear hw
        have hlt : q < s.size := by omega
        have hlt' : (q : Int) < (s.size : Int) := by omega
        have hq' : (q : Int) < 15 := by omega
        have HW2 : Hid ((if stemB q s[q] = true then wrongL (q + 1) (s.data.toList.drop (q + 1)) else ((q : Int), 3)) = R) := by
          show _ = _
          rw [← HW.out, HD.out q hlt]
          rw [wrongL_cons (by omega)]
        clear HW
        by_cases h14 : q = 14
        · subst h14
          have H15 : Hid (wrongL 15 (s.data.toList.drop 15) = (0, 0)) := by
            show _ = _
            cases s.data.toList.drop 15 with
            | nil => rfl
            | cons c l => rfl
          have hle : ¬ (s.size : Int) < 15 := by omega
          by_cases hc : 48 ≤ (s[14].toNat : Int)
          · by_cases hc2 : (s[14].toNat : Int) ≤ 57
            · have HV : Hid (R = (0, 0)) := by
                show _ = _
                rw [← HW2.out, if_pos]
                · exact H15.out
                · unfold stemB digitP
                  rw [if_neg (by decide), decide_eq_true_eq]
                  omega
              clear HW2 H15
              go_wp2
              (try rw [Exit.noGoto_ret])
              go_ret2
              exact ⟨by rw [HV.out]; rfl, rfl⟩
            · have HV : Hid (R = (14, 3)) := by
                show _ = _
                rw [← HW2.out, if_neg (by
                  unfold stemB digitP
                  rw [if_neg (by decide), decide_eq_true_eq]
                  omega)]
                rfl
              clear HW2 H15
              have hc3 : 57 < (s[14].toNat : Int) := by omega
              go_wp2
              (try rw [Exit.noGoto_ret])
              go_ret2
              exact ⟨by rw [HV.out]; rfl, rfl⟩
          · have HV : Hid (R = (14, 3)) := by
              show _ = _
              rw [← HW2.out, if_neg (by
                unfold stemB digitP
                rw [if_neg (by decide), decide_eq_true_eq]
                omega)]
              rfl
            clear HW2 H15
            have hc3 : (s[14].toNat : Int) < 48 := by omega
            go_wp2
            (try rw [Exit.noGoto_ret])
            go_ret2
            exact ⟨by rw [HV.out]; rfl, rfl⟩
        · have hq14 : ((q : Int) == 14) = false := by simp; omega
          have hb0 : (0 : Int) ≤ (s[q].toNat : Int) := by omega
          have HB : Hid (s[q].toNat < 256) := s[q].toNat_lt
          by_cases h8 : q = 8
          · subst h8
            by_cases hc : (s[8].toNat : Int) = 84
            · have HW3 : Hid (wrongL (8 + 1) (s.data.toList.drop (8 + 1)) = R) := by
                show _ = _
                rw [← HW2.out, if_pos]
                unfold stemB
                rw [if_pos rfl, decide_eq_true_eq]
                exact UInt8.toNat_inj.1 (by have : (84 : UInt8).toNat = 84 := rfl; omega)
              clear HW2
              have hc' : ((s[8].toNat : Int) == 84) = true := by simpa using hc
              go_wp2
              go_round
              case rel => exact ⟨_ + 1, by omega, by go_num, HW3.out⟩
              case measure => first | (simp [intOf]; done) | (simp [intOf]; omega)
            · have HV : Hid (R = (8, 3)) := by
                show _ = _
                rw [← HW2.out, if_neg (by
                  unfold stemB
                  rw [if_pos rfl, decide_eq_true_eq]
                  intro e
                  apply hc
                  rw [e]
                  rfl)]
                rfl
              clear HW2
              have hc' : ((s[8].toNat : Int) == 84) = false := by simpa using hc
              go_wp2
              (try rw [Exit.noGoto_ret])
              go_ret2
              exact ⟨by rw [HV.out]; rfl, rfl⟩
          · have h8' : ((q : Int) == 8) = false := by simp; omega
            by_cases hc : 48 ≤ (s[q].toNat : Int)
            · by_cases hc2 : (s[q].toNat : Int) ≤ 57
              · have HW3 : Hid (wrongL (q + 1) (s.data.toList.drop (q + 1)) = R) := by
                  show _ = _
                  rw [← HW2.out, if_pos]
                  unfold stemB digitP
                  rw [if_neg h8, decide_eq_true_eq]
                  omega
                clear HW2
                go_wp2
                go_round
                case rel => exact ⟨_ + 1, by omega, by go_num, HW3.out⟩
                case measure => first | (simp [intOf]; done) | (simp [intOf]; omega)
              · have HV : Hid (R = ((q : Int), 3)) := by
                  show _ = _
                  rw [← HW2.out, if_neg (by
                    unfold stemB digitP
                    rw [if_neg h8, decide_eq_true_eq]
                    omega)]
                clear HW2
                have hc3 : 57 < (s[q].toNat : Int) := by omega
                go_wp2
                (try rw [Exit.noGoto_ret])
                go_ret2
                exact ⟨by rw [HV.out]; rfl, rfl⟩
            · have HV : Hid (R = ((q : Int), 3)) := by
                show _ = _
                rw [← HW2.out, if_neg (by
                  unfold stemB digitP
                  rw [if_neg h8, decide_eq_true_eq]
                  omega)]
              clear HW2
              have hc3 : (s[q].toNat : Int) < 48 := by omega
              go_wp2
              (try rw [Exit.noGoto_ret])
              go_ret2
              exact ⟨by rw [HV.out]; rfl, rfl⟩
    · have h16' : ((s.size : Nat) : Int) = 15 := by omega
      go_enter Tryz.func67, Tryz.ntmps67
      go_wp2
      go_step3
      go_wp2
      go_step3
      go_wp2
      go_loop [9] (fun i => ∃ q : Nat, q < 15 ∧ i = .int .i64 q ∧ wrongL q (s.data.toList.drop q) = R) (fun i => 15 - (intOf i).toNat)
      case atStart => exact ⟨0, by decide, rfl, HR.out⟩
      case round =>
        obtain ⟨q, hq, rfl, hw⟩ := hrel
        have HW := Lib.hid hw
        clear hw
        have hlt : q < s.size := by omega
        have hlt' : (q : Int) < (s.size : Int) := by omega
        have hq' : (q : Int) < 15 := by omega
        have HW2 : Hid ((if stemB q s[q] = true then wrongL (q + 1) (s.data.toList.drop (q + 1)) else ((q : Int), 3)) = R) := by
          show _ = _
          rw [← HW.out, HD.out q hlt]
          rw [wrongL_cons (by omega)]
        clear HW
        by_cases h14 : q = 14
        · subst h14
          have H15 : Hid (wrongL 15 (s.data.toList.drop 15) = (0, 0)) := by
            show _ = _
            cases s.data.toList.drop 15 with
            | nil => rfl
            | cons c l => rfl
          have hle : ¬ (s.size : Int) < 15 := by omega
          by_cases hc : 48 ≤ (s[14].toNat : Int)
          · by_cases hc2 : (s[14].toNat : Int) ≤ 57
            · have HV : Hid (R = (0, 0)) := by
                show _ = _
                rw [← HW2.out, if_pos]
                · exact H15.out
                · unfold stemB digitP
                  rw [if_neg (by decide), decide_eq_true_eq]
                  omega
              clear HW2 H15
              go_wp2
              (try rw [Exit.noGoto_ret])
              go_ret2
              exact ⟨by rw [HV.out]; rfl, rfl⟩
            · have HV : Hid (R = (14, 3)) := by
                show _ = _
                rw [← HW2.out, if_neg (by
                  unfold stemB digitP
                  rw [if_neg (by decide), decide_eq_true_eq]
                  omega)]
                rfl
              clear HW2 H15
              have hc3 : 57 < (s[14].toNat : Int) := by omega
              go_wp2
              (try rw [Exit.noGoto_ret])
              go_ret2
              exact ⟨by rw [HV.out]; rfl, rfl⟩
          · have HV : Hid (R = (14, 3)) := by
              show _ = _
              rw [← HW2.out, if_neg (by
                unfold stemB digitP
                rw [if_neg (by decide), decide_eq_true_eq]
                omega)]
              rfl
            clear HW2 H15
            have hc3 : (s[14].toNat : Int) < 48 := by omega
            go_wp2
            (try rw [Exit.noGoto_ret])
            go_ret2
            exact ⟨by rw [HV.out]; rfl, rfl⟩
        · have hq14 : ((q : Int) == 14) = false := by simp; omega
          have hb0 : (0 : Int) ≤ (s[q].toNat : Int) := by omega
          have HB : Hid (s[q].toNat < 256) := s[q].toNat_lt
          by_cases h8 : q = 8
          · subst h8
            by_cases hc : (s[8].toNat : Int) = 84
            · have HW3 : Hid (wrongL (8 + 1) (s.data.toList.drop (8 + 1)) = R) := by
                show _ = _
                rw [← HW2.out, if_pos]
                unfold stemB
                rw [if_pos rfl, decide_eq_true_eq]
                exact UInt8.toNat_inj.1 (by have : (84 : UInt8).toNat = 84 := rfl; omega)
              clear HW2
              have hc' : ((s[8].toNat : Int) == 84) = true := by simpa using hc
              go_wp2
              go_round
              case rel => exact ⟨_ + 1, by omega, by go_num, HW3.out⟩
              case measure => first | (simp [intOf]; done) | (simp [intOf]; omega)
            · have HV : Hid (R = (8, 3)) := by
                show _ = _
                rw [← HW2.out, if_neg (by
                  unfold stemB
                  rw [if_pos rfl, decide_eq_true_eq]
                  intro e
                  apply hc
                  rw [e]
                  rfl)]
                rfl
              clear HW2
              have hc' : ((s[8].toNat : Int) == 84) = false := by simpa using hc
              go_wp2
              (try rw [Exit.noGoto_ret])
              go_ret2
              exact ⟨by rw [HV.out]; rfl, rfl⟩
          · have h8' : ((q : Int) == 8) = false := by simp; omega
            by_cases hc : 48 ≤ (s[q].toNat : Int)
            · by_cases hc2 : (s[q].toNat : Int) ≤ 57
              · have HW3 : Hid (wrongL (q + 1) (s.data.toList.drop (q + 1)) = R) := by
                  show _ = _
                  rw [← HW2.out, if_pos]
                  unfold stemB digitP
                  rw [if_neg h8, decide_eq_true_eq]
                  omega
                clear HW2
                go_wp2
                go_round
                case rel => exact ⟨_ + 1, by omega, by go_num, HW3.out⟩
                case measure => first | (simp [intOf]; done) | (simp [intOf]; omega)
              · have HV : Hid (R = ((q : Int), 3)) := by
                  show _ = _
                  rw [← HW2.out, if_neg (by
                    unfold stemB digitP
                    rw [if_neg h8, decide_eq_true_eq]
                    omega)]
                clear HW2
                have hc3 : 57 < (s[q].toNat : Int) := by omega
                go_wp2
                (try rw [Exit.noGoto_ret])
                go_ret2
                exact ⟨by rw [HV.out]; rfl, rfl⟩
            · have HV : Hid (R = ((q : Int), 3)) := by
                show _ = _
                rw [← HW2.out, if_neg (by
                  unfold stemB digitP
                  rw [if_neg h8, decide_eq_true_eq]
                  omega)]
              clear HW2
              have hc3 : (s[q].toNat : Int) < 48 := by omega
              go_wp2
              (try rw [Exit.noGoto_ret])
              go_ret2
              exact ⟨by rw [HV.out]; rfl, rfl⟩
set_option maxHeartbeats 2000000 in
theorem mnum_any (t : ByteArray) (ht : t.size ≤ 4) (hd : ∀ c ∈ t.data.toList, digitP c = true) (w1 : World) : Calls Tryz.prog 69 #[.string t] w1 (Ret (.int .i64 (numOf t.data.toList)) w1) := by
  have HAll := Lib.hid hd
  obtain ⟨cap, C, hconv, hC⟩ := conv_bytes t w1
  have HC := Lib.hid hC
  clear hC hd
  have hcell : ∀ (i : Nat) (x : UInt8), t.data.toList[i]? = some x → (w1.alloc (.cells C 5 (C.size, C.size + 1))).cell? ⟨w1.heap.size, i, none⟩ = some (.int .u8 (x.toNat : Int)) := by
    intro i x hx
    have h1 := heap_alloc_new w1 (.cells C 5 (C.size, C.size + 1))
    unfold World.cell?
    rw [h1]
    exact HC.out i x hx
  have HCell := Lib.hid hcell
  have htl : t.data.toList.length = t.size := Array.length_toList
  clear hcell
  go_enter Tryz.func69, Tryz.ntmps69
  go_wp2
  go_loop [3, 9] (fun v i => ∃ q : Nat, q ≤ t.size ∧ i = .int .i64 q ∧ v = .int .i64 (numOf (t.data.toList.take q))) (fun _ i => t.size - (intOf i).toNat)
  case atStart => exact ⟨0, Nat.zero_le _, rfl, rfl⟩
  case round =>
    obtain ⟨q, hq, rfl, rfl⟩ := hrel
    by_cases hlt : q < t.size
    · have hx : t.data.toList[q]? = some t[q] := byte_at t q hlt
      have c0 := HCell.out q _ hx
      have hd : digitP t[q] = true := HAll.out _ (List.mem_of_getElem? hx)
      simp only [digitP, decide_eq_true_eq] at hd
      have hb1 : (48 : Int) ≤ (t[q].toNat : Int) := by omega
      have hb2 : (t[q].toNat : Int) ≤ 57 := by omega
      have hbd := numOf_bd (t.data.toList.take q) (fun c hc => HAll.out c (List.mem_of_mem_take hc))
      rw [List.length_take_of_le (by omega)] at hbd
      have hp := pow_le17 (k := q) (by omega)
      have hs1 : t.data.toList.take (q + 1) = t.data.toList.take q ++ [t[q]] := by
        rw [List.take_add_one, hx]; rfl
      have HS1 : Hid (numOf (t.data.toList.take (q + 1)) = 10 * numOf (t.data.toList.take q) + ((t[q].toNat : Int) - 48)) := by
        show _ = _
        rw [hs1, numOf_snoc]
      have hlt' : (q : Int) < (t.size : Int) := by omega
      have hn1 : 0 ≤ numOf (t.data.toList.take q) := hbd.1
      have hn2 : numOf (t.data.toList.take q) ≤ 100000000000000000 := by omega
      clear hx hd hbd hp hs1 htl
      generalize hg : numOf (t.data.toList.take q) = nq at *
      clear hg
      generalize hc : (t[q].toNat : Int) = cq at *
      clear hc
      go_wp2
      go_round
      case rel => exact ⟨q + 1, by omega, by go_num, by rw [HS1.out]⟩
      case measure => simp [intOf]; omega
    · obtain rfl : q = t.size := by omega
      have HE : Hid (numOf (t.data.toList.take t.size) = numOf t.data.toList) := by
        show _ = _
        rw [List.take_of_length_le (by omega)]
      go_wp2
      go_ret
      refine ⟨ret_int HE.out, ?_⟩
      exact ((Below.refl _ w1).alloc (Nat.le_refl _) _).drew
set_option maxHeartbeats 1000000 in
theorem mjoin_any (d s : Int) (h0 : 0 ≤ s) (h1 : s < 86400) (w : World) : Calls Tryz.prog 93 #[.int .i64 d, .int .i64 s] w (RetQ (.tuple #[.int .i64 (if 0 ≤ d ∧ d < 146097 then d * 86400 + s else 0), .bool (decide (0 ≤ d ∧ d < 146097))]) w) := by
  have h2 : ¬ s < 0 := by omega
  have h3 : ¬ 86400 ≤ s := by omega
  by_cases hd0 : d < 0
  · have e : (0 ≤ d ∧ d < 146097) ↔ False := by constructor; (· intro h; omega); (· intro h; exact h.elim)
    rw [if_neg (by omega), decide_eq_false (by omega)]
    clear e
    go_enter Tryz.func93, Tryz.ntmps93
    go_wp2
    go_ret2
    exact ⟨rfl, rfl⟩
  · by_cases hd1 : d < 146097
    · have hd2 : ¬ 146097 ≤ d := by omega
      rw [if_pos (by omega), decide_eq_true (by omega)]
      go_enter Tryz.func93, Tryz.ntmps93
      go_wp2
      go_ret2
      exact ⟨rfl, rfl⟩
    · have hd2 : 146097 ≤ d := by omega
      rw [if_neg (by omega), decide_eq_false (by omega)]
      go_enter Tryz.func93, Tryz.ntmps93
      go_wp2
      go_ret2
      exact ⟨rfl, rfl⟩
set_option maxHeartbeats 1000000 in
theorem todof_any (h m s : Int) (h0 : 0 ≤ h) (h9 : h ≤ 99) (m0 : 0 ≤ m) (m9 : m ≤ 99) (s0 : 0 ≤ s) (s9 : s ≤ 99) (w : World) : Calls Tryz.prog 92 #[.int .i64 h, .int .i64 m, .int .i64 s] w (RetQ (.tuple #[.int .i64 (if todC h m s = true then h * 3600 + m * 60 + s else 0), .bool (todC h m s)]) w) := by
  have a1 : ¬ h < 0 := by omega
  have a2 : ¬ m < 0 := by omega
  have a3 : ¬ s < 0 := by omega
  by_cases c1 : 24 ≤ h
  · have e : todC h m s = false := decide_eq_false (by omega)
    rw [e]
    simp only [Bool.false_eq_true, if_false]
    go_enter Tryz.func92, Tryz.ntmps92
    go_wp2
    go_ret2
    exact ⟨rfl, rfl⟩
  · by_cases c2 : 60 ≤ m
    · have e : todC h m s = false := decide_eq_false (by omega)
      rw [e]
      simp only [Bool.false_eq_true, if_false]
      go_enter Tryz.func92, Tryz.ntmps92
      go_wp2
      go_ret2
      exact ⟨rfl, rfl⟩
    · by_cases c3 : 60 ≤ s
      · have e : todC h m s = false := decide_eq_false (by omega)
        rw [e]
        simp only [Bool.false_eq_true, if_false]
        go_enter Tryz.func92, Tryz.ntmps92
        go_wp2
        go_ret2
        exact ⟨rfl, rfl⟩
      · have e : todC h m s = true := decide_eq_true (by omega)
        rw [e]
        simp only [if_true]
        go_enter Tryz.func92, Tryz.ntmps92
        go_wp2
        go_ret2
        exact ⟨rfl, rfl⟩
theorem floor_m1 (w : World) : Calls Tryz.prog 102 #[.int .i64 (-1), .int .i64 400] w (RetQ (.int .i64 (-1)) w) := by
  go_enter Tryz.func102, Tryz.ntmps102
  go_wp2
  go_ret
  exact ⟨rfl, rfl⟩
theorem mod_m1 (w : World) : Calls Tryz.prog 103 #[.int .i64 (-1), .int .i64 400] w (RetQ (.int .i64 399) w) := by
  go_enter Tryz.func103, Tryz.ntmps103
  go_wp2
  go_ret
  exact ⟨rfl, rfl⟩
theorem floor_400 (a : Int) (h0 : -1 ≤ a) (h1 : a ≤ 100000) (w : World) : Calls Tryz.prog 102 #[.int .i64 a, .int .i64 400] w (RetQ (.int .i64 (a / 400)) w) := by
  by_cases h : a = -1
  · subst h; exact floor_m1 w
  · exact floor_pos a 400 (by omega) (by omega) (by decide) (by decide) w
theorem mod_400 (a : Int) (h0 : -1 ≤ a) (h1 : a ≤ 100000) (w : World) : Calls Tryz.prog 103 #[.int .i64 a, .int .i64 400] w (RetQ (.int .i64 (a % 400)) w) := by
  by_cases h : a = -1
  · subst h; exact mod_m1 w
  · exact mod_pos a 400 (by omega) (by omega) (by decide) (by decide) w
set_option maxHeartbeats 4000000 in
theorem civnum_any (y m d : Int) (h0 : 0 ≤ y) (h1 : y ≤ 9999) (w : World) : Calls Tryz.prog 91 #[.int .i64 y, .int .i64 m, .int .i64 d] w (Ret (.tuple #[.int .i64 (if mayC y m d = true then numC y m d else 0), .bool (mayC y m d)]) w) := by
  have HM := Lib.hid (may_any y m d h0 (by omega))
  cases hm : mayC y m d with
  | false =>
    rw [hm] at HM
    simp only [Bool.false_eq_true, if_false]
    clear hm
    go_enter Tryz.func91, Tryz.ntmps91
    go_wp2_with fail
    refine (HM.out _).mono ?_
    rintro e w1 ⟨rfl, hb⟩
    go_wp2
    go_ret2
    exact ⟨rfl, hb⟩
  | true =>
    rw [hm] at HM
    simp only [if_true]
    unfold mayC at hm
    rw [decide_eq_true_eq] at hm
    obtain ⟨_, _, d1, d2⟩ := hm
    have hm12 : 1 ≤ m ∧ m ≤ 12 := by
      unfold lenC at d2
      split at d2
      · omega
      · omega
    have hd31 : d ≤ 31 := by have := (lenC_pos (y := y) hm12.1 hm12.2).2; omega
    obtain ⟨m1, m12⟩ := hm12
    clear d2
    by_cases h2 : m ≤ 2
    · have HF := Lib.hid (floor_400 (y - 1) (by omega) (by omega))
      have HO := Lib.hid (mod_400 (y - 1) (by omega) (by omega))
      have HR : Hid (numC y m d = (y - 1) / 400 * 146097 + ((y - 1) % 400 * 365 + (y - 1) % 400 / 4 - (y - 1) % 400 / 100) + ((153 * ((m + 9) % 12) + 2) / 5 + d - 1) - 719468) := by
        show _ = _
        unfold numC
        rw [if_pos h2]
      have b1 : -1 ≤ (y - 1) / 400 := by omega
      have b2 : (y - 1) / 400 ≤ 25 := by omega
      have b3 : 0 ≤ (y - 1) % 400 := by omega
      have b4 : (y - 1) % 400 < 400 := by omega
      generalize (y - 1) / 400 = E at *
      generalize (y - 1) % 400 = O at *
      generalize numC y m d = R at *
      go_enter Tryz.func91, Tryz.ntmps91
      go_wp2_with fail
      refine (HM.out _).mono ?_
      rintro e w1 ⟨rfl, hb⟩
      go_wp2_with fail
      refine (HF.out _).mono ?_
      rintro e w2 ⟨rfl, rfl⟩
      go_wp2_with fail
      refine (HO.out _).mono ?_
      rintro e w2 ⟨rfl, rfl⟩
      go_wp2
      go_ret2
      exact ⟨tup2 (by rw [HR.out]; omega), hb⟩
    · have HF := Lib.hid (floor_400 y (by omega) (by omega))
      have HO := Lib.hid (mod_400 y (by omega) (by omega))
      have HR : Hid (numC y m d = y / 400 * 146097 + (y % 400 * 365 + y % 400 / 4 - y % 400 / 100) + ((153 * ((m + 9) % 12) + 2) / 5 + d - 1) - 719468) := by
        show _ = _
        unfold numC
        rw [if_neg h2]
      have b1 : -1 ≤ y / 400 := by omega
      have b2 : y / 400 ≤ 25 := by omega
      have b3 : 0 ≤ y % 400 := by omega
      have b4 : y % 400 < 400 := by omega
      generalize y / 400 = E at *
      generalize y % 400 = O at *
      generalize numC y m d = R at *
      go_enter Tryz.func91, Tryz.ntmps91
      go_wp2_with fail
      refine (HM.out _).mono ?_
      rintro e w1 ⟨rfl, hb⟩
      go_wp2_with fail
      refine (HF.out _).mono ?_
      rintro e w2 ⟨rfl, rfl⟩
      go_wp2_with fail
      refine (HO.out _).mono ?_
      rintro e w2 ⟨rfl, rfl⟩
      go_wp2
      go_ret2
      exact ⟨tup2 (by rw [HR.out]; omega), hb⟩
end Go.Proofs.YtnelecjjbmjhaaaGreat
