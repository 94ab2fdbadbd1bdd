/- The walk of moment.Of and moment.Read. -/
import Derived.Test.YtnelecjjbmjhaaaGreatDoorRRule
/- The walk of moment.Read. -/
namespace Go.Proofs.YtnelecjjbmjhaaaGreatDoor
open Go.RowKit
set_option linter.unusedSimpArgs false
set_option linter.unusedVariables false

theorem tup2 {a b : Int} {c : Bool} (h : a = b) : Ending.returned (.tuple #[.int .i64 a, .bool c]) = .returned (.tuple #[.int .i64 b, .bool c]) := by rw [h]
theorem wrongL_cons {k : Nat} {c : UInt8} {l : List UInt8} (h : k < 15) : wrongL k (c :: l) = if stemB k c = true then wrongL (k + 1) l else ((k : Int), 3) := by
  rw [wrongL, if_neg (by omega)]
set_option maxHeartbeats 2000000 in
theorem mwrong_any (s : ByteArray) (hs : s.size ≤ 9223372036854775807) (w : World) : Calls Tryz.prog 130 #[.string s] w (RetQ (.tuple #[.int .i64 (wrongL 0 s.data.toList).1, .int .i64 (wrongL 0 s.data.toList).2]) w) := by
  have HD := Lib.hid (fun k (h : k < s.size) => drop_cons s k h)
  have HE := Lib.hid (drop_end s)
  generalize hR : wrongL 0 s.data.toList = R at *
  have HR := Lib.hid hR
  clear hR
  by_cases h15 : s.size < 15
  · have h15' : ((s.size : Nat) : Int) < 15 := by omega
    have h14 : ((s.size : Nat) : Int) ≤ 14 := by omega
    go_enter Tryz.func130, Tryz.ntmps130
    go_wp2
    go_step3
    go_wp2
    go_step3
    go_wp2
    go_loop [9] (fun i => ∃ q : Nat, q ≤ s.size ∧ i = .int .i64 q ∧ wrongL q (s.data.toList.drop q) = R) (fun i => s.size - (intOf i).toNat)
    case atStart => exact ⟨0, Nat.zero_le _, rfl, HR.out⟩
    case round =>
      obtain ⟨q, hq, rfl, hw⟩ := hrel
      have HW := Lib.hid hw
      clear hw
      by_cases hlt : q < s.size
      · have hlt' : (q : Int) < (s.size : Int) := by omega
        have hq14 : ((q : Int) == 14) = false := by simp; omega
        have HW2 : Hid ((if stemB q s[q] = true then wrongL (q + 1) (s.data.toList.drop (q + 1)) else ((q : Int), 3)) = R) := by
          show _ = _
          rw [← HW.out, HD.out q hlt]
          rw [wrongL_cons (by omega)]
        clear HW
        have hb0 : (0 : Int) ≤ (s[q].toNat : Int) := by omega
        have HB : Hid (s[q].toNat < 256) := s[q].toNat_lt
        by_cases h8 : q = 8
        · subst h8
          by_cases hc : (s[8].toNat : Int) = 84
          · have HW3 : Hid (wrongL (8 + 1) (s.data.toList.drop (8 + 1)) = R) := by
              show _ = _
              rw [← HW2.out, if_pos]
              unfold stemB
              rw [if_pos rfl, decide_eq_true_eq]
              exact UInt8.toNat_inj.1 (by have : (84 : UInt8).toNat = 84 := rfl; omega)
            clear HW2
            have hc' : ((s[8].toNat : Int) == 84) = true := by simpa using hc
            go_wp2
            go_round
            case rel => exact ⟨_ + 1, by omega, by go_num, HW3.out⟩
            case measure => first | (simp [intOf]; done) | (simp [intOf]; omega)
          · have HV : Hid (R = (8, 3)) := by
              show _ = _
              rw [← HW2.out, if_neg (by
                unfold stemB
                rw [if_pos rfl, decide_eq_true_eq]
                intro e
                apply hc
                rw [e]
                rfl)]
              rfl
            clear HW2
            have hc' : ((s[8].toNat : Int) == 84) = false := by simpa using hc
            go_wp2
            (try rw [Exit.noGoto_ret])
            go_ret2
            exact ⟨by rw [HV.out]; rfl, rfl⟩
        · have h8' : ((q : Int) == 8) = false := by simp; omega
          by_cases hc : 48 ≤ (s[q].toNat : Int)
          · by_cases hc2 : (s[q].toNat : Int) ≤ 57
            · have HW3 : Hid (wrongL (q + 1) (s.data.toList.drop (q + 1)) = R) := by
                show _ = _
                rw [← HW2.out, if_pos]
                unfold stemB digitP
                rw [if_neg h8, decide_eq_true_eq]
                omega
              clear HW2
              go_wp2
              go_round
              case rel => exact ⟨_ + 1, by omega, by go_num, HW3.out⟩
              case measure => first | (simp [intOf]; done) | (simp [intOf]; omega)
            · have HV : Hid (R = ((q : Int), 3)) := by
                show _ = _
                rw [← HW2.out, if_neg (by
                  unfold stemB digitP
                  rw [if_neg h8, decide_eq_true_eq]
                  omega)]
              clear HW2
              have hc3 : 57 < (s[q].toNat : Int) := by omega
              go_wp2
              (try rw [Exit.noGoto_ret])
              go_ret2
              exact ⟨by rw [HV.out]; rfl, rfl⟩
          · have HV : Hid (R = ((q : Int), 3)) := by
              show _ = _
              rw [← HW2.out, if_neg (by
                unfold stemB digitP
                rw [if_neg h8, decide_eq_true_eq]
                omega)]
            clear HW2
            have hc3 : (s[q].toNat : Int) < 48 := by omega
            go_wp2
            (try rw [Exit.noGoto_ret])
            go_ret2
            exact ⟨by rw [HV.out]; rfl, rfl⟩
      · obtain rfl : q = s.size := by omega
        have HV : Hid (R = ((s.size : Int), 2)) := by
          show _ = _
          rw [← HW.out, HE.out]
          unfold wrongL
          rw [if_pos h15]
        go_wp2
        (try rw [Exit.noGoto_ret])
        go_ret2
        exact ⟨by rw [HV.out]; rfl, rfl⟩
  · have h15' : ¬ ((s.size : Nat) : Int) < 15 := by omega
    by_cases h16 : 15 < s.size
    · have h16' : 15 < ((s.size : Nat) : Int) := by omega
      go_enter Tryz.func130, Tryz.ntmps130
      go_wp2
      go_step3
      go_wp2
      go_step3
      go_wp2
      go_loop [9] (fun i => ∃ q : Nat, q < 15 ∧ i = .int .i64 q ∧ wrongL q (s.data.toList.drop q) = R) (fun i => 15 - (intOf i).toNat)
      case atStart => exact ⟨0, by decide, rfl, HR.out⟩
      case round =>
        obtain ⟨q, hq, rfl, hw⟩ := hrel
        have HW := Lib.hid hw
        clear hw
        have hlt : q < s.size := by omega
        have hlt' : (q : Int) < (s.size : Int) := by omega
        have hq' : (q : Int) < 15 := by omega
        have HW2 : Hid ((if stemB q s[q] = true then wrongL (q + 1) (s.data.toList.drop (q + 1)) else ((q : Int), 3)) = R) := by
          show _ = _
          rw [← HW.out, HD.out q hlt]
          rw [wrongL_cons (by omega)]
        clear HW
        by_cases h14 : q = 14
        · subst h14
          have H15 : Hid (wrongL 15 (s.data.toList.drop 15) = (0, 0)) := by
            show _ = _
            cases s.data.toList.drop 15 with
            | nil => rfl
            | cons c l => rfl
          have hle : ¬ (s.size : Int) < 15 := by omega
          by_cases hc : 48 ≤ (s[14].toNat : Int)
          · by_cases hc2 : (s[14].toNat : Int) ≤ 57
            · have HV : Hid (R = (0, 0)) := by
                show _ = _
                rw [← HW2.out, if_pos]
                · exact H15.out
                · unfold stemB digitP
                  rw [if_neg (by decide), decide_eq_true_eq]
                  omega
              clear HW2 H15
              go_wp2
              (try rw [Exit.noGoto_ret])
              go_ret2
              exact ⟨by rw [HV.out]; rfl, rfl⟩
            · have HV : Hid (R = (14, 3)) := by
                show _ = _
                rw [← HW2.out, if_neg (by
                  unfold stemB digitP
                  rw [if_neg (by decide), decide_eq_true_eq]
                  omega)]
                rfl
              clear HW2 H15
              have hc3 : 57 < (s[14].toNat : Int) := by omega
              go_wp2
              (try rw [Exit.noGoto_ret])
              go_ret2
              exact ⟨by rw [HV.out]; rfl, rfl⟩
          · have HV : Hid (R = (14, 3)) := by
              show _ = _
              rw [← HW2.out, if_neg (by
                unfold stemB digitP
                rw [if_neg (by decide), decide_eq_true_eq]
                omega)]
              rfl
            clear HW2 H15
            have hc3 : (s[14].toNat : Int) < 48 := by omega
            go_wp2
            (try rw [Exit.noGoto_ret])
            go_ret2
            exact ⟨by rw [HV.out]; rfl, rfl⟩
        · have hq14 : ((q : Int) == 14) = false := by simp; omega
          have hb0 : (0 : Int) ≤ (s[q].toNat : Int) := by omega
          have HB : Hid (s[q].toNat < 256) := s[q].toNat_lt
          by_cases h8 : q = 8
          · subst h8
            by_cases hc : (s[8].toNat : Int) = 84
            · have HW3 : Hid (wrongL (8 + 1) (s.data.toList.drop (8 + 1)) = R) := by
                show _ = _
                rw [← HW2.out, if_pos]
                unfold stemB
                rw [if_pos rfl, decide_eq_true_eq]
                exact UInt8.toNat_inj.1 (by have : (84 : UInt8).toNat = 84 := rfl; omega)
              clear HW2
              have hc' : ((s[8].toNat : Int) == 84) = true := by simpa using hc
              go_wp2
              go_round
              case rel => exact ⟨_ + 1, by omega, by go_num, HW3.out⟩
              case measure => first | (simp [intOf]; done) | (simp [intOf]; omega)
            · have HV : Hid (R = (8, 3)) := by
                show _ = _
                rw [← HW2.out, if_neg (by
                  unfold stemB
                  rw [if_pos rfl, decide_eq_true_eq]
                  intro e
                  apply hc
                  rw [e]
                  rfl)]
                rfl
              clear HW2
              have hc' : ((s[8].toNat : Int) == 84) = false := by simpa using hc
              go_wp2
              (try rw [Exit.noGoto_ret])
              go_ret2
              exact ⟨by rw [HV.out]; rfl, rfl⟩
          · have h8' : ((q : Int) == 8) = false := by simp; omega
            by_cases hc : 48 ≤ (s[q].toNat : Int)
            · by_cases hc2 : (s[q].toNat : Int) ≤ 57
              · have HW3 : Hid (wrongL (q + 1) (s.data.toList.drop (q + 1)) = R) := by
                  show _ = _
                  rw [← HW2.out, if_pos]
                  unfold stemB digitP
                  rw [if_neg h8, decide_eq_true_eq]
                  omega
                clear HW2
                go_wp2
                go_round
                case rel => exact ⟨_ + 1, by omega, by go_num, HW3.out⟩
                case measure => first | (simp [intOf]; done) | (simp [intOf]; omega)
              · have HV : Hid (R = ((q : Int), 3)) := by
                  show _ = _
                  rw [← HW2.out, if_neg (by
                    unfold stemB digitP
                    rw [if_neg h8, decide_eq_true_eq]
                    omega)]
                clear HW2
                have hc3 : 57 < (s[q].toNat : Int) := by omega
                go_wp2
                (try rw [Exit.noGoto_ret])
                go_ret2
                exact ⟨by rw [HV.out]; rfl, rfl⟩
            · have HV : Hid (R = ((q : Int), 3)) := by
                show _ = _
                rw [← HW2.out, if_neg (by
                  unfold stemB digitP
                  rw [if_neg h8, decide_eq_true_eq]
                  omega)]
              clear HW2
              have hc3 : (s[q].toNat : Int) < 48 := by omega
              go_wp2
              (try rw [Exit.noGoto_ret])
              go_ret2
              exact ⟨by rw [HV.out]; rfl, rfl⟩
    · have h16' : ((s.size : Nat) : Int) = 15 := by omega
      go_enter Tryz.func130, Tryz.ntmps130
      go_wp2
      go_step3
      go_wp2
      go_step3
      go_wp2
      go_loop [9] (fun i => ∃ q : Nat, q < 15 ∧ i = .int .i64 q ∧ wrongL q (s.data.toList.drop q) = R) (fun i => 15 - (intOf i).toNat)
      case atStart => exact ⟨0, by decide, rfl, HR.out⟩
      case round =>
        obtain ⟨q, hq, rfl, hw⟩ := hrel
        have HW := Lib.hid hw
        clear hw
        have hlt : q < s.size := by omega
        have hlt' : (q : Int) < (s.size : Int) := by omega
        have hq' : (q : Int) < 15 := by omega
        have HW2 : Hid ((if stemB q s[q] = true then wrongL (q + 1) (s.data.toList.drop (q + 1)) else ((q : Int), 3)) = R) := by
          show _ = _
          rw [← HW.out, HD.out q hlt]
          rw [wrongL_cons (by omega)]
        clear HW
        by_cases h14 : q = 14
        · subst h14
          have H15 : Hid (wrongL 15 (s.data.toList.drop 15) = (0, 0)) := by
            show _ = _
            cases s.data.toList.drop 15 with
            | nil => rfl
            | cons c l => rfl
          have hle : ¬ (s.size : Int) < 15 := by omega
          by_cases hc : 48 ≤ (s[14].toNat : Int)
          · by_cases hc2 : (s[14].toNat : Int) ≤ 57
            · have HV : Hid (R = (0, 0)) := by
                show _ = _
                rw [← HW2.out, if_pos]
                · exact H15.out
                · unfold stemB digitP
                  rw [if_neg (by decide), decide_eq_true_eq]
                  omega
              clear HW2 H15
              go_wp2
              (try rw [Exit.noGoto_ret])
              go_ret2
              exact ⟨by rw [HV.out]; rfl, rfl⟩
            · have HV : Hid (R = (14, 3)) := by
                show _ = _
                rw [← HW2.out, if_neg (by
                  unfold stemB digitP
                  rw [if_neg (by decide), decide_eq_true_eq]
                  omega)]
                rfl
              clear HW2 H15
              have hc3 : 57 < (s[14].toNat : Int) := by omega
              go_wp2
              (try rw [Exit.noGoto_ret])
              go_ret2
              exact ⟨by rw [HV.out]; rfl, rfl⟩
          · have HV : Hid (R = (14, 3)) := by
              show _ = _
              rw [← HW2.out, if_neg (by
                unfold stemB digitP
                rw [if_neg (by decide), decide_eq_true_eq]
                omega)]
              rfl
            clear HW2 H15
            have hc3 : (s[14].toNat : Int) < 48 := by omega
            go_wp2
            (try rw [Exit.noGoto_ret])
            go_ret2
            exact ⟨by rw [HV.out]; rfl, rfl⟩
        · have hq14 : ((q : Int) == 14) = false := by simp; omega
          have hb0 : (0 : Int) ≤ (s[q].toNat : Int) := by omega
          have HB : Hid (s[q].toNat < 256) := s[q].toNat_lt
          by_cases h8 : q = 8
          · subst h8
            by_cases hc : (s[8].toNat : Int) = 84
            · have HW3 : Hid (wrongL (8 + 1) (s.data.toList.drop (8 + 1)) = R) := by
                show _ = _
                rw [← HW2.out, if_pos]
                unfold stemB
                rw [if_pos rfl, decide_eq_true_eq]
                exact UInt8.toNat_inj.1 (by have : (84 : UInt8).toNat = 84 := rfl; omega)
              clear HW2
              have hc' : ((s[8].toNat : Int) == 84) = true := by simpa using hc
              go_wp2
              go_round
              case rel => exact ⟨_ + 1, by omega, by go_num, HW3.out⟩
              case measure => first | (simp [intOf]; done) | (simp [intOf]; omega)
            · have HV : Hid (R = (8, 3)) := by
                show _ = _
                rw [← HW2.out, if_neg (by
                  unfold stemB
                  rw [if_pos rfl, decide_eq_true_eq]
                  intro e
                  apply hc
                  rw [e]
                  rfl)]
                rfl
              clear HW2
              have hc' : ((s[8].toNat : Int) == 84) = false := by simpa using hc
              go_wp2
              (try rw [Exit.noGoto_ret])
              go_ret2
              exact ⟨by rw [HV.out]; rfl, rfl⟩
          · have h8' : ((q : Int) == 8) = false := by simp; omega
            by_cases hc : 48 ≤ (s[q].toNat : Int)
            · by_cases hc2 : (s[q].toNat : Int) ≤ 57
              · have HW3 : Hid (wrongL (q + 1) (s.data.toList.drop (q + 1)) = R) := by
                  show _ = _
                  rw [← HW2.out, if_pos]
                  unfold stemB digitP
                  rw [if_neg h8, decide_eq_true_eq]
                  omega
                clear HW2
                go_wp2
                go_round
                case rel => exact ⟨_ + 1, by omega, by go_num, HW3.out⟩
                case measure => first | (simp [intOf]; done) | (simp [intOf]; omega)
              · have HV : Hid (R = ((q : Int), 3)) := by
                  show _ = _
                  rw [← HW2.out, if_neg (by
                    unfold stemB digitP
                    rw [if_neg h8, decide_eq_true_eq]
                    omega)]
                clear HW2
                have hc3 : 57 < (s[q].toNat : Int) := by omega
                go_wp2
                (try rw [Exit.noGoto_ret])
                go_ret2
                exact ⟨by rw [HV.out]; rfl, rfl⟩
            · have HV : Hid (R = ((q : Int), 3)) := by
                show _ = _
                rw [← HW2.out, if_neg (by
                  unfold stemB digitP
                  rw [if_neg h8, decide_eq_true_eq]
                  omega)]
              clear HW2
              have hc3 : (s[q].toNat : Int) < 48 := by omega
              go_wp2
              (try rw [Exit.noGoto_ret])
              go_ret2
              exact ⟨by rw [HV.out]; rfl, rfl⟩
set_option maxHeartbeats 2000000 in
theorem mnum_any (t : ByteArray) (ht : t.size ≤ 4) (hd : ∀ c ∈ t.data.toList, digitP c = true) (w1 : World) : Calls Tryz.prog 132 #[.string t] w1 (Ret (.int .i64 (numOf t.data.toList)) w1) := by
  have HAll := Lib.hid hd
  obtain ⟨cap, C, hconv, hC⟩ := conv_bytes t w1
  have HC := Lib.hid hC
  clear hC hd
  have hcell : ∀ (i : Nat) (x : UInt8), t.data.toList[i]? = some x → (w1.alloc (.cells C 5 (C.size, C.size + 1))).cell? ⟨w1.heap.size, i, none⟩ = some (.int .u8 (x.toNat : Int)) := by
    intro i x hx
    have h1 := heap_alloc_new w1 (.cells C 5 (C.size, C.size + 1))
    unfold World.cell?
    rw [h1]
    exact HC.out i x hx
  have HCell := Lib.hid hcell
  have htl : t.data.toList.length = t.size := Array.length_toList
  clear hcell
  go_enter Tryz.func132, Tryz.ntmps132
  go_wp2
  go_loop [3, 9] (fun v i => ∃ q : Nat, q ≤ t.size ∧ i = .int .i64 q ∧ v = .int .i64 (numOf (t.data.toList.take q))) (fun _ i => t.size - (intOf i).toNat)
  case atStart => exact ⟨0, Nat.zero_le _, rfl, rfl⟩
  case round =>
    obtain ⟨q, hq, rfl, rfl⟩ := hrel
    by_cases hlt : q < t.size
    · have hx : t.data.toList[q]? = some t[q] := byte_at t q hlt
      have c0 := HCell.out q _ hx
      have hd : digitP t[q] = true := HAll.out _ (List.mem_of_getElem? hx)
      simp only [digitP, decide_eq_true_eq] at hd
      have hb1 : (48 : Int) ≤ (t[q].toNat : Int) := by omega
      have hb2 : (t[q].toNat : Int) ≤ 57 := by omega
      have hbd := numOf_bd (t.data.toList.take q) (fun c hc => HAll.out c (List.mem_of_mem_take hc))
      rw [List.length_take_of_le (by omega)] at hbd
      have hp := pow_le17 (k := q) (by omega)
      have hs1 : t.data.toList.take (q + 1) = t.data.toList.take q ++ [t[q]] := by
        rw [List.take_add_one, hx]; rfl
      have HS1 : Hid (numOf (t.data.toList.take (q + 1)) = 10 * numOf (t.data.toList.take q) + ((t[q].toNat : Int) - 48)) := by
        show _ = _
        rw [hs1, numOf_snoc]
      have hlt' : (q : Int) < (t.size : Int) := by omega
      have hn1 : 0 ≤ numOf (t.data.toList.take q) := hbd.1
      have hn2 : numOf (t.data.toList.take q) ≤ 100000000000000000 := by omega
      clear hx hd hbd hp hs1 htl
      generalize hg : numOf (t.data.toList.take q) = nq at *
      clear hg
      generalize hc : (t[q].toNat : Int) = cq at *
      clear hc
      go_wp2
      go_round
      case rel => exact ⟨q + 1, by omega, by go_num, by rw [HS1.out]⟩
      case measure => simp [intOf]; omega
    · obtain rfl : q = t.size := by omega
      have HE : Hid (numOf (t.data.toList.take t.size) = numOf t.data.toList) := by
        show _ = _
        rw [List.take_of_length_le (by omega)]
      go_wp2
      go_ret
      refine ⟨ret_int HE.out, ?_⟩
      exact ((Below.refl _ w1).alloc (Nat.le_refl _) _).drew
set_option maxHeartbeats 1000000 in
theorem mjoin_any (d s : Int) (h0 : 0 ≤ s) (h1 : s < 86400) (w : World) : Calls Tryz.prog 177 #[.int .i64 d, .int .i64 s] w (RetQ (.tuple #[.int .i64 (if 0 ≤ d ∧ d < 146097 then d * 86400 + s else 0), .bool (decide (0 ≤ d ∧ d < 146097))]) w) := by
  have h2 : ¬ s < 0 := by omega
  have h3 : ¬ 86400 ≤ s := by omega
  by_cases hd0 : d < 0
  · have e : (0 ≤ d ∧ d < 146097) ↔ False := by constructor; (· intro h; omega); (· intro h; exact h.elim)
    rw [if_neg (by omega), decide_eq_false (by omega)]
    clear e
    go_enter Tryz.func177, Tryz.ntmps177
    go_wp2
    go_ret2
    exact ⟨rfl, rfl⟩
  · by_cases hd1 : d < 146097
    · have hd2 : ¬ 146097 ≤ d := by omega
      rw [if_pos (by omega), decide_eq_true (by omega)]
      go_enter Tryz.func177, Tryz.ntmps177
      go_wp2
      go_ret2
      exact ⟨rfl, rfl⟩
    · have hd2 : 146097 ≤ d := by omega
      rw [if_neg (by omega), decide_eq_false (by omega)]
      go_enter Tryz.func177, Tryz.ntmps177
      go_wp2
      go_ret2
      exact ⟨rfl, rfl⟩
set_option maxHeartbeats 1000000 in
theorem todof_any (h m s : Int) (h0 : 0 ≤ h) (h9 : h ≤ 99) (m0 : 0 ≤ m) (m9 : m ≤ 99) (s0 : 0 ≤ s) (s9 : s ≤ 99) (w : World) : Calls Tryz.prog 176 #[.int .i64 h, .int .i64 m, .int .i64 s] w (RetQ (.tuple #[.int .i64 (if todC h m s = true then h * 3600 + m * 60 + s else 0), .bool (todC h m s)]) w) := by
  have a1 : ¬ h < 0 := by omega
  have a2 : ¬ m < 0 := by omega
  have a3 : ¬ s < 0 := by omega
  by_cases c1 : 24 ≤ h
  · have e : todC h m s = false := decide_eq_false (by omega)
    rw [e]
    simp only [Bool.false_eq_true, if_false]
    go_enter Tryz.func176, Tryz.ntmps176
    go_wp2
    go_ret2
    exact ⟨rfl, rfl⟩
  · by_cases c2 : 60 ≤ m
    · have e : todC h m s = false := decide_eq_false (by omega)
      rw [e]
      simp only [Bool.false_eq_true, if_false]
      go_enter Tryz.func176, Tryz.ntmps176
      go_wp2
      go_ret2
      exact ⟨rfl, rfl⟩
    · by_cases c3 : 60 ≤ s
      · have e : todC h m s = false := decide_eq_false (by omega)
        rw [e]
        simp only [Bool.false_eq_true, if_false]
        go_enter Tryz.func176, Tryz.ntmps176
        go_wp2
        go_ret2
        exact ⟨rfl, rfl⟩
      · have e : todC h m s = true := decide_eq_true (by omega)
        rw [e]
        simp only [if_true]
        go_enter Tryz.func176, Tryz.ntmps176
        go_wp2
        go_ret2
        exact ⟨rfl, rfl⟩
theorem floor_m1 (w : World) : Calls Tryz.prog 197 #[.int .i64 (-1), .int .i64 400] w (RetQ (.int .i64 (-1)) w) := by
  go_enter Tryz.func197, Tryz.ntmps197
  go_wp2
  go_ret
  exact ⟨rfl, rfl⟩
theorem mod_m1 (w : World) : Calls Tryz.prog 198 #[.int .i64 (-1), .int .i64 400] w (RetQ (.int .i64 399) w) := by
  go_enter Tryz.func198, Tryz.ntmps198
  go_wp2
  go_ret
  exact ⟨rfl, rfl⟩
theorem floor_400 (a : Int) (h0 : -1 ≤ a) (h1 : a ≤ 100000) (w : World) : Calls Tryz.prog 197 #[.int .i64 a, .int .i64 400] w (RetQ (.int .i64 (a / 400)) w) := by
  by_cases h : a = -1
  · subst h; exact floor_m1 w
  · exact floor_pos a 400 (by omega) (by omega) (by decide) (by decide) w
theorem mod_400 (a : Int) (h0 : -1 ≤ a) (h1 : a ≤ 100000) (w : World) : Calls Tryz.prog 198 #[.int .i64 a, .int .i64 400] w (RetQ (.int .i64 (a % 400)) w) := by
  by_cases h : a = -1
  · subst h; exact mod_m1 w
  · exact mod_pos a 400 (by omega) (by omega) (by decide) (by decide) w
set_option maxHeartbeats 4000000 in
theorem civnum_any (y m d : Int) (h0 : 0 ≤ y) (h1 : y ≤ 9999) (w : World) : Calls Tryz.prog 175 #[.int .i64 y, .int .i64 m, .int .i64 d] w (Ret (.tuple #[.int .i64 (if mayC y m d = true then numC y m d else 0), .bool (mayC y m d)]) w) := by
  have HM := Lib.hid (may_any y m d h0 (by omega))
  cases hm : mayC y m d with
  | false =>
    rw [hm] at HM
    simp only [Bool.false_eq_true, if_false]
    clear hm
    go_enter Tryz.func175, Tryz.ntmps175
    go_wp2_with fail
    refine (HM.out _).mono ?_
    rintro e w1 ⟨rfl, hb⟩
    go_wp2
    go_ret2
    exact ⟨rfl, hb⟩
  | true =>
    rw [hm] at HM
    simp only [if_true]
    unfold mayC at hm
    rw [decide_eq_true_eq] at hm
    obtain ⟨_, _, d1, d2⟩ := hm
    have hm12 : 1 ≤ m ∧ m ≤ 12 := by
      unfold lenC at d2
      split at d2
      · omega
      · omega
    have hd31 : d ≤ 31 := by have := (lenC_pos (y := y) hm12.1 hm12.2).2; omega
    obtain ⟨m1, m12⟩ := hm12
    clear d2
    by_cases h2 : m ≤ 2
    · have HF := Lib.hid (floor_400 (y - 1) (by omega) (by omega))
      have HO := Lib.hid (mod_400 (y - 1) (by omega) (by omega))
      have HR : Hid (numC y m d = (y - 1) / 400 * 146097 + ((y - 1) % 400 * 365 + (y - 1) % 400 / 4 - (y - 1) % 400 / 100) + ((153 * ((m + 9) % 12) + 2) / 5 + d - 1) - 719468) := by
        show _ = _
        unfold numC
        rw [if_pos h2]
      have b1 : -1 ≤ (y - 1) / 400 := by omega
      have b2 : (y - 1) / 400 ≤ 25 := by omega
      have b3 : 0 ≤ (y - 1) % 400 := by omega
      have b4 : (y - 1) % 400 < 400 := by omega
      generalize (y - 1) / 400 = E at *
      generalize (y - 1) % 400 = O at *
      generalize numC y m d = R at *
      go_enter Tryz.func175, Tryz.ntmps175
      go_wp2_with fail
      refine (HM.out _).mono ?_
      rintro e w1 ⟨rfl, hb⟩
      go_wp2_with fail
      refine (HF.out _).mono ?_
      rintro e w2 ⟨rfl, rfl⟩
      go_wp2_with fail
      refine (HO.out _).mono ?_
      rintro e w2 ⟨rfl, rfl⟩
      go_wp2
      go_ret2
      exact ⟨tup2 (by rw [HR.out]; omega), hb⟩
    · have HF := Lib.hid (floor_400 y (by omega) (by omega))
      have HO := Lib.hid (mod_400 y (by omega) (by omega))
      have HR : Hid (numC y m d = y / 400 * 146097 + (y % 400 * 365 + y % 400 / 4 - y % 400 / 100) + ((153 * ((m + 9) % 12) + 2) / 5 + d - 1) - 719468) := by
        show _ = _
        unfold numC
        rw [if_neg h2]
      have b1 : -1 ≤ y / 400 := by omega
      have b2 : y / 400 ≤ 25 := by omega
      have b3 : 0 ≤ y % 400 := by omega
      have b4 : y % 400 < 400 := by omega
      generalize y / 400 = E at *
      generalize y % 400 = O at *
      generalize numC y m d = R at *
      go_enter Tryz.func175, Tryz.ntmps175
      go_wp2_with fail
      refine (HM.out _).mono ?_
      rintro e w1 ⟨rfl, hb⟩
      go_wp2_with fail
      refine (HF.out _).mono ?_
      rintro e w2 ⟨rfl, rfl⟩
      go_wp2_with fail
      refine (HO.out _).mono ?_
      rintro e w2 ⟨rfl, rfl⟩
      go_wp2
      go_ret2
      exact ⟨tup2 (by rw [HR.out]; omega), hb⟩
end Go.Proofs.YtnelecjjbmjhaaaGreatDoor

namespace Go.Proofs.YtnelecjjbmjhaaaGreatDoor
open Go.RowKit
set_option linter.unusedSimpArgs false
set_option linter.unusedVariables false

theorem ite_int {b : Bool} {x : Int} : (if b = true then x else 0) = if b then x else 0 := rfl
theorem ret3_eq {a b c a' b' c' : Int} (h1 : a = a') (h2 : b = b') (h3 : c = c') : Ending.returned (.tuple #[.int .i64 a, .int .i64 b, .int .i64 c]) = .returned (.tuple #[.int .i64 a', .int .i64 b', .int .i64 c']) := by rw [h1, h2, h3]
set_option maxHeartbeats 4000000 in
theorem mof_any (y m d h mi s : Int) (y0 : 0 ≤ y) (y9 : y ≤ 9999) (h0 : 0 ≤ h) (h9 : h ≤ 99) (m0 : 0 ≤ mi) (m9 : mi ≤ 99) (s0 : 0 ≤ s) (s9 : s ≤ 99) (w : World) :
    Calls Tryz.prog 131 #[.agg #[.int .i64 y, .int .i64 m, .int .i64 d, .int .i64 h, .int .i64 mi, .int .i64 s]] w (Ret (.tuple #[.int .i64 (if momB y m d h mi s = true then momI y m d h mi s else 0), .bool (momB y m d h mi s)]) w) := by
  have HN := Lib.hid (civnum_any y m d y0 y9)
  have HT := Lib.hid (todof_any h mi s h0 h9 m0 m9 s0 s9)
  have HB : Hid (momB y m d h mi s = (mayC y m d && todC h mi s && decide (0 ≤ numC y m d ∧ numC y m d < 146097))) := rfl
  have HI : Hid (momI y m d h mi s = numC y m d * 86400 + (h * 3600 + mi * 60 + s)) := rfl
  generalize momB y m d h mi s = B at *
  generalize momI y m d h mi s = I at *
  cases hm : mayC y m d with
  | false =>
    rw [hm] at HN HB
    have HB2 : B = false := by rw [HB.out]; rfl
    subst HB2
    clear HB
    simp only [Bool.false_eq_true, if_false] at HN ⊢
    cases ht : todC h mi s with
    | false =>
      rw [ht] at HT
      simp only [Bool.false_eq_true, if_false] at HT
      clear hm ht
      go_enter Tryz.func131, Tryz.ntmps131
      go_wp2_with fail
      refine (HN.out _).mono ?_
      rintro e w1 ⟨rfl, hb1⟩
      obtain ⟨hc, hf⟩ := bcell hb1
      have hz : w.heap.size < w1.heap.size := by have := hb1.size; simp at this; omega
      have hbw : Below w.heap.size w w1 := ((Below.refl _ w).alloc (Nat.le_refl _) _).trans (hb1.mono (by simp))
      clear hb1
      go_wp2_with fail
      refine (HT.out _).mono ?_
      rintro e w2 ⟨rfl, rfl⟩
      go_wp2
      go_ret2
      exact ⟨rfl, hbw⟩
    | true =>
      rw [ht] at HT
      simp only [if_true] at HT
      clear hm ht
      generalize h * 3600 + mi * 60 + s = S at *
      go_enter Tryz.func131, Tryz.ntmps131
      go_wp2_with fail
      refine (HN.out _).mono ?_
      rintro e w1 ⟨rfl, hb1⟩
      obtain ⟨hc, hf⟩ := bcell hb1
      have hz : w.heap.size < w1.heap.size := by have := hb1.size; simp at this; omega
      have hbw : Below w.heap.size w w1 := ((Below.refl _ w).alloc (Nat.le_refl _) _).trans (hb1.mono (by simp))
      clear hb1
      go_wp2_with fail
      refine (HT.out _).mono ?_
      rintro e w2 ⟨rfl, rfl⟩
      go_wp2
      go_ret2
      exact ⟨rfl, hbw⟩
  | true =>
    rw [hm] at HN HB
    simp only [if_true] at HN
    cases ht : todC h mi s with
    | false =>
      rw [ht] at HT HB
      have HB2 : B = false := by rw [HB.out]; rfl
      subst HB2
      clear HB
      simp only [Bool.false_eq_true, if_false] at HT ⊢
      clear hm ht
      generalize numC y m d = D at *
      go_enter Tryz.func131, Tryz.ntmps131
      go_wp2_with fail
      refine (HN.out _).mono ?_
      rintro e w1 ⟨rfl, hb1⟩
      obtain ⟨hc, hf⟩ := bcell hb1
      have hz : w.heap.size < w1.heap.size := by have := hb1.size; simp at this; omega
      have hbw : Below w.heap.size w w1 := ((Below.refl _ w).alloc (Nat.le_refl _) _).trans (hb1.mono (by simp))
      clear hb1
      go_wp2_with fail
      refine (HT.out _).mono ?_
      rintro e w2 ⟨rfl, rfl⟩
      go_wp2
      go_ret2
      exact ⟨rfl, hbw⟩
    | true =>
      rw [ht] at HT HB
      simp only [if_true] at HT
      have hS : h < 24 ∧ mi < 60 ∧ s < 60 := by unfold todC at ht; exact of_decide_eq_true ht
      have HJ := Lib.hid (fun W => mjoin_any (numC y m d) (h * 3600 + mi * 60 + s) (by omega) (by omega) W)
      rw [← HI.out] at HJ
      have HB2 : B = decide (0 ≤ numC y m d ∧ numC y m d < 146097) := by rw [HB.out]; rfl
      have HV : Hid ((if B = true then I else 0) = if 0 ≤ numC y m d ∧ numC y m d < 146097 then I else 0) := by
        show _ = _
        rw [HB2]
        simp only [decide_eq_true_eq]
      rw [← HV.out, ← HB2] at HJ
      clear hm ht HB HB2 HV HI hS
      generalize (if B = true then I else 0) = V at *
      generalize numC y m d = D at *
      generalize h * 3600 + mi * 60 + s = S at *
      go_enter Tryz.func131, Tryz.ntmps131
      go_wp2_with fail
      refine (HN.out _).mono ?_
      rintro e w1 ⟨rfl, hb1⟩
      obtain ⟨hc, hf⟩ := bcell hb1
      have hz : w.heap.size < w1.heap.size := by have := hb1.size; simp at this; omega
      have hbw : Below w.heap.size w w1 := ((Below.refl _ w).alloc (Nat.le_refl _) _).trans (hb1.mono (by simp))
      clear hb1
      go_wp2_with fail
      refine (HT.out _).mono ?_
      rintro e w2 ⟨rfl, rfl⟩
      go_wp2_with fail
      refine (HJ.out _).mono ?_
      rintro e w3 ⟨rfl, rfl⟩
      go_wp2
      go_ret2
      exact ⟨rfl, hbw⟩
theorem take_data (s : ByteArray) (i j : Nat) : (s.extract i j).data.toList = (s.data.toList.drop i).take (j - i) := by rw [extract_list]
theorem wrong_all {l : List UInt8} : ∀ {k : Nat}, (wrongL k l).2 = 0 → k ≤ 15 → 15 ≤ k + l.length ∧ ∀ j c, l[j]? = some c → k + j < 15 → stemB (k + j) c = true := by
  induction l with
  | nil =>
    intro k h hk
    unfold wrongL at h
    split at h
    · cases h
    · exact ⟨by omega, fun j c hc => by cases hc⟩
  | cons a l ih =>
    intro k h hk
    by_cases h15 : 15 ≤ k
    · exact ⟨by omega, fun j c _ hj => by omega⟩
    · rw [wrongL_cons (by omega)] at h
      split at h
      · rename_i hs
        obtain ⟨h1, h2⟩ := ih h (by omega)
        rw [List.length_cons]
        refine ⟨by omega, fun j c hc hj => ?_⟩
        cases j with
        | zero =>
          rw [List.getElem?_cons_zero] at hc
          cases hc
          exact hs
        | succ j =>
          rw [List.getElem?_cons_succ] at hc
          have := h2 j c hc (by omega)
          rwa [show k + 1 + j = k + (j + 1) by omega] at this
      · cases h
theorem stem_digits {l : List UInt8} (h : (wrongL 0 l).2 = 0) {i n : Nat} (hi : i + n ≤ 15) (h8 : 8 < i ∨ i + n ≤ 8) : ∀ c ∈ (l.drop i).take n, digitP c = true := by
  intro c hc
  obtain ⟨j, hj⟩ := List.getElem?_of_mem hc
  have hjl := (List.getElem?_eq_some_iff.1 hj).1
  rw [List.length_take, List.length_drop] at hjl
  rw [List.getElem?_take_of_lt (by omega), List.getElem?_drop] at hj
  have := (wrong_all h (by omega)).2 (i + j) c hj (by omega)
  rw [Nat.zero_add] at this
  unfold stemB at this
  rw [if_neg (by omega)] at this
  exact this
theorem num_le2 {l : List UInt8} (h : ∀ c ∈ l, digitP c = true) (hl : l.length ≤ 2) : 0 ≤ numOf l ∧ numOf l ≤ 99 := by
  have h1 := numOf_bd l h
  have : (10 : Int) ^ l.length ≤ 100 := by
    obtain e | e | e : l.length = 0 ∨ l.length = 1 ∨ l.length = 2 := by omega
    all_goals rw [e]; decide
  omega
theorem num_le4 {l : List UInt8} (h : ∀ c ∈ l, digitP c = true) (hl : l.length ≤ 4) : 0 ≤ numOf l ∧ numOf l ≤ 9999 := by
  have h1 := numOf_bd l h
  have : (10 : Int) ^ l.length ≤ 10000 := by
    obtain e | e | e | e | e : l.length = 0 ∨ l.length = 1 ∨ l.length = 2 ∨ l.length = 3 ∨ l.length = 4 := by omega
    all_goals rw [e]; decide
  omega
theorem ext_num {s : ByteArray} (h : (wrongL 0 s.data.toList).2 = 0) {i n : Nat} (hi : i + n ≤ 15) (h8 : 8 < i ∨ i + n ≤ 8) (hn : n ≤ 4) (w : World) : Calls Tryz.prog 132 #[.string (s.extract i (i + n))] w (Ret (.int .i64 (numOf ((s.data.toList.drop i).take n))) w) := by
  have e : (s.extract i (i + n)).data.toList = (s.data.toList.drop i).take n := by rw [take_data, Nat.add_sub_cancel_left]
  have := mnum_any (s.extract i (i + n)) (by simp; omega) (by rw [e]; exact stem_digits h hi h8) w
  rwa [e] at this
set_option maxHeartbeats 8000000 in
theorem mread_any (s : ByteArray) (hs : s.size ≤ 9223372036854775807) (w : World) : Calls Tryz.prog 73 #[.string s] w (Ret (.tuple #[.int .i64 (momP s.data.toList).1, .int .i64 (momP s.data.toList).2.1, .int .i64 (momP s.data.toList).2.2]) w) := by
  have HW := Lib.hid (mwrong_any s hs)
  by_cases hw : (wrongL 0 s.data.toList).2 = 0
  · have h15 := (wrong_all hw (by omega)).1
    rw [Nat.zero_add, len_data] at h15
    have h15' : (15 : Int) ≤ (s.size : Int) := by omega
    have k4 : ¬ (s.size : Int) < 4 := by omega
    have D0 : Hid (∀ W : World, Calls Tryz.prog 132 #[.string (s.extract 0 4)] W (Ret (.int .i64 (yMP s.data.toList)) W)) := fun W => ext_num hw (i := 0) (n := 4) (by decide) (by decide) (by decide) W
    have D1 : Hid (∀ W : World, Calls Tryz.prog 132 #[.string (s.extract 4 6)] W (Ret (.int .i64 (moMP s.data.toList)) W)) := fun W => ext_num hw (i := 4) (n := 2) (by decide) (by decide) (by decide) W
    have D2 : Hid (∀ W : World, Calls Tryz.prog 132 #[.string (s.extract 6 8)] W (Ret (.int .i64 (dMP s.data.toList)) W)) := fun W => ext_num hw (i := 6) (n := 2) (by decide) (by decide) (by decide) W
    have D3 : Hid (∀ W : World, Calls Tryz.prog 132 #[.string (s.extract 9 11)] W (Ret (.int .i64 (hMP s.data.toList)) W)) := fun W => ext_num hw (i := 9) (n := 2) (by decide) (by decide) (by decide) W
    have D4 : Hid (∀ W : World, Calls Tryz.prog 132 #[.string (s.extract 11 13)] W (Ret (.int .i64 (miMP s.data.toList)) W)) := fun W => ext_num hw (i := 11) (n := 2) (by decide) (by decide) (by decide) W
    have D5 : Hid (∀ W : World, Calls Tryz.prog 132 #[.string (s.extract 13 15)] W (Ret (.int .i64 (sMP s.data.toList)) W)) := fun W => ext_num hw (i := 13) (n := 2) (by decide) (by decide) (by decide) W
    have by0 : 0 ≤ yMP s.data.toList ∧ yMP s.data.toList ≤ 9999 := num_le4 (by have := stem_digits hw (i := 0) (n := 4) (by decide) (by decide); exact this) (by simp; omega)
    have bh0 : 0 ≤ hMP s.data.toList ∧ hMP s.data.toList ≤ 99 := num_le2 (stem_digits hw (i := 9) (n := 2) (by decide) (by decide)) (by simp; omega)
    have bm0 : 0 ≤ miMP s.data.toList ∧ miMP s.data.toList ≤ 99 := num_le2 (stem_digits hw (i := 11) (n := 2) (by decide) (by decide)) (by simp; omega)
    have bs0 : 0 ≤ sMP s.data.toList ∧ sMP s.data.toList ≤ 99 := num_le2 (stem_digits hw (i := 13) (n := 2) (by decide) (by decide)) (by simp; omega)
    have DO := Lib.hid (mof_any (yMP s.data.toList) (moMP s.data.toList) (dMP s.data.toList) (hMP s.data.toList) (miMP s.data.toList) (sMP s.data.toList) by0.1 by0.2 bh0.1 bh0.2 bm0.1 bm0.2 bs0.1 bs0.2)
    have HR : Hid (momP s.data.toList = if momB (yMP s.data.toList) (moMP s.data.toList) (dMP s.data.toList) (hMP s.data.toList) (miMP s.data.toList) (sMP s.data.toList) = false then (0, 0, 4) else if s.data.toList[15]? ≠ some 90 then (0, 15, 7) else if 16 < s.data.toList.length then (0, 16, 7) else (momI (yMP s.data.toList) (moMP s.data.toList) (dMP s.data.toList) (hMP s.data.toList) (miMP s.data.toList) (sMP s.data.toList), 16, 0)) := by
      show _ = _
      unfold momP
      rw [if_neg (by simpa using hw)]
    rw [hw] at HW
    generalize momP s.data.toList = R at *
    generalize momB (yMP s.data.toList) (moMP s.data.toList) (dMP s.data.toList) (hMP s.data.toList) (miMP s.data.toList) (sMP s.data.toList) = B at *
    generalize momI (yMP s.data.toList) (moMP s.data.toList) (dMP s.data.toList) (hMP s.data.toList) (miMP s.data.toList) (sMP s.data.toList) = I at *
    generalize yMP s.data.toList = Y at *
    generalize moMP s.data.toList = MO at *
    generalize dMP s.data.toList = DA at *
    generalize hMP s.data.toList = HH at *
    generalize miMP s.data.toList = MI at *
    generalize sMP s.data.toList = SE at *
    generalize (wrongL 0 s.data.toList).1 = w1 at *
    rw [len_data] at HR
    clear hw by0 bh0 bm0 bs0
    cases B with
    | false =>
      simp only [Bool.false_eq_true, if_false, if_true] at HR DO
      have HV := Lib.hid HR.out
      clear HR
      go_enter Tryz.func73, Tryz.ntmps73
      go_wp2_with fail
      refine (HW.out _).mono ?_
      rintro e wA ⟨rfl, rfl⟩
      go_wp2
      refine wp_region_grew (by kernel_rfl) (by kernel_rfl) ?_
      repeat (first | go_big_quiet_skip | (go_big_quiet_want; go_big_quiet_op; (first | go_big_quiet_on | go_big_quiet_call ((with_reducible first | exact ext_call _ (D0.out _) | exact ext_call _ (D1.out _) | exact ext_call _ (D2.out _) | exact ext_call _ (D3.out _) | exact ext_call _ (D4.out _) | exact ext_call _ (D5.out _) | exact ext_call _ (DO.out _))))))
      refine wpQuiet_nil ?_
      rintro _ ⟨xw, rfl⟩
      go_wp2
      go_ret3
      exact ⟨by rw [HV.out]; rfl, xw.h⟩
    | true =>
      simp only [Bool.true_eq_false, if_false, if_true] at HR DO
      by_cases h16 : s.size < 16
      · have h16' : (s.size : Int) < 16 := by omega
        have HV : Hid (R = (0, 15, 7)) := by
          show _ = _
          rw [HR.out, if_pos]
          rw [List.getElem?_eq_none (by rw [len_data]; omega)]
          simp
        clear HR
        go_enter Tryz.func73, Tryz.ntmps73
        go_wp2_with fail
        refine (HW.out _).mono ?_
        rintro e wA ⟨rfl, rfl⟩
        go_wp2
        refine wp_region_grew (by kernel_rfl) (by kernel_rfl) ?_
        repeat (first | go_big_quiet_skip | (go_big_quiet_want; go_big_quiet_op; (first | go_big_quiet_on | go_big_quiet_call ((with_reducible first | exact ext_call _ (D0.out _) | exact ext_call _ (D1.out _) | exact ext_call _ (D2.out _) | exact ext_call _ (D3.out _) | exact ext_call _ (D4.out _) | exact ext_call _ (D5.out _) | exact ext_call _ (DO.out _))))))
        refine wpQuiet_nil ?_
        rintro _ ⟨xw, rfl⟩
        go_wp2
        go_ret3
        exact ⟨by rw [HV.out]; rfl, xw.h⟩
      · have h16' : ¬ (s.size : Int) < 16 := by omega
        have hx : s.data.toList[15]? = some s[15] := byte_at s 15 (by omega)
        have h15s : (15 : Int) < (s.size : Int) := by omega
        rw [hx] at HR
        by_cases hz : (s[15].toNat : Int) = 90
        · have hz' : ((s[15].toNat : Int) != 90) = false := by simpa using hz
          have hz2 : s[15] = 90 := UInt8.toNat_inj.1 (by have : (90 : UInt8).toNat = 90 := rfl; omega)
          have HR2 : Hid (R = if 16 < s.size then (0, 16, 7) else (I, 16, 0)) := by
            show _ = _
            rw [HR.out, if_neg (by rw [hz2]; simp)]
          clear HR hz hx hz2
          by_cases h17 : 16 < s.size
          · have h17' : 16 < (s.size : Int) := by omega
            have HV : Hid (R = (0, 16, 7)) := by show _ = _; rw [HR2.out, if_pos h17]
            clear HR2
            go_enter Tryz.func73, Tryz.ntmps73
            go_wp2_with fail
            refine (HW.out _).mono ?_
            rintro e wA ⟨rfl, rfl⟩
            go_wp2
            refine wp_region_grew (by kernel_rfl) (by kernel_rfl) ?_
            repeat (first | go_big_quiet_skip | (go_big_quiet_want; go_big_quiet_op; (first | go_big_quiet_on | go_big_quiet_call ((with_reducible first | exact ext_call _ (D0.out _) | exact ext_call _ (D1.out _) | exact ext_call _ (D2.out _) | exact ext_call _ (D3.out _) | exact ext_call _ (D4.out _) | exact ext_call _ (D5.out _) | exact ext_call _ (DO.out _))))))
            refine wpQuiet_nil ?_
            rintro _ ⟨xw, rfl⟩
            go_wp2
            go_ret3
            exact ⟨by rw [HV.out]; rfl, xw.h⟩
          · have h17' : ¬ 16 < (s.size : Int) := by omega
            have HV : Hid (R = (I, 16, 0)) := by show _ = _; rw [HR2.out, if_neg h17]
            clear HR2
            go_enter Tryz.func73, Tryz.ntmps73
            go_wp2_with fail
            refine (HW.out _).mono ?_
            rintro e wA ⟨rfl, rfl⟩
            go_wp2
            refine wp_region_grew (by kernel_rfl) (by kernel_rfl) ?_
            repeat (first | go_big_quiet_skip | (go_big_quiet_want; go_big_quiet_op; (first | go_big_quiet_on | go_big_quiet_call ((with_reducible first | exact ext_call _ (D0.out _) | exact ext_call _ (D1.out _) | exact ext_call _ (D2.out _) | exact ext_call _ (D3.out _) | exact ext_call _ (D4.out _) | exact ext_call _ (D5.out _) | exact ext_call _ (DO.out _))))))
            refine wpQuiet_nil ?_
            rintro _ ⟨xw, rfl⟩
            go_wp2
            go_ret3
            exact ⟨by rw [HV.out]; rfl, xw.h⟩
        · have hz' : ((s[15].toNat : Int) != 90) = true := by simpa using hz
          have HV : Hid (R = (0, 15, 7)) := by
            show _ = _
            rw [HR.out, if_pos]
            intro e
            apply hz
            injection e with e
            rw [e]
            rfl
          clear HR hz hx
          go_enter Tryz.func73, Tryz.ntmps73
          go_wp2_with fail
          refine (HW.out _).mono ?_
          rintro e wA ⟨rfl, rfl⟩
          go_wp2
          refine wp_region_grew (by kernel_rfl) (by kernel_rfl) ?_
          repeat (first | go_big_quiet_skip | (go_big_quiet_want; go_big_quiet_op; (first | go_big_quiet_on | go_big_quiet_call ((with_reducible first | exact ext_call _ (D0.out _) | exact ext_call _ (D1.out _) | exact ext_call _ (D2.out _) | exact ext_call _ (D3.out _) | exact ext_call _ (D4.out _) | exact ext_call _ (D5.out _) | exact ext_call _ (DO.out _))))))
          refine wpQuiet_nil ?_
          rintro _ ⟨xw, rfl⟩
          go_wp2
          go_ret3
          exact ⟨by rw [HV.out]; rfl, xw.h⟩
  · have HV : Hid (momP s.data.toList = (0, (wrongL 0 s.data.toList).1, (wrongL 0 s.data.toList).2)) := by
      show _ = _
      unfold momP
      rw [if_pos hw]
    have hw' : ((wrongL 0 s.data.toList).2 != 0) = true := by simpa using hw
    generalize momP s.data.toList = R at *
    generalize (wrongL 0 s.data.toList).1 = w1 at *
    generalize (wrongL 0 s.data.toList).2 = w2 at *
    clear hw
    go_enter Tryz.func73, Tryz.ntmps73
    go_wp2_with fail
    refine (HW.out _).mono ?_
    rintro e wA ⟨rfl, rfl⟩
    go_wp2
    go_ret3
    exact ⟨by rw [HV.out]; rfl, Below.refl _ _⟩
end Go.Proofs.YtnelecjjbmjhaaaGreatDoor
