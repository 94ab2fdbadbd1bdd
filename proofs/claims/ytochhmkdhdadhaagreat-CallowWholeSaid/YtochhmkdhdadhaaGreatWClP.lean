/- The walks of clause.ordinal, further. -/
import Derived.Test.YtochhmkdhdadhaaGreatWClL
import Derived.ChangeKeysEq
import Derived.DeepKeys
/- The walks of clause.within. -/
namespace Go.Proofs.YtochhmkdhdadhaaGreat
open Go.RowKit
set_option linter.unusedSimpArgs false
set_option linter.unusedVariables false

def prEnc (p : Int × Int) : List Value := [.int .u64 p.1, .int .u64 p.2]
abbrev RdPrs (w : World) (A : Option Addr) (n : Nat) (l : List (Int × Int)) : Prop := Rd 2 prEnc w A n l
theorem RdPrs.at_ {w : World} {A : Option Addr} {n : Nat} {l : List (Int × Int)} (h : RdPrs w A n l) {i : Nat} (hi : i < n) :
    ∃ b o p, A = some ⟨b, o, none⟩ ∧ b < w.heap.size ∧ l[i]? = some p ∧ w.cell? ⟨b, o + i * 2, none⟩ = some (.int .u64 p.1) ∧ w.cell? ⟨b, o + i * 2 + 1, none⟩ = some (.int .u64 p.2) := by
  obtain ⟨b, o, hA, hb, hc⟩ := h.2 (by omega)
  have hx : l[i]? = some (l[i]'(by have := h.1; omega)) := List.getElem?_eq_getElem _
  exact ⟨b, o, _, hA, hb, hx, hc i _ hx 0 _ rfl, hc i _ hx 1 _ rfl⟩
def noMore (p : Int × Int) : Bool := bits .andNot .u64 p.1 p.2 == 0
set_option maxHeartbeats 1000000 in
theorem cwithin_any (A : Option Addr) (n c : Nat) (l : List (Int × Int)) (w : World) (hA : RdPrs w A n l) (hn : n ≤ 1000000) : Calls Tryz.prog 31 #[.slice A n c] w (Ret (.bool (l.all noMore)) w) := by
  have HL : Hid (l.length = n) := hA.1
  have HA := Lib.hid hA
  clear hA
  go_enter Tryz.func31, Tryz.ntmps31
  go_wp2
  go_loopw [7] (fun i wr => ∃ k : Nat, k ≤ n ∧ i = .int .i64 k ∧ Hid (∀ j p, j < k → l[j]? = some p → noMore p = true) ∧ Below w.heap.size w wr) (fun i _ => n - (intOf i).toNat)
  case atStart => exact ⟨0, Nat.zero_le _, rfl, fun j _ h => absurd h (Nat.not_lt_zero _), Below.refl _ _⟩
  case round =>
    obtain ⟨k, hk, rfl, H, hb⟩ := hrel
    have hsz := hb.size
    by_cases hlt : k < n
    · obtain ⟨b, o, p, rfl, hbl, hx, c0, c1⟩ := RdPrs.at_ (HA.out.below hb (Nat.le_refl _)) hlt
      have hlt' : (k : Int) < (n : Int) := by omega
      have Hx := Lib.hid hx
      clear hx
      have Hm : Hid (noMore p = (bits .andNot .u64 p.1 p.2 == 0)) := rfl
      cases hm : noMore p with
      | true =>
        have hq : bits .andNot .u64 p.1 p.2 = 0 := by rw [Hm.out] at hm; simpa using hm
        have HM := Lib.hid hm
        have hne : (bits .andNot .u64 p.1 p.2 != 0) = false := by rw [hq]; rfl
        clear hm Hm
        go_wp2
        go_roundw
        case rel =>
          refine ⟨k + 1, by omega, by go_num, ?_, by (repeat' (first | (with_reducible exact Below.refl _ _) | (with_reducible assumption) | (with_reducible refine below_drewN ?_ _) | (with_reducible refine Below.alloc ?_ ?_ _) | (with_reducible refine Below.drew ?_) | (with_reducible refine Below.setCell ?_ ?_ _) | go_size))⟩
          intro j q hj hq'
          rcases Nat.lt_or_ge j k with h | h
          · exact H.out j q h hq'
          · obtain rfl : j = k := by omega
            rw [Hx.out] at hq'
            cases hq'
            exact HM.out
        case measure => simp [intOf]; omega
      | false =>
        have hq : ¬ bits .andNot .u64 p.1 p.2 = 0 := by rw [Hm.out] at hm; simpa using hm
        have HF : Hid (l.all noMore = false) := by
          show _ = _
          rw [List.all_eq_false]
          exact ⟨p, List.mem_of_getElem? Hx.out, by rw [hm]; simp⟩
        have hne : (bits .andNot .u64 p.1 p.2 != 0) = true := by simpa using hq
        clear hm Hm hq
        go_wp2
        go_ret
        exact ⟨ret_bool HF.out.symm, by (repeat' (first | (with_reducible exact Below.refl _ _) | (with_reducible assumption) | (with_reducible refine below_drewN ?_ _) | (with_reducible refine Below.alloc ?_ ?_ _) | (with_reducible refine Below.drew ?_) | (with_reducible refine Below.setCell ?_ ?_ _) | go_size))⟩
    · obtain rfl : k = n := by omega
      have HT : Hid (l.all noMore = true) := by
        show _ = _
        rw [List.all_eq_true]
        intro p hp
        obtain ⟨j, hj⟩ := List.getElem?_of_mem hp
        exact H.out j p (by have := (List.getElem?_eq_some_iff.1 hj).1; have := HL.out; omega) hj
      go_wp2
      go_ret
      exact ⟨ret_bool HT.out.symm, hb⟩
end Go.Proofs.YtochhmkdhdadhaaGreat

/- The walks of clause.ordinal. -/
namespace Go.Proofs.YtochhmkdhdadhaaGreat
open Go.RowKit
set_option linter.unusedSimpArgs false
set_option linter.unusedVariables false

def ordZ (c : Cl) : Bool := decide (c.oi = 0) && (decide (c.ob = false) && (decide (c.od 0 = 0) && (decide (c.od 1 = 0) && (decide (c.od 2 = 0) && (decide (c.od 3 = 0) && (decide (c.od 4 = 0) && (decide (c.od 5 = 0) && (decide (c.od 6 = 0) && decide (c.od 7 = 0)))))))))
set_option maxHeartbeats 4000000 in
theorem eql_ord (c : Cl) (w : World) : (binOp .eql 34 (.agg (ordA c)) (.agg #[.int .i64 0, .bool false, .int .u64 0, .int .u64 0, .int .u64 0, .int .u64 0, .int .u64 0, .int .u64 0, .int .u64 0, .int .u64 0])).run Tryz.prog w = .ok (.bool (ordZ c)) w := by
  obtain ⟨i, hi⟩ := info_of_underlying Tryz.underlying31
  have hc : Tryz.prog.cellsOf 31 = 1 := by kernel_rfl
  have hr : List.range 8 = [0, 1, 2, 3, 4, 5, 6, 7] := rfl
  have hA : ∀ (d : Nat) (xs ys : Array Value) (w : World), (Op.equalIn (d + 1) 32 (.agg xs) (.agg ys)).run Tryz.prog w = (Op.eqItems d 31 1 xs ys [0, 1, 2, 3, 4, 5, 6, 7]).run Tryz.prog w := fun d xs ys w => by
    rw [run_equalIn_array w d xs ys Tryz.underlying32 hi, hc, hr]
  rw [run_eql_struct]
  unfold ordZ ordA
  by_cases h0 : c.oi = 0
  case neg => simp [go_sem, hA, Op.eqItems, h0]
  by_cases h1 : c.ob = false
  case neg => simp [go_sem, hA, Op.eqItems, h0, h1]
  by_cases d0 : c.od 0 = 0
  case neg => simp [go_sem, hA, Op.eqItems, h0, h1, d0]
  by_cases d1 : c.od 1 = 0
  case neg => simp [go_sem, hA, Op.eqItems, h0, h1, d0, d1]
  by_cases d2 : c.od 2 = 0
  case neg => simp [go_sem, hA, Op.eqItems, h0, h1, d0, d1, d2]
  by_cases d3 : c.od 3 = 0
  case neg => simp [go_sem, hA, Op.eqItems, h0, h1, d0, d1, d2, d3]
  by_cases d4 : c.od 4 = 0
  case neg => simp [go_sem, hA, Op.eqItems, h0, h1, d0, d1, d2, d3, d4]
  by_cases d5 : c.od 5 = 0
  case neg => simp [go_sem, hA, Op.eqItems, h0, h1, d0, d1, d2, d3, d4, d5]
  by_cases d6 : c.od 6 = 0
  case neg => simp [go_sem, hA, Op.eqItems, h0, h1, d0, d1, d2, d3, d4, d5, d6]
  by_cases d7 : c.od 7 = 0
  case neg => simp [go_sem, hA, Op.eqItems, h0, h1, d0, d1, d2, d3, d4, d5, d6, d7]
  simp [go_sem, hA, Op.eqItems, h0, h1, d0, d1, d2, d3, d4, d5, d6, d7]
end Go.Proofs.YtochhmkdhdadhaaGreat

namespace Go.Proofs.YtochhmkdhdadhaaGreat
open Go.RowKit
set_option linter.unusedSimpArgs false
set_option linter.unusedVariables false

def mostO (i : Int) : Int := if i = 2 then 53 else 5
def ordC (c : Cl) : Bool := if c.oi = 0 then ordZ c else if c.oi = 1 ∨ c.oi = 2 then decide (c.od 0 = 0) && (List.range 8).all (fun k => noMore (c.od k, spanM 1 (mostO c.oi))) else false
theorem od_at (f : Nat → Int) (k : Nat) (hk : k < 8) (W : World) : (Instr.index 32 (.agg #[.int .u64 (f 0), .int .u64 (f 1), .int .u64 (f 2), .int .u64 (f 3), .int .u64 (f 4), .int .u64 (f 5), .int .u64 (f 6), .int .u64 (f 7)]) (.int .i64 (k : Int))).run Tryz.prog W = .ok (.int .u64 (f k)) W := by
  obtain rfl | rfl | rfl | rfl | rfl | rfl | rfl | rfl : k = 0 ∨ k = 1 ∨ k = 2 ∨ k = 3 ∨ k = 4 ∨ k = 5 ∨ k = 6 ∨ k = 7 := by omega
  all_goals kernel_rfl
set_option maxRecDepth 20000 in
set_option maxHeartbeats 2000000 in
theorem ord_zero (c : Cl) (h : c.oi = 0) (w : World) : Calls Tryz.prog 32 #[.agg (ordA c)] w (Ret (.bool (ordC c)) w) := by
  have HR : Hid (ordC c = ordZ c) := if_pos h
  rw [HR.out]
  have hq := fun W => eql_ord c W
  generalize ordZ c = q at *
  have h0' : (c.oi == 0) = true := by simpa using h
  unfold ordA at *
  clear HR h
  go_enter Tryz.func32, Tryz.ntmps32
  go_wp2
  go_ret
  exact ⟨rfl, by (repeat' (first | (with_reducible exact Below.refl _ _) | (with_reducible assumption) | (with_reducible refine below_drewN ?_ _) | (with_reducible refine Below.alloc ?_ ?_ _) | (with_reducible refine Below.drew ?_) | (with_reducible refine Below.setCell ?_ ?_ _) | go_size))⟩
set_option maxRecDepth 20000 in
set_option maxHeartbeats 2000000 in
theorem ord_bad (c : Cl) (h0 : c.oi ≠ 0) (h1 : c.oi ≠ 1) (h2 : c.oi ≠ 2) (w : World) : Calls Tryz.prog 32 #[.agg (ordA c)] w (Ret (.bool (ordC c)) w) := by
  have HR : Hid (ordC c = false) := by show _ = _; unfold ordC; rw [if_neg h0, if_neg (by omega)]
  rw [HR.out]
  have h0' : (c.oi == 0) = false := by simpa using h0
  have h1' : (c.oi == 1) = false := by simpa using h1
  have h2' : (c.oi == 2) = false := by simpa using h2
  unfold ordA at *
  clear HR h0 h1 h2
  go_enter Tryz.func32, Tryz.ntmps32
  go_wp2
  go_ret
  exact ⟨rfl, by (repeat' (first | (with_reducible exact Below.refl _ _) | (with_reducible assumption) | (with_reducible refine below_drewN ?_ _) | (with_reducible refine Below.alloc ?_ ?_ _) | (with_reducible refine Below.drew ?_) | (with_reducible refine Below.setCell ?_ ?_ _) | go_size))⟩
set_option maxRecDepth 20000 in
set_option maxHeartbeats 4000000 in
theorem ord_m (c : Cl) (h1 : c.oi = 1) (w : World) : Calls Tryz.prog 32 #[.agg (ordA c)] w (Ret (.bool (ordC c)) w) := by
  have HR : Hid (ordC c = (decide (c.od 0 = 0) && (List.range 8).all (fun k => noMore (c.od k, spanM 1 5)))) := by
    show _ = _
    unfold ordC mostO
    rw [if_neg (by omega), if_pos (.inl h1), h1]
    rfl
  rw [HR.out]
  have HS := Lib.hid (fun W => mspan_any 1 5 (by decide) (by decide) (by decide) (by decide) W)
  generalize spanM 1 5 = S at *
  have h0' : (c.oi == 0) = false := by rw [h1]; rfl
  have h1' : (c.oi == 1) = true := by rw [h1]; rfl
  have h2' : (c.oi == 2) = false := by rw [h1]; rfl
  unfold ordA at *
  clear HR h1
  generalize c.oi = oi at *
  by_cases hz : c.od 0 = 0
  · rw [decide_eq_true hz, Bool.true_and]
    have hz' : (c.od 0 != 0) = false := by rw [hz]; rfl
    clear hz
    go_enter Tryz.func32, Tryz.ntmps32
    go_wp2_with fail
    go_loopw [23] (fun i wr => ∃ k : Nat, k ≤ 8 ∧ i = .int .i64 k ∧ Hid (∀ j, j < k → noMore (c.od j, S) = true) ∧ Below w.heap.size w wr) (fun i _ => 8 - (intOf i).toNat)
    case atStart => exact ⟨0, by omega, rfl, fun j h => absurd h (Nat.not_lt_zero _), by (repeat' (first | (with_reducible exact Below.refl _ _) | (with_reducible assumption) | (with_reducible refine below_drewN ?_ _) | (with_reducible refine Below.alloc ?_ ?_ _) | (with_reducible refine Below.drew ?_) | (with_reducible refine Below.setCell ?_ ?_ _) | go_size))⟩
    case round =>
      obtain ⟨k, hk, rfl, H, hb⟩ := hrel
      have hsz := hb.size
      by_cases h8 : k < 8
      · have h8' : (k : Int) < 8 := by omega
        have hk0 : ¬ (k : Int) < 0 := by omega
        have hix : ∀ W, (Instr.index 32 (.agg #[.int .u64 (c.od 0), .int .u64 (c.od 1), .int .u64 (c.od 2), .int .u64 (c.od 3), .int .u64 (c.od 4), .int .u64 (c.od 5), .int .u64 (c.od 6), .int .u64 (c.od 7)]) (.int .i64 (k : Int))).run Tryz.prog W = .ok (.int .u64 (c.od k)) W := fun W => od_at c.od k h8 W
        have Hm : Hid (noMore (c.od k, S) = (bits .andNot .u64 (c.od k) S == 0)) := rfl
        cases hm : noMore (c.od k, S) with
        | true =>
          have hq : bits .andNot .u64 (c.od k) S = 0 := by rw [Hm.out] at hm; simpa using hm
          have HM := Lib.hid hm
          have hne : (bits .andNot .u64 (c.od k) S != 0) = false := by rw [hq]; rfl
          clear hm Hm hq
          go_wp2_with fail
          refine (HS.out _).mono ?_
          rintro e w2 ⟨rfl, rfl⟩
          go_wp2
          go_roundw
          case rel =>
            refine ⟨k + 1, by omega, by go_num, ?_, hb⟩
            intro j hj
            rcases Nat.lt_or_ge j k with h | h
            · exact H.out j h
            · obtain rfl : j = k := by omega
              exact HM.out
          case measure => simp [intOf]; omega
        | false =>
          have hq : ¬ bits .andNot .u64 (c.od k) S = 0 := by rw [Hm.out] at hm; simpa using hm
          have HF : Hid ((List.range 8).all (fun k => noMore (c.od k, S)) = false) := by
            show _ = _
            rw [List.all_eq_false]
            exact ⟨k, List.mem_range.2 h8, by rw [hm]; simp⟩
          have hne : (bits .andNot .u64 (c.od k) S != 0) = true := by simpa using hq
          clear hm Hm hq
          go_wp2_with fail
          refine (HS.out _).mono ?_
          rintro e w2 ⟨rfl, rfl⟩
          go_wp2
          go_ret
          exact ⟨ret_bool HF.out.symm, hb⟩
      · obtain rfl : k = 8 := by omega
        have HT : Hid ((List.range 8).all (fun k => noMore (c.od k, S)) = true) := by
          show _ = _
          rw [List.all_eq_true]
          intro j hj
          exact H.out j (List.mem_range.1 hj)
        go_wp2
        go_ret
        exact ⟨ret_bool HT.out.symm, hb⟩
  · rw [decide_eq_false hz, Bool.false_and]
    have hz' : (c.od 0 != 0) = true := by simpa using hz
    clear hz HS
    go_enter Tryz.func32, Tryz.ntmps32
    go_wp2
    go_ret
    exact ⟨rfl, by (repeat' (first | (with_reducible exact Below.refl _ _) | (with_reducible assumption) | (with_reducible refine below_drewN ?_ _) | (with_reducible refine Below.alloc ?_ ?_ _) | (with_reducible refine Below.drew ?_) | (with_reducible refine Below.setCell ?_ ?_ _) | go_size))⟩
set_option maxRecDepth 20000 in
set_option maxHeartbeats 4000000 in
theorem ord_y (c : Cl) (h1 : c.oi = 2) (w : World) : Calls Tryz.prog 32 #[.agg (ordA c)] w (Ret (.bool (ordC c)) w) := by
  have HR : Hid (ordC c = (decide (c.od 0 = 0) && (List.range 8).all (fun k => noMore (c.od k, spanM 1 53)))) := by
    show _ = _
    unfold ordC mostO
    rw [if_neg (by omega), if_pos (.inr h1), h1]
    rfl
  rw [HR.out]
  have HS := Lib.hid (fun W => mspan_any 1 53 (by decide) (by decide) (by decide) (by decide) W)
  generalize spanM 1 53 = S at *
  have h0' : (c.oi == 0) = false := by rw [h1]; rfl
  have h1' : (c.oi == 1) = false := by rw [h1]; rfl
  have h2' : (c.oi == 2) = true := by rw [h1]; rfl
  unfold ordA at *
  clear HR h1
  generalize c.oi = oi at *
  by_cases hz : c.od 0 = 0
  · rw [decide_eq_true hz, Bool.true_and]
    have hz' : (c.od 0 != 0) = false := by rw [hz]; rfl
    clear hz
    go_enter Tryz.func32, Tryz.ntmps32
    go_wp2_with fail
    go_loopw [23] (fun i wr => ∃ k : Nat, k ≤ 8 ∧ i = .int .i64 k ∧ Hid (∀ j, j < k → noMore (c.od j, S) = true) ∧ Below w.heap.size w wr) (fun i _ => 8 - (intOf i).toNat)
    case atStart => exact ⟨0, by omega, rfl, fun j h => absurd h (Nat.not_lt_zero _), by (repeat' (first | (with_reducible exact Below.refl _ _) | (with_reducible assumption) | (with_reducible refine below_drewN ?_ _) | (with_reducible refine Below.alloc ?_ ?_ _) | (with_reducible refine Below.drew ?_) | (with_reducible refine Below.setCell ?_ ?_ _) | go_size))⟩
    case round =>
      obtain ⟨k, hk, rfl, H, hb⟩ := hrel
      have hsz := hb.size
      by_cases h8 : k < 8
      · have h8' : (k : Int) < 8 := by omega
        have hk0 : ¬ (k : Int) < 0 := by omega
        have hix : ∀ W, (Instr.index 32 (.agg #[.int .u64 (c.od 0), .int .u64 (c.od 1), .int .u64 (c.od 2), .int .u64 (c.od 3), .int .u64 (c.od 4), .int .u64 (c.od 5), .int .u64 (c.od 6), .int .u64 (c.od 7)]) (.int .i64 (k : Int))).run Tryz.prog W = .ok (.int .u64 (c.od k)) W := fun W => od_at c.od k h8 W
        have Hm : Hid (noMore (c.od k, S) = (bits .andNot .u64 (c.od k) S == 0)) := rfl
        cases hm : noMore (c.od k, S) with
        | true =>
          have hq : bits .andNot .u64 (c.od k) S = 0 := by rw [Hm.out] at hm; simpa using hm
          have HM := Lib.hid hm
          have hne : (bits .andNot .u64 (c.od k) S != 0) = false := by rw [hq]; rfl
          clear hm Hm hq
          go_wp2_with fail
          refine (HS.out _).mono ?_
          rintro e w2 ⟨rfl, rfl⟩
          go_wp2
          go_roundw
          case rel =>
            refine ⟨k + 1, by omega, by go_num, ?_, hb⟩
            intro j hj
            rcases Nat.lt_or_ge j k with h | h
            · exact H.out j h
            · obtain rfl : j = k := by omega
              exact HM.out
          case measure => simp [intOf]; omega
        | false =>
          have hq : ¬ bits .andNot .u64 (c.od k) S = 0 := by rw [Hm.out] at hm; simpa using hm
          have HF : Hid ((List.range 8).all (fun k => noMore (c.od k, S)) = false) := by
            show _ = _
            rw [List.all_eq_false]
            exact ⟨k, List.mem_range.2 h8, by rw [hm]; simp⟩
          have hne : (bits .andNot .u64 (c.od k) S != 0) = true := by simpa using hq
          clear hm Hm hq
          go_wp2_with fail
          refine (HS.out _).mono ?_
          rintro e w2 ⟨rfl, rfl⟩
          go_wp2
          go_ret
          exact ⟨ret_bool HF.out.symm, hb⟩
      · obtain rfl : k = 8 := by omega
        have HT : Hid ((List.range 8).all (fun k => noMore (c.od k, S)) = true) := by
          show _ = _
          rw [List.all_eq_true]
          intro j hj
          exact H.out j (List.mem_range.1 hj)
        go_wp2
        go_ret
        exact ⟨ret_bool HT.out.symm, hb⟩
  · rw [decide_eq_false hz, Bool.false_and]
    have hz' : (c.od 0 != 0) = true := by simpa using hz
    clear hz HS
    go_enter Tryz.func32, Tryz.ntmps32
    go_wp2
    go_ret
    exact ⟨rfl, by (repeat' (first | (with_reducible exact Below.refl _ _) | (with_reducible assumption) | (with_reducible refine below_drewN ?_ _) | (with_reducible refine Below.alloc ?_ ?_ _) | (with_reducible refine Below.drew ?_) | (with_reducible refine Below.setCell ?_ ?_ _) | go_size))⟩
theorem ordinal_c (c : Cl) (w : World) : Calls Tryz.prog 32 #[.agg (ordA c)] w (Ret (.bool (ordC c)) w) := by
  by_cases h0 : c.oi = 0
  · exact ord_zero c h0 w
  · by_cases h1 : c.oi = 1
    · exact ord_m c h1 w
    · by_cases h2 : c.oi = 2
      · exact ord_y c h2 w
      · exact ord_bad c h0 h1 h2 w
end Go.Proofs.YtochhmkdhdadhaaGreat
