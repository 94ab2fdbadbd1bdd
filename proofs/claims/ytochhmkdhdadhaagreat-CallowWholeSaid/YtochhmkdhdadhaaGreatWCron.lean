/- The walks of package cron: what each function hands back. -/
import Derived.Test.YtochhmkdhdadhaaGreatRows
import Derived.Test.YtochhmkdhdadhaaGreatWArr
import Derived.Test.YtochhmkdhdadhaaGreatWSl
import Derived.Test.YtochhmkdhdadhaaGreatWLine
/- The walks of package item: what each function hands back. -/
namespace Go.Proofs.YtochhmkdhdadhaaGreat
open Go.RowKit
set_option linter.unusedSimpArgs false
set_option linter.unusedVariables false

theorem okStep_true {n : Int} (h : 1 ≤ n ∧ n ≤ 999) : okStep n = true := decide_eq_true h
theorem okStep_le {n : Int} (h : 1 ≤ n) : okStep n = decide (n ≤ 999) := by simp [okStep, h]
theorem okStep_false {n : Int} (h : n < 1) : okStep n = false := by simp [okStep]; omega

theorem step_any (n : Int) (w : World) : Calls Tryz.prog 119 #[.int .i64 n] w (RetQ (.bool (okStep n)) w) := by
  go_enter Tryz.func119, Tryz.ntmps119
  go_wp2
  all_goals go_ret
  · exact ⟨ret_bool (okStep_le (by assumption)).symm, rfl⟩
  · exact ⟨ret_bool (okStep_false (by assumption)).symm, rfl⟩

set_option maxHeartbeats 400000 in
theorem of_any (lo hi : Int) (A : Option Addr) (n c : Nat) (l : List Int) (w : World) (h : RdInts w A n l) (hn : n ≤ 9223372036854775807) :
    Calls Tryz.prog 120 #[.int .i64 lo, .int .i64 hi, .slice A n c] w (RetQ (.bool (ofB lo hi l)) w) := by
  have HL : Hid (l.length = n) := h.1
  go_enter Tryz.func120, Tryz.ntmps120
  go_wp2
  go_loop [11] (fun i => ∃ k : Nat, k ≤ n ∧ i = .int .i64 k ∧ Hid (OfP lo hi l k)) (fun i => n - (intOf i).toNat)
  case atStart => exact ⟨0, Nat.zero_le _, rfl, OfP.zero _ _ _⟩
  case round =>
    obtain ⟨k, hk, rfl, H⟩ := hrel
    by_cases hlt : k < n
    · obtain ⟨b, o, x, rfl, _, hx, c0⟩ := RdInts.at_ h hlt
      have hlt' : (k : Int) < (n : Int) := by omega
      have Hx := Lib.hid hx
      clear hx
      rcases Nat.eq_zero_or_pos k with rfl | hpos
      · rw [Nat.add_zero] at c0
        go_wp2
        all_goals first
          | (go_ret; exact ⟨ret_bool (ofB_no1 Hx.out (by omega)).symm, rfl⟩)
          | (go_round
             case rel => exact ⟨0 + 1, by omega, by go_num, OfP.one Hx.out (by omega)⟩
             case measure => simp [intOf]; omega)
      · obtain ⟨k, rfl⟩ : ∃ j, k = j + 1 := ⟨k - 1, by omega⟩
        obtain ⟨b', o', y, e, _, hy, c1⟩ := RdInts.at_ h (i := k) (by omega)
        cases e
        have Hy := Lib.hid hy
        clear hy
        go_wp2
        all_goals first
          | (go_ret; exact ⟨ret_bool (ofB_no Hx.out Hy.out (by omega)).symm, rfl⟩)
          | (go_round
             case rel => exact ⟨k + 1 + 1, by omega, by go_num, OfP.succ H.out Hx.out Hy.out (by omega)⟩
             case measure => simp [intOf]; omega)
    · obtain rfl : k = n := by omega
      go_wp2
      go_ret
      exact ⟨ret_bool (OfP.all (HL.out ▸ H.out)).symm, rfl⟩

theorem rdInts_one (w : World) (b : Nat) (x : Int) (hb : b < w.heap.size) (h : w.cell? ⟨b, 0, none⟩ = some (.int .i64 x)) : RdInts w (some ⟨b, 0, none⟩) 1 [x] :=
  ⟨rfl, fun _ => ⟨b, 0, rfl, hb, fun i y hi j v hj => by
    rcases i with _ | i
    · obtain rfl : x = y := by simpa using hi
      rcases j with _ | j
      · obtain rfl : Value.int .i64 x = v := by simpa [intEnc] using hj
        simpa using h
      · simp [intEnc] at hj
    · simp at hi⟩⟩
theorem rdInts_two (w : World) (b : Nat) (x y : Int) (hb : b < w.heap.size) (h : w.cell? ⟨b, 0, none⟩ = some (.int .i64 x)) (h1 : w.cell? ⟨b, 1, none⟩ = some (.int .i64 y)) : RdInts w (some ⟨b, 0, none⟩) 2 [x, y] :=
  ⟨rfl, fun _ => ⟨b, 0, rfl, hb, fun i z hi j v hj => by
    rcases j with _ | j
    · obtain rfl : Value.int .i64 z = v := by simpa [intEnc] using hj
      rcases i with _ | _ | i
      · obtain rfl : x = z := by simpa using hi
        simpa using h
      · obtain rfl : y = z := by simpa using hi
        simpa using h1
      · simp at hi
    · simp [intEnc] at hj⟩⟩

theorem of_one (lo hi x : Int) (b : Nat) (w : World) (hb : b < w.heap.size) (h : w.cell? ⟨b, 0, none⟩ = some (.int .i64 x)) :
    Calls Tryz.prog 120 #[.int .i64 lo, .int .i64 hi, .slice (some ⟨b, 0, none⟩) 1 1] w (RetQ (.bool (ofB lo hi [x])) w) :=
  of_any lo hi _ 1 1 [x] w (rdInts_one w b x hb h) (by decide)
theorem of_two (lo hi x y : Int) (b : Nat) (w : World) (hb : b < w.heap.size) (h : w.cell? ⟨b, 0, none⟩ = some (.int .i64 x)) (h1 : w.cell? ⟨b, 1, none⟩ = some (.int .i64 y)) :
    Calls Tryz.prog 120 #[.int .i64 lo, .int .i64 hi, .slice (some ⟨b, 0, none⟩) 2 2] w (RetQ (.bool (ofB lo hi [x, y])) w) :=
  of_any lo hi _ 2 2 [x, y] w (rdInts_two w b x y hb h h1) (by decide)

set_option maxHeartbeats 400000 in
theorem may_any (i : It) (lo hi : Int) (w : World) : Calls Tryz.prog 88 #[.agg #[.int .i64 i.k, .int .i64 i.f, .int .i64 i.t, .int .i64 i.s], .int .i64 lo, .int .i64 hi] w (Ret (.bool (mayIt i lo hi)) w) := by
  go_enter Tryz.func88, Tryz.ntmps88
  go_wp2_with (first
    | (go_at_call 119; refine (step_any _ _).mono ?_; rintro e w' ⟨rfl, rfl⟩)
    | (go_at_call 120; (with_reducible refine (of_one _ _ i.f _ _ ?_ ?_).mono ?_); (focus simp); (focus simp [go_sem]); rintro e w' ⟨rfl, rfl⟩)
    | (go_at_call 120; (with_reducible refine (of_two _ _ i.f i.t _ _ ?_ ?_ ?_).mono ?_); (focus simp); (focus simp [go_sem]); (focus simp [go_sem]); rintro e w' ⟨rfl, rfl⟩))
  all_goals go_ret
  all_goals (refine ⟨ret_bool ?_, by (repeat' (first | (with_reducible exact Below.refl _ _) | (with_reducible assumption) | (with_reducible refine below_drewN ?_ _) | (with_reducible refine Below.alloc ?_ ?_ _) | (with_reducible refine Below.drew ?_) | (with_reducible refine Below.setCell ?_ ?_ _) | go_size))⟩
             ((try simp only [beq_iff_eq, beq_eq_false_iff_ne, bne_iff_ne, ne_eq, mayIt, MayP, okStep, ofB, decide_eq_true_eq, decide_eq_false_iff_not, Bool.and_eq_true, Bool.or_eq_true, Bool.not_eq_true', Bool.not_eq_false', Bool.and_eq_false_iff, Bool.or_eq_false_iff] at *)
              rw [Bool.eq_iff_iff]
              (try simp only [mayIt, MayP, okStep, ofB, decide_eq_true_eq, beq_iff_eq, bne_iff_ne, ne_eq, Bool.and_eq_true, Bool.or_eq_true, Bool.not_eq_true', Bool.not_eq_false', beq_eq_false_iff_ne, decide_eq_false_iff_not, iff_true, true_iff, Bool.false_eq_true, false_iff, iff_false, reduceCtorEq])
              omega))

end Go.Proofs.YtochhmkdhdadhaaGreat

namespace Go.Proofs.YtochhmkdhdadhaaGreat
open Go.RowKit
set_option linter.unusedSimpArgs false
set_option linter.unusedVariables false

theorem right1_any (b b' : Nat) (lo hi : Int) (w : World) (h0 : w.cell? ⟨b, 0, none⟩ = some (.int .i64 lo)) (h1 : w.cell? ⟨b', 0, none⟩ = some (.int .i64 hi)) (hb : b < w.heap.size) (hb' : b' < w.heap.size) :
    PredIt 117 #[.pointer (some ⟨b, 0, none⟩), .pointer (some ⟨b', 0, none⟩)] (fun i => !mayIt i lo hi) w := by
  intro W x hB
  have g0 : W.cell? ⟨b, 0, none⟩ = some (.int .i64 lo) := (hB.cell (p := ⟨b, 0, none⟩) hb).trans h0
  have g1 : W.cell? ⟨b', 0, none⟩ = some (.int .i64 hi) := (hB.cell (p := ⟨b', 0, none⟩) hb').trans h1
  have hb2 : b < W.heap.size := Nat.lt_of_lt_of_le hb hB.size
  have hb3 : b' < W.heap.size := Nat.lt_of_lt_of_le hb' hB.size
  clear h0 h1 hB
  go_enter Tryz.func117, Tryz.ntmps117
  go_wp2_with (go_at_call 88; refine (may_any _ _ _ _).mono ?_; rintro e w1 ⟨rfl, hb1⟩)
  go_ret
  exact ⟨rfl, ((Below.refl _ W).alloc (Nat.le_refl _) _).trans (hb1.mono (by simp))⟩

set_option maxHeartbeats 400000 in
theorem right_any (A : Option Addr) (n c : Nat) (l : List It) (lo hi most : Int) (w : World) (hA : RdIts w A n l) (hn : n ≤ 9223372036854775807) :
    Calls Tryz.prog 84 #[.int .i64 lo, .int .i64 hi, .int .i64 most, .slice A n c] w (Ret (.bool (rightB lo hi most l)) w) := by
  have HL : Hid (l.length = n) := hA.1
  by_cases hcase : 0 < n ∧ (n : Int) ≤ most
  · have e : rightB lo hi most l = !(l.any fun i => !mayIt i lo hi) := by
      rw [rightB, decide_eq_true (by have := HL.out; omega), Bool.true_and, List.all_eq_not_any_not]
    have h1 : (0 : Int) < n := by omega
    have h2 : (n : Int) ≤ most := hcase.2
    rw [e]
    generalize hq : (l.any fun i => !mayIt i lo hi) = q
    have HQ := Lib.hid hq
    clear hq e hcase
    have HA := Lib.hid hA
    clear hA
    have eg : ∀ args w, (callFunc 117 args).run Tryz.prog w = .ok (.enter 117 args) w := enters_of Tryz.func117 (by kernel_rfl) rfl
    go_enter Tryz.func84, Tryz.ntmps84
    go_wp2_with fail
    refine (containsFunc_any A n c l _ _ (fun i => !mayIt i lo hi) _ ?_ (by omega) eg (right1_any _ _ lo hi _ ?_ ?_ ?_ ?_)).mono ?_
    · exact Rd.below HA.out (by (repeat' (first | (with_reducible exact Below.refl _ _) | (with_reducible assumption) | (with_reducible refine below_drewN ?_ _) | (with_reducible refine Below.alloc ?_ ?_ _) | (with_reducible refine Below.drew ?_) | (with_reducible refine Below.setCell ?_ ?_ _) | go_size))) (Nat.le_refl _)
    · simp [go_sem]
    · simp [go_sem]
    · (first | (simp; done) | (simp; omega))
    · (first | (simp; done) | (simp; omega))
    rintro e w1 ⟨rfl, hb1⟩
    rw [HQ.out]
    go_wp2
    go_ret
    exact ⟨rfl, (((Below.refl _ w).alloc (Nat.le_refl _) _).alloc (by simp) _).trans (hb1.mono (by simp; omega))⟩
  · have HR : Hid (rightB lo hi most l = false) := rightB_no (by have := HL.out; omega)
    by_cases h1 : 0 < n
    · have h1' : (0 : Int) < n := by omega
      have h2 : ¬ (n : Int) ≤ most := by omega
      have h2' : most < (n : Int) := by omega
      go_enter Tryz.func84, Tryz.ntmps84
      go_wp2
      go_ret
      exact ⟨ret_bool HR.out.symm, by (repeat' (first | (with_reducible exact Below.refl _ _) | (with_reducible assumption) | (with_reducible refine below_drewN ?_ _) | (with_reducible refine Below.alloc ?_ ?_ _) | (with_reducible refine Below.drew ?_) | (with_reducible refine Below.setCell ?_ ?_ _) | go_size))⟩
    · have h0 : n = 0 := by omega
      subst h0
      go_enter Tryz.func84, Tryz.ntmps84
      go_wp2
      go_ret
      exact ⟨ret_bool HR.out.symm, by (repeat' (first | (with_reducible exact Below.refl _ _) | (with_reducible assumption) | (with_reducible refine below_drewN ?_ _) | (with_reducible refine Below.alloc ?_ ?_ _) | (with_reducible refine Below.drew ?_) | (with_reducible refine Below.setCell ?_ ?_ _) | go_size))⟩

end Go.Proofs.YtochhmkdhdadhaaGreat
