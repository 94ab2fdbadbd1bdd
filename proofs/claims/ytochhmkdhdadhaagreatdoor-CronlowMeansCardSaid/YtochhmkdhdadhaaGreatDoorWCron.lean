/- The walks of package cron: what each function hands back. -/
import Derived.Test.YtochhmkdhdadhaaGreatDoorRows
import Derived.Test.YtochhmkdhdadhaaGreatDoorWArr
import Derived.Test.YtochhmkdhdadhaaGreatDoorWSl
import Derived.Test.YtochhmkdhdadhaaGreatDoorWLine
/- The walks of package item: what each function hands back. -/
namespace Go.Proofs.YtochhmkdhdadhaaGreatDoor
open Go.RowKit
set_option linter.unusedSimpArgs false
set_option linter.unusedVariables false

theorem okStep_true {n : Int} (h : 1 ≤ n ∧ n ≤ 999) : okStep n = true := decide_eq_true h
theorem okStep_le {n : Int} (h : 1 ≤ n) : okStep n = decide (n ≤ 999) := by simp [okStep, h]
theorem okStep_false {n : Int} (h : n < 1) : okStep n = false := by simp [okStep]; omega

theorem step_any (n : Int) (w : World) : Calls Tryz.prog 114 #[.int .i64 n] w (RetQ (.bool (okStep n)) w) := by
  go_enter Tryz.func114, Tryz.ntmps114
  go_wp2
  all_goals go_ret
  · exact ⟨ret_bool (okStep_le (by assumption)).symm, rfl⟩
  · exact ⟨ret_bool (okStep_false (by assumption)).symm, rfl⟩

set_option maxHeartbeats 400000 in
theorem of_any (lo hi : Int) (A : Option Addr) (n c : Nat) (l : List Int) (w : World) (h : RdInts w A n l) (hn : n ≤ 9223372036854775807) :
    Calls Tryz.prog 115 #[.int .i64 lo, .int .i64 hi, .slice A n c] w (RetQ (.bool (ofB lo hi l)) w) := by
  have HL : Hid (l.length = n) := h.1
  go_enter Tryz.func115, Tryz.ntmps115
  go_wp2
  go_loop [11] (fun i => ∃ k : Nat, k ≤ n ∧ i = .int .i64 k ∧ Hid (OfP lo hi l k)) (fun i => n - (intOf i).toNat)
  case atStart => exact ⟨0, Nat.zero_le _, rfl, OfP.zero _ _ _⟩
  case round =>
    obtain ⟨k, hk, rfl, H⟩ := hrel
    by_cases hlt : k < n
    · obtain ⟨b, o, x, rfl, _, hx, c0⟩ := RdInts.at_ h hlt
      have hlt' : (k : Int) < (n : Int) := by omega
      have Hx := Lib.hid hx
      clear hx
      rcases Nat.eq_zero_or_pos k with rfl | hpos
      · rw [Nat.add_zero] at c0
        go_wp2
        all_goals first
          | (go_ret; exact ⟨ret_bool (ofB_no1 Hx.out (by omega)).symm, rfl⟩)
          | (go_round
             case rel => exact ⟨0 + 1, by omega, by go_num, OfP.one Hx.out (by omega)⟩
             case measure => simp [intOf]; omega)
      · obtain ⟨k, rfl⟩ : ∃ j, k = j + 1 := ⟨k - 1, by omega⟩
        obtain ⟨b', o', y, e, _, hy, c1⟩ := RdInts.at_ h (i := k) (by omega)
        cases e
        have Hy := Lib.hid hy
        clear hy
        go_wp2
        all_goals first
          | (go_ret; exact ⟨ret_bool (ofB_no Hx.out Hy.out (by omega)).symm, rfl⟩)
          | (go_round
             case rel => exact ⟨k + 1 + 1, by omega, by go_num, OfP.succ H.out Hx.out Hy.out (by omega)⟩
             case measure => simp [intOf]; omega)
    · obtain rfl : k = n := by omega
      go_wp2
      go_ret
      exact ⟨ret_bool (OfP.all (HL.out ▸ H.out)).symm, rfl⟩

theorem rdInts_one (w : World) (b : Nat) (x : Int) (hb : b < w.heap.size) (h : w.cell? ⟨b, 0, none⟩ = some (.int .i64 x)) : RdInts w (some ⟨b, 0, none⟩) 1 [x] :=
  ⟨rfl, fun _ => ⟨b, 0, rfl, hb, fun i y hi j v hj => by
    rcases i with _ | i
    · obtain rfl : x = y := by simpa using hi
      rcases j with _ | j
      · obtain rfl : Value.int .i64 x = v := by simpa [intEnc] using hj
        simpa using h
      · simp [intEnc] at hj
    · simp at hi⟩⟩
theorem rdInts_two (w : World) (b : Nat) (x y : Int) (hb : b < w.heap.size) (h : w.cell? ⟨b, 0, none⟩ = some (.int .i64 x)) (h1 : w.cell? ⟨b, 1, none⟩ = some (.int .i64 y)) : RdInts w (some ⟨b, 0, none⟩) 2 [x, y] :=
  ⟨rfl, fun _ => ⟨b, 0, rfl, hb, fun i z hi j v hj => by
    rcases j with _ | j
    · obtain rfl : Value.int .i64 z = v := by simpa [intEnc] using hj
      rcases i with _ | _ | i
      · obtain rfl : x = z := by simpa using hi
        simpa using h
      · obtain rfl : y = z := by simpa using hi
        simpa using h1
      · simp at hi
    · simp [intEnc] at hj⟩⟩

theorem of_one (lo hi x : Int) (b : Nat) (w : World) (hb : b < w.heap.size) (h : w.cell? ⟨b, 0, none⟩ = some (.int .i64 x)) :
    Calls Tryz.prog 115 #[.int .i64 lo, .int .i64 hi, .slice (some ⟨b, 0, none⟩) 1 1] w (RetQ (.bool (ofB lo hi [x])) w) :=
  of_any lo hi _ 1 1 [x] w (rdInts_one w b x hb h) (by decide)
theorem of_two (lo hi x y : Int) (b : Nat) (w : World) (hb : b < w.heap.size) (h : w.cell? ⟨b, 0, none⟩ = some (.int .i64 x)) (h1 : w.cell? ⟨b, 1, none⟩ = some (.int .i64 y)) :
    Calls Tryz.prog 115 #[.int .i64 lo, .int .i64 hi, .slice (some ⟨b, 0, none⟩) 2 2] w (RetQ (.bool (ofB lo hi [x, y])) w) :=
  of_any lo hi _ 2 2 [x, y] w (rdInts_two w b x y hb h h1) (by decide)

set_option maxHeartbeats 400000 in
theorem may_any (i : It) (lo hi : Int) (w : World) : Calls Tryz.prog 89 #[.agg #[.int .i64 i.k, .int .i64 i.f, .int .i64 i.t, .int .i64 i.s], .int .i64 lo, .int .i64 hi] w (Ret (.bool (mayIt i lo hi)) w) := by
  go_enter Tryz.func89, Tryz.ntmps89
  go_wp2_with (first
    | (go_at_call 114; refine (step_any _ _).mono ?_; rintro e w' ⟨rfl, rfl⟩)
    | (go_at_call 115; (with_reducible refine (of_one _ _ i.f _ _ ?_ ?_).mono ?_); (focus simp); (focus simp [go_sem]); rintro e w' ⟨rfl, rfl⟩)
    | (go_at_call 115; (with_reducible refine (of_two _ _ i.f i.t _ _ ?_ ?_ ?_).mono ?_); (focus simp); (focus simp [go_sem]); (focus simp [go_sem]); rintro e w' ⟨rfl, rfl⟩))
  all_goals go_ret
  all_goals (refine ⟨ret_bool ?_, by (repeat' (first | (with_reducible exact Below.refl _ _) | (with_reducible assumption) | (with_reducible refine below_drewN ?_ _) | (with_reducible refine Below.alloc ?_ ?_ _) | (with_reducible refine Below.drew ?_) | (with_reducible refine Below.setCell ?_ ?_ _) | go_size))⟩
             ((try simp only [beq_iff_eq, beq_eq_false_iff_ne, bne_iff_ne, ne_eq, mayIt, MayP, okStep, ofB, decide_eq_true_eq, decide_eq_false_iff_not, Bool.and_eq_true, Bool.or_eq_true, Bool.not_eq_true', Bool.not_eq_false', Bool.and_eq_false_iff, Bool.or_eq_false_iff] at *)
              rw [Bool.eq_iff_iff]
              (try simp only [mayIt, MayP, okStep, ofB, decide_eq_true_eq, beq_iff_eq, bne_iff_ne, ne_eq, Bool.and_eq_true, Bool.or_eq_true, Bool.not_eq_true', Bool.not_eq_false', beq_eq_false_iff_ne, decide_eq_false_iff_not, iff_true, true_iff, Bool.false_eq_true, false_iff, iff_false, reduceCtorEq])
              omega))

end Go.Proofs.YtochhmkdhdadhaaGreatDoor

namespace Go.Proofs.YtochhmkdhdadhaaGreatDoor
open Go.RowKit
set_option linter.unusedSimpArgs false
set_option linter.unusedVariables false

theorem bounds_ix (k : Nat) (hk : k < 5) (w : World) : (Instr.index 101 (.agg #[.int .i64 0, .int .i64 59, .int .i64 0, .int .i64 23, .int .i64 1, .int .i64 31, .int .i64 1, .int .i64 12, .int .i64 0, .int .i64 7]) (.int .i64 k)).run Tryz.prog w = .ok (.agg #[.int .i64 (cLo k), .int .i64 (cHi k)]) w := by
  obtain rfl | rfl | rfl | rfl | rfl : k = 0 ∨ k = 1 ∨ k = 2 ∨ k = 3 ∨ k = 4 := by omega
  · exact (show _ = Result.ok (Value.agg #[.int .i64 0, .int .i64 59]) w by kernel_rfl)
  · exact (show _ = Result.ok (Value.agg #[.int .i64 0, .int .i64 23]) w by kernel_rfl)
  · exact (show _ = Result.ok (Value.agg #[.int .i64 1, .int .i64 31]) w by kernel_rfl)
  · exact (show _ = Result.ok (Value.agg #[.int .i64 1, .int .i64 12]) w by kernel_rfl)
  · exact (show _ = Result.ok (Value.agg #[.int .i64 0, .int .i64 7]) w by kernel_rfl)
set_option maxRecDepth 10000 in
theorem bounds_in (k : Nat) (hk : k < 5) (w : World) : Calls Tryz.prog 21 #[.int .i64 k] w (Ret (.tuple #[.int .i64 (cLo k), .int .i64 (cHi k)]) w) := by
  have hix := bounds_ix k hk
  have h1 : ¬ (k : Int) < 0 := by omega
  have h2 : ¬ (5 : Int) ≤ k := by omega
  generalize cLo k = lo at hix ⊢
  generalize cHi k = hi at hix ⊢
  go_enter Tryz.func21, Tryz.ntmps21
  go_wp2
  go_quiet (fail)
  go_wp2
  go_ret2
  exact ⟨rfl, by (repeat' (first | (with_reducible exact Below.refl _ _) | (with_reducible assumption) | (with_reducible refine below_drewN ?_ _) | (with_reducible refine Below.alloc ?_ ?_ _) | (with_reducible refine Below.drew ?_) | (with_reducible refine Below.setCell ?_ ?_ _) | go_size))⟩
theorem bounds_out (f : Int) (hf : f < 0 ∨ 5 ≤ f) (w : World) : Calls Tryz.prog 21 #[.int .i64 f] w (Ret (.tuple #[.int .i64 0, .int .i64 0]) w) := by
  rcases hf with h | h
  · go_enter Tryz.func21, Tryz.ntmps21
    go_wp2
    go_ret2
    exact ⟨rfl, by (repeat' (first | (with_reducible exact Below.refl _ _) | (with_reducible assumption) | (with_reducible refine below_drewN ?_ _) | (with_reducible refine Below.alloc ?_ ?_ _) | (with_reducible refine Below.drew ?_) | (with_reducible refine Below.setCell ?_ ?_ _) | go_size))⟩
  · have h0 : ¬ f < 0 := by omega
    go_enter Tryz.func21, Tryz.ntmps21
    go_wp2
    go_ret2
    exact ⟨rfl, by (repeat' (first | (with_reducible exact Below.refl _ _) | (with_reducible assumption) | (with_reducible refine below_drewN ?_ _) | (with_reducible refine Below.alloc ?_ ?_ _) | (with_reducible refine Below.drew ?_) | (with_reducible refine Below.setCell ?_ ?_ _) | go_size))⟩

theorem list_ix (k : Nat) (hk : k < 5) (A : Nat → Option Addr) (n c : Nat → Nat) (w : World) : (Instr.index 135 (.agg #[.slice (A 0) (n 0) (c 0), .slice (A 1) (n 1) (c 1), .slice (A 2) (n 2) (c 2), .slice (A 3) (n 3) (c 3), .slice (A 4) (n 4) (c 4)]) (.int .i64 k)).run Tryz.prog w = .ok (.slice (A k) (n k) (c k)) w := by
  obtain rfl | rfl | rfl | rfl | rfl : k = 0 ∨ k = 1 ∨ k = 2 ∨ k = 3 ∨ k = 4 := by omega
  all_goals kernel_rfl
set_option maxHeartbeats 400000 in
theorem list_in (k : Nat) (hk : k < 5) (b : Nat) (A : Nat → Option Addr) (n c : Nat → Nat) (w : World) (h : LineAt w b 0 A n c) :
    Calls Tryz.prog 60 #[.pointer (some ⟨b, 0, none⟩), .int .i64 k] w (RetN (.slice (A k) (n k) (c k)) w) := by
  obtain ⟨h0, h1, h2, h3, h4⟩ := h
  simp only [Nat.zero_add] at h1 h2 h3 h4
  have hix := list_ix k hk A n c
  have q1 : ¬ (k : Int) < 0 := by omega
  have q2 : ¬ (5 : Int) ≤ k := by omega
  go_enter Tryz.func60, Tryz.ntmps60
  go_wp2
  go_quiet (fail)
  go_wp2
  go_ret
  exact ⟨rfl, _, rfl⟩
theorem list_out (f : Int) (hf : f < 0 ∨ 5 ≤ f) (p : Value) (w : World) : Calls Tryz.prog 60 #[p, .int .i64 f] w (RetQ (.slice none 0 0) w) := by
  rcases hf with h | h
  · go_enter Tryz.func60, Tryz.ntmps60
    go_wp2
    go_ret
    exact ⟨rfl, rfl⟩
  · have h0 : ¬ f < 0 := by omega
    go_enter Tryz.func60, Tryz.ntmps60
    go_wp2
    go_ret
    exact ⟨rfl, rfl⟩

theorem right1_any (b b' : Nat) (lo hi : Int) (w : World) (h0 : w.cell? ⟨b, 0, none⟩ = some (.int .i64 lo)) (h1 : w.cell? ⟨b', 0, none⟩ = some (.int .i64 hi)) (hb : b < w.heap.size) (hb' : b' < w.heap.size) :
    PredIt 112 #[.pointer (some ⟨b, 0, none⟩), .pointer (some ⟨b', 0, none⟩)] (fun i => !mayIt i lo hi) w := by
  intro W x hB
  have g0 : W.cell? ⟨b, 0, none⟩ = some (.int .i64 lo) := (hB.cell (p := ⟨b, 0, none⟩) hb).trans h0
  have g1 : W.cell? ⟨b', 0, none⟩ = some (.int .i64 hi) := (hB.cell (p := ⟨b', 0, none⟩) hb').trans h1
  have hb2 : b < W.heap.size := Nat.lt_of_lt_of_le hb hB.size
  have hb3 : b' < W.heap.size := Nat.lt_of_lt_of_le hb' hB.size
  clear h0 h1 hB
  go_enter Tryz.func112, Tryz.ntmps112
  go_wp2_with (go_at_call 89; refine (may_any _ _ _ _).mono ?_; rintro e w1 ⟨rfl, hb1⟩)
  go_ret
  exact ⟨rfl, ((Below.refl _ W).alloc (Nat.le_refl _) _).trans (hb1.mono (by simp))⟩

set_option maxHeartbeats 400000 in
theorem right_any (A : Option Addr) (n c : Nat) (l : List It) (lo hi most : Int) (w : World) (hA : RdIts w A n l) (hn : n ≤ 9223372036854775807) :
    Calls Tryz.prog 86 #[.int .i64 lo, .int .i64 hi, .int .i64 most, .slice A n c] w (Ret (.bool (rightB lo hi most l)) w) := by
  have HL : Hid (l.length = n) := hA.1
  by_cases hcase : 0 < n ∧ (n : Int) ≤ most
  · have e : rightB lo hi most l = !(l.any fun i => !mayIt i lo hi) := by
      rw [rightB, decide_eq_true (by have := HL.out; omega), Bool.true_and, List.all_eq_not_any_not]
    have h1 : (0 : Int) < n := by omega
    have h2 : (n : Int) ≤ most := hcase.2
    rw [e]
    generalize hq : (l.any fun i => !mayIt i lo hi) = q
    have HQ := Lib.hid hq
    clear hq e hcase
    have HA := Lib.hid hA
    clear hA
    have eg : ∀ args w, (callFunc 112 args).run Tryz.prog w = .ok (.enter 112 args) w := enters_of Tryz.func112 (by kernel_rfl) rfl
    go_enter Tryz.func86, Tryz.ntmps86
    go_wp2_with fail
    refine (containsFunc_any A n c l _ _ (fun i => !mayIt i lo hi) _ ?_ (by omega) eg (right1_any _ _ lo hi _ ?_ ?_ ?_ ?_)).mono ?_
    · exact Rd.below HA.out (by (repeat' (first | (with_reducible exact Below.refl _ _) | (with_reducible assumption) | (with_reducible refine below_drewN ?_ _) | (with_reducible refine Below.alloc ?_ ?_ _) | (with_reducible refine Below.drew ?_) | (with_reducible refine Below.setCell ?_ ?_ _) | go_size))) (Nat.le_refl _)
    · simp [go_sem]
    · simp [go_sem]
    · (first | (simp; done) | (simp; omega))
    · (first | (simp; done) | (simp; omega))
    rintro e w1 ⟨rfl, hb1⟩
    rw [HQ.out]
    go_wp2
    go_ret
    exact ⟨rfl, (((Below.refl _ w).alloc (Nat.le_refl _) _).alloc (by simp) _).trans (hb1.mono (by simp; omega))⟩
  · have HR : Hid (rightB lo hi most l = false) := rightB_no (by have := HL.out; omega)
    by_cases h1 : 0 < n
    · have h1' : (0 : Int) < n := by omega
      have h2 : ¬ (n : Int) ≤ most := by omega
      have h2' : most < (n : Int) := by omega
      go_enter Tryz.func86, Tryz.ntmps86
      go_wp2
      go_ret
      exact ⟨ret_bool HR.out.symm, by (repeat' (first | (with_reducible exact Below.refl _ _) | (with_reducible assumption) | (with_reducible refine below_drewN ?_ _) | (with_reducible refine Below.alloc ?_ ?_ _) | (with_reducible refine Below.drew ?_) | (with_reducible refine Below.setCell ?_ ?_ _) | go_size))⟩
    · have h0 : n = 0 := by omega
      subst h0
      go_enter Tryz.func86, Tryz.ntmps86
      go_wp2
      go_ret
      exact ⟨ret_bool HR.out.symm, by (repeat' (first | (with_reducible exact Below.refl _ _) | (with_reducible assumption) | (with_reducible refine below_drewN ?_ _) | (with_reducible refine Below.alloc ?_ ?_ _) | (with_reducible refine Below.drew ?_) | (with_reducible refine Below.setCell ?_ ?_ _) | go_size))⟩

theorem fault1_any (w : World) : PredIt 88 #[] (fun i => decide (i.k = 3)) w := by
  intro W x hB
  go_enter Tryz.func88, Tryz.ntmps88
  go_wp2
  go_ret
  exact ⟨ret_bool (by rw [Bool.eq_iff_iff]; simp), by (repeat' (first | (with_reducible exact Below.refl _ _) | (with_reducible assumption) | (with_reducible refine below_drewN ?_ _) | (with_reducible refine Below.alloc ?_ ?_ _) | (with_reducible refine Below.drew ?_) | (with_reducible refine Below.setCell ?_ ?_ _) | go_size))⟩

set_option maxHeartbeats 400000 in
theorem fault_any (k : Nat) (hk : k < 5) (A : Option Addr) (n c : Nat) (l : List It) (w : World) (hA : RdIts w A n l) (hn : n ≤ 9223372036854775807) :
    Calls Tryz.prog 59 #[.int .i64 k, .slice A n c] w (Ret (.int .i64 (faultI k l)) w) := by
  have HL : Hid (l.length = n) := hA.1
  have HA := Lib.hid hA
  clear hA
  have HB := Lib.hid (bounds_in k hk w)
  by_cases h0 : n = 0
  · subst h0
    have HR : Hid (faultI k l = 11) := faultI_nil HL.out
    go_enter Tryz.func59, Tryz.ntmps59
    go_wp2_with fail
    refine HB.out.mono ?_
    rintro e w1 ⟨rfl, hb1⟩
    go_wp2
    go_ret
    exact ⟨ret_int HR.out.symm, hb1⟩
  have h0' : ((n : Int) == 0) = false := by simp; omega
  by_cases h64 : 64 < n
  · have HR : Hid (faultI k l = 5) := faultI_long (by have := HL.out; omega)
    have h64' : (64 : Int) < (n : Int) := by omega
    go_enter Tryz.func59, Tryz.ntmps59
    go_wp2_with fail
    refine HB.out.mono ?_
    rintro e w1 ⟨rfl, hb1⟩
    go_wp2
    go_ret
    exact ⟨ret_int HR.out.symm, hb1⟩
  have h64' : ¬ (64 : Int) < (n : Int) := by omega
  have HF := Lib.hid (fun w1 (hb1 : Below w.heap.size w w1) => right_any A n c l (cLo k) (cHi k) 64 w1 (HA.out.below hb1 (Nat.le_refl _)) hn)
  cases hr : rightB (cLo k) (cHi k) 64 l with
  | false =>
    have HR : Hid (faultI k l = 1) := faultI_right (by have := HL.out; omega) (by have := HL.out; omega) hr
    rw [hr] at HF
    clear hr
    go_enter Tryz.func59, Tryz.ntmps59
    go_wp2_with fail
    refine HB.out.mono ?_
    rintro e w1 ⟨rfl, hb1⟩
    go_wp2_with fail
    refine (HF.out _ hb1).mono ?_
    rintro e w2 ⟨rfl, hb2⟩
    go_wp2
    go_ret
    exact ⟨ret_int HR.out.symm, bthen hb1 hb2 hb1.size⟩
  | true =>
    have HR : Hid (faultI k l = if l.any (fun i => decide (i.k = 3)) then 1 else 0) := faultI_rest (by have := HL.out; omega) (by have := HL.out; omega) hr
    rw [hr] at HF
    clear hr
    have eg : ∀ args w, (callFunc 88 args).run Tryz.prog w = .ok (.enter 88 args) w := enters_of Tryz.func88 (by kernel_rfl) rfl
    have HG := Lib.hid (fun w1 (hb1 : Below w.heap.size w w1) => containsFunc_any A n c l 88 #[] _ w1 (HA.out.below hb1 (Nat.le_refl _)) hn eg (fault1_any w1))
    clear eg
    cases hq : l.any (fun i => decide (i.k = 3)) with
    | true =>
      rw [hq] at HG HR
      clear hq
      go_enter Tryz.func59, Tryz.ntmps59
      go_wp2_with fail
      refine HB.out.mono ?_
      rintro e w1 ⟨rfl, hb1⟩
      go_wp2_with fail
      refine (HF.out _ hb1).mono ?_
      rintro e w2 ⟨rfl, hb2⟩
      go_wp2_with fail
      refine (HG.out _ (bthen hb1 hb2 hb1.size)).mono ?_
      rintro e w3 ⟨rfl, hb3⟩
      go_wp2
      go_ret
      exact ⟨ret_int HR.out.symm, bthen (bthen hb1 hb2 hb1.size) hb3 (bthen hb1 hb2 hb1.size).size⟩
    | false =>
      rw [hq] at HG HR
      clear hq
      go_enter Tryz.func59, Tryz.ntmps59
      go_wp2_with fail
      refine HB.out.mono ?_
      rintro e w1 ⟨rfl, hb1⟩
      go_wp2_with fail
      refine (HF.out _ hb1).mono ?_
      rintro e w2 ⟨rfl, hb2⟩
      go_wp2_with fail
      refine (HG.out _ (bthen hb1 hb2 hb1.size)).mono ?_
      rintro e w3 ⟨rfl, hb3⟩
      go_wp2
      go_ret
      exact ⟨ret_int HR.out.symm, bthen (bthen hb1 hb2 hb1.size) hb3 (bthen hb1 hb2 hb1.size).size⟩

set_option maxHeartbeats 400000 in
theorem check_any (A : Nat → Option Addr) (n c : Nat → Nat) (l : Nat → List It) (w : World) (hA : RdLine w A n l) (hn : ∀ k, n k ≤ 9223372036854775807) :
    Calls Tryz.prog 19 #[crV A n c] w (Ret (.tuple #[.int .i64 (chk l).1, .int .i64 (chk l).2]) w) := by
  have HA := Lib.hid hA
  have HN := Lib.hid hn
  clear hA hn
  go_enter Tryz.func19, Tryz.ntmps19
  go_wp2
  go_loopw [6] (fun i wr => ∃ k : Nat, k ≤ 5 ∧ i = .int .i64 k ∧ Hid (∀ j, j < k → faultI j (l j) = 0) ∧ Hid (LineAt wr w.heap.size 0 A n c) ∧ w.heap.size < wr.heap.size ∧ Below w.heap.size w wr) (fun i _ => 5 - (intOf i).toNat)
  case atStart => exact ⟨0, by omega, rfl, fun j h => absurd h (Nat.not_lt_zero _), ⟨by simp [go_sem], by simp [go_sem], by simp [go_sem], by simp [go_sem], by simp [go_sem]⟩, by (first | (simp; done) | (simp; omega)), by (repeat' (first | (with_reducible exact Below.refl _ _) | (with_reducible assumption) | (with_reducible refine below_drewN ?_ _) | (with_reducible refine Below.alloc ?_ ?_ _) | (with_reducible refine Below.drew ?_) | (with_reducible refine Below.setCell ?_ ?_ _) | go_size))⟩
  case round =>
    obtain ⟨k, hk, rfl, H, HC, hlt, hb⟩ := hrel
    have hsz := hb.size
    by_cases h5 : k < 5
    · have h5' : (k : Int) < 5 := by omega
      have HL := Lib.hid (list_in k h5 w.heap.size A n c wr HC.out)
      have HF := Lib.hid (fun w1 (hb1 : Below wr.heap.size wr w1) => fault_any k h5 (A k) (n k) (c k) (l k) w1 (((HA.out k h5).below hb (Nat.le_refl _)).below hb1 (Nat.le_refl _)) (HN.out k))
      by_cases hf : faultI k (l k) = 0
      · have Hf := Lib.hid hf
        rw [hf] at HF
        clear hf
        go_wp2_with fail
        refine HL.out.mono ?_
        rintro e w1 ⟨rfl, q, rfl⟩
        go_wp2_with fail
        refine (HF.out _ (below_drewN (Below.refl _ _) q)).mono ?_
        rintro e w1 ⟨rfl, hb1⟩
        go_wp2
        go_roundw
        case rel =>
          have hb2 : Below wr.heap.size wr w1 := (below_drewN (Below.refl _ wr) q).trans hb1
          exact ⟨k + 1, by omega, by go_num, upto_succ H.out Hf.out, LineAt.below HC.out (fun o => hb2.cell (p := ⟨_, o, none⟩) hlt), Nat.lt_of_lt_of_le hlt hb2.size, bthen hb hb2 hsz⟩
        case measure => simp [intOf]; omega
      · have HK : Hid (chk l = ((k : Int), faultI k (l k))) := chk_at h5 H.out hf
        have hf' : (faultI k (l k) != 0) = true := by simpa using hf
        clear hf
        generalize faultI k (l k) = q at HF HK hf'
        go_wp2_with fail
        refine HL.out.mono ?_
        rintro e w1 ⟨rfl, q, rfl⟩
        go_wp2_with fail
        refine (HF.out _ (below_drewN (Below.refl _ _) _)).mono ?_
        rintro e w1 ⟨rfl, hb1⟩
        go_wp2
        go_ret2
        have hb2 : Below wr.heap.size wr w1 := (below_drewN (Below.refl _ wr) _).trans hb1
        exact ⟨by rw [HK.out]; rfl, bthen hb hb2 hsz⟩
    · obtain rfl : k = 5 := by omega
      have HK : Hid (chk l = (5, 0)) := chk_all H.out
      go_wp2
      go_ret2
      exact ⟨by rw [HK.out]; rfl, hb⟩
end Go.Proofs.YtochhmkdhdadhaaGreatDoor
