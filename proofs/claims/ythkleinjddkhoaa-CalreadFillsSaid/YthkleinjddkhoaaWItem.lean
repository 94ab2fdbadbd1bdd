/- The walks of package item: what each function hands back. -/
import Derived.Test.YthkleinjddkhoaaRows
import Derived.Test.YthkleinjddkhoaaPlain
namespace Go.Proofs.Ythkleinjddkhoaa
open Go.RowKit
set_option linter.unusedSimpArgs false
set_option linter.unusedVariables false

theorem okStep_true {n : Int} (h : 1 ≤ n ∧ n ≤ 999) : okStep n = true := decide_eq_true h
theorem okStep_le {n : Int} (h : 1 ≤ n) : okStep n = decide (n ≤ 999) := by simp [okStep, h]
theorem okStep_false {n : Int} (h : n < 1) : okStep n = false := by simp [okStep]; omega

theorem step_any (n : Int) (w : World) : Calls Try.prog 62 #[.int .i64 n] w (RetQ (.bool (okStep n)) w) := by
  go_enter Try.func62, Try.ntmps62
  go_wp2
  all_goals go_ret
  · exact ⟨ret_bool (okStep_le (by assumption)).symm, rfl⟩
  · exact ⟨ret_bool (okStep_false (by assumption)).symm, rfl⟩

set_option maxHeartbeats 400000 in
theorem of_any (lo hi : Int) (A : Option Addr) (n c : Nat) (l : List Int) (w : World) (h : RdInts w A n l) (hn : n ≤ 9223372036854775807) :
    Calls Try.prog 63 #[.int .i64 lo, .int .i64 hi, .slice A n c] w (RetQ (.bool (ofB lo hi l)) w) := by
  have HL : Hid (l.length = n) := h.1
  go_enter Try.func63, Try.ntmps63
  go_wp2
  go_loop [11] (fun i => ∃ k : Nat, k ≤ n ∧ i = .int .i64 k ∧ Hid (OfP lo hi l k)) (fun i => n - (intOf i).toNat)
  case atStart => exact ⟨0, Nat.zero_le _, rfl, OfP.zero _ _ _⟩
  case round =>
    obtain ⟨k, hk, rfl, H⟩ := hrel
    by_cases hlt : k < n
    · obtain ⟨b, o, x, rfl, _, hx, c0⟩ := RdInts.at_ h hlt
      have hlt' : (k : Int) < (n : Int) := by omega
      have Hx := Lib.hid hx
      clear hx
      rcases Nat.eq_zero_or_pos k with rfl | hpos
      · rw [Nat.add_zero] at c0
        go_wp2
        all_goals first
          | (go_ret; exact ⟨ret_bool (ofB_no1 Hx.out (by omega)).symm, rfl⟩)
          | (go_round
             case rel => exact ⟨0 + 1, by omega, by go_num, OfP.one Hx.out (by omega)⟩
             case measure => simp [intOf]; omega)
      · obtain ⟨k, rfl⟩ : ∃ j, k = j + 1 := ⟨k - 1, by omega⟩
        obtain ⟨b', o', y, e, _, hy, c1⟩ := RdInts.at_ h (i := k) (by omega)
        cases e
        have Hy := Lib.hid hy
        clear hy
        go_wp2
        all_goals first
          | (go_ret; exact ⟨ret_bool (ofB_no Hx.out Hy.out (by omega)).symm, rfl⟩)
          | (go_round
             case rel => exact ⟨k + 1 + 1, by omega, by go_num, OfP.succ H.out Hx.out Hy.out (by omega)⟩
             case measure => simp [intOf]; omega)
    · obtain rfl : k = n := by omega
      go_wp2
      go_ret
      exact ⟨ret_bool (OfP.all (HL.out ▸ H.out)).symm, rfl⟩

theorem rdInts_one (w : World) (b : Nat) (x : Int) (hb : b < w.heap.size) (h : w.cell? ⟨b, 0, none⟩ = some (.int .i64 x)) : RdInts w (some ⟨b, 0, none⟩) 1 [x] :=
  ⟨rfl, fun _ => ⟨b, 0, rfl, hb, fun i y hi j v hj => by
    rcases i with _ | i
    · obtain rfl : x = y := by simpa using hi
      rcases j with _ | j
      · obtain rfl : Value.int .i64 x = v := by simpa [intEnc] using hj
        simpa using h
      · simp [intEnc] at hj
    · simp at hi⟩⟩
theorem rdInts_two (w : World) (b : Nat) (x y : Int) (hb : b < w.heap.size) (h : w.cell? ⟨b, 0, none⟩ = some (.int .i64 x)) (h1 : w.cell? ⟨b, 1, none⟩ = some (.int .i64 y)) : RdInts w (some ⟨b, 0, none⟩) 2 [x, y] :=
  ⟨rfl, fun _ => ⟨b, 0, rfl, hb, fun i z hi j v hj => by
    rcases j with _ | j
    · obtain rfl : Value.int .i64 z = v := by simpa [intEnc] using hj
      rcases i with _ | _ | i
      · obtain rfl : x = z := by simpa using hi
        simpa using h
      · obtain rfl : y = z := by simpa using hi
        simpa using h1
      · simp at hi
    · simp [intEnc] at hj⟩⟩

theorem of_one (lo hi x : Int) (b : Nat) (w : World) (hb : b < w.heap.size) (h : w.cell? ⟨b, 0, none⟩ = some (.int .i64 x)) :
    Calls Try.prog 63 #[.int .i64 lo, .int .i64 hi, .slice (some ⟨b, 0, none⟩) 1 1] w (RetQ (.bool (ofB lo hi [x])) w) :=
  of_any lo hi _ 1 1 [x] w (rdInts_one w b x hb h) (by decide)
theorem of_two (lo hi x y : Int) (b : Nat) (w : World) (hb : b < w.heap.size) (h : w.cell? ⟨b, 0, none⟩ = some (.int .i64 x)) (h1 : w.cell? ⟨b, 1, none⟩ = some (.int .i64 y)) :
    Calls Try.prog 63 #[.int .i64 lo, .int .i64 hi, .slice (some ⟨b, 0, none⟩) 2 2] w (RetQ (.bool (ofB lo hi [x, y])) w) :=
  of_any lo hi _ 2 2 [x, y] w (rdInts_two w b x y hb h h1) (by decide)

set_option maxHeartbeats 400000 in
theorem may_any (i : It) (lo hi : Int) (w : World) : Calls Try.prog 45 #[.agg #[.int .i64 i.k, .int .i64 i.f, .int .i64 i.t, .int .i64 i.s], .int .i64 lo, .int .i64 hi] w (Ret (.bool (mayIt i lo hi)) w) := by
  go_enter Try.func45, Try.ntmps45
  go_wp2_with (first
    | (go_at_call 62; refine (step_any _ _).mono ?_; rintro e w' ⟨rfl, rfl⟩)
    | (go_at_call 63; (with_reducible refine (of_one _ _ i.f _ _ ?_ ?_).mono ?_); (focus simp); (focus simp [go_sem]); rintro e w' ⟨rfl, rfl⟩)
    | (go_at_call 63; (with_reducible refine (of_two _ _ i.f i.t _ _ ?_ ?_ ?_).mono ?_); (focus simp); (focus simp [go_sem]); (focus simp [go_sem]); rintro e w' ⟨rfl, rfl⟩))
  all_goals go_ret
  all_goals (refine ⟨ret_bool ?_, by (repeat' (first | (with_reducible exact Below.refl _ _) | (with_reducible assumption) | (with_reducible refine below_drewN ?_ _) | (with_reducible refine Below.alloc ?_ ?_ _) | (with_reducible refine Below.drew ?_) | (with_reducible refine Below.setCell ?_ ?_ _) | go_size))⟩
             ((try simp only [beq_iff_eq, beq_eq_false_iff_ne, bne_iff_ne, ne_eq, mayIt, MayP, okStep, ofB, decide_eq_true_eq, decide_eq_false_iff_not, Bool.and_eq_true, Bool.or_eq_true, Bool.not_eq_true', Bool.not_eq_false', Bool.and_eq_false_iff, Bool.or_eq_false_iff] at *)
              rw [Bool.eq_iff_iff]
              (try simp only [mayIt, MayP, okStep, ofB, decide_eq_true_eq, beq_iff_eq, bne_iff_ne, ne_eq, Bool.and_eq_true, Bool.or_eq_true, Bool.not_eq_true', Bool.not_eq_false', beq_eq_false_iff_ne, decide_eq_false_iff_not, iff_true, true_iff, Bool.false_eq_true, false_iff, iff_false, reduceCtorEq])
              omega))

end Go.Proofs.Ythkleinjddkhoaa
