/- The walks of package feriaref12. -/
import Derived.Test.YtgliminiiciflaaRows
import Derived.Test.YtgliminiiciflaaPlain
namespace Go.Proofs.Ytgliminiiciflaa
open Go.RowKit
set_option linter.unusedSimpArgs false
set_option linter.unusedVariables false

set_option maxHeartbeats 400000 in
theorem rmay_any (i : It) (lo hi : Int) (w : World) : Calls Try.prog 43 #[.agg #[.int .i64 i.k, .int .i64 i.f, .int .i64 i.t, .int .i64 i.s], .int .i64 lo, .int .i64 hi] w (Ret (.bool (mayIt i lo hi)) w) := by
  go_enter Try.func43, Try.ntmps43
  go_wp2
  all_goals go_ret
  all_goals (refine ⟨ret_bool ?_, by (repeat' (first | (with_reducible exact Below.refl _ _) | (with_reducible assumption) | (with_reducible refine below_drewN ?_ _) | (with_reducible refine Below.alloc ?_ ?_ _) | (with_reducible refine Below.drew ?_) | (with_reducible refine Below.setCell ?_ ?_ _) | go_size))⟩
             ((try simp only [beq_iff_eq, beq_eq_false_iff_ne, bne_iff_ne, ne_eq, mayIt, MayP, decide_eq_true_eq, decide_eq_false_iff_not, Bool.and_eq_true, Bool.or_eq_true, Bool.not_eq_true', Bool.not_eq_false', Bool.and_eq_false_iff, Bool.or_eq_false_iff] at *)
              rw [Bool.eq_iff_iff]
              (try simp only [mayIt, MayP, decide_eq_true_eq, beq_iff_eq, bne_iff_ne, ne_eq, Bool.and_eq_true, Bool.or_eq_true, Bool.not_eq_true', Bool.not_eq_false', beq_eq_false_iff_ne, decide_eq_false_iff_not, iff_true, true_iff, Bool.false_eq_true, false_iff, iff_false, reduceCtorEq])
              omega))

set_option maxHeartbeats 400000 in
theorem rright_any (A : Option Addr) (n c : Nat) (l : List It) (lo hi most : Int) (w : World) (hA : RdIts w A n l) (hn : n ≤ 9223372036854775807) :
    Calls Try.prog 40 #[.slice A n c, .int .i64 lo, .int .i64 hi, .int .i64 most] w (Ret (.bool (rightB lo hi most l)) w) := by
  have HL : Hid (l.length = n) := hA.1
  by_cases hcase : (n : Int) = 0 ∨ most < (n : Int)
  · have HR : Hid (rightB lo hi most l = false) := rightB_no (by have := HL.out; omega)
    rcases hcase with h0 | h1
    · have h0' : ((n : Int) == 0) = true := by simpa using h0
      go_enter Try.func40, Try.ntmps40
      go_wp2
      go_ret
      exact ⟨ret_bool HR.out.symm, by (repeat' (first | (with_reducible exact Below.refl _ _) | (with_reducible assumption) | (with_reducible refine below_drewN ?_ _) | (with_reducible refine Below.alloc ?_ ?_ _) | (with_reducible refine Below.drew ?_) | (with_reducible refine Below.setCell ?_ ?_ _) | go_size))⟩
    · by_cases h0 : (n : Int) = 0
      · have h0' : ((n : Int) == 0) = true := by simpa using h0
        go_enter Try.func40, Try.ntmps40
        go_wp2
        go_ret
        exact ⟨ret_bool HR.out.symm, by (repeat' (first | (with_reducible exact Below.refl _ _) | (with_reducible assumption) | (with_reducible refine below_drewN ?_ _) | (with_reducible refine Below.alloc ?_ ?_ _) | (with_reducible refine Below.drew ?_) | (with_reducible refine Below.setCell ?_ ?_ _) | go_size))⟩
      · have h0' : ((n : Int) == 0) = false := by simpa using h0
        go_enter Try.func40, Try.ntmps40
        go_wp2
        go_ret
        exact ⟨ret_bool HR.out.symm, by (repeat' (first | (with_reducible exact Below.refl _ _) | (with_reducible assumption) | (with_reducible refine below_drewN ?_ _) | (with_reducible refine Below.alloc ?_ ?_ _) | (with_reducible refine Below.drew ?_) | (with_reducible refine Below.setCell ?_ ?_ _) | go_size))⟩
  · have h0' : ((n : Int) == 0) = false := by simp; omega
    have h1 : ¬ most < (n : Int) := by omega
    have HS : Hid (0 < l.length ∧ (l.length : Int) ≤ most) := by have := HL.out; exact ⟨by omega, by omega⟩
    clear hcase
    go_enter Try.func40, Try.ntmps40
    go_wp2
    go_loopw [9] (fun i wr => ∃ k : Nat, k ≤ n ∧ i = .int .i64 k ∧ Hid (∀ j it, j < k → l[j]? = some it → mayIt it lo hi = true) ∧ Below w.heap.size w wr) (fun i _ => n - (intOf i).toNat)
    case atStart => exact ⟨0, Nat.zero_le _, rfl, fun j _ h => absurd h (Nat.not_lt_zero _), Below.refl _ _⟩
    case round =>
      obtain ⟨k, hk, rfl, H, hb⟩ := hrel
      have hsz := hb.size
      by_cases hlt : k < n
      · obtain ⟨b, o, it, rfl, hbl, hx, c0, c1, c2, c3⟩ := RdIts.at_ (hA.below hb (Nat.le_refl _)) hlt
        have hlt' : (k : Int) < (n : Int) := by omega
        have Hx := Lib.hid hx
        clear hx
        cases hm : mayIt it lo hi with
        | true =>
          have Hm := Lib.hid hm
          go_wp2_with (go_at_call 43; refine (rmay_any _ _ _ _).mono ?_; rintro e w1 ⟨rfl, hb1⟩; simp only [hm])
          go_roundw
          case rel => exact ⟨k + 1, by omega, by go_num, all_succ H.out Hx.out Hm.out, bthen hb hb1 hsz⟩
          case measure => simp [intOf]; omega
        | false =>
          have Hm := Lib.hid hm
          go_wp2_with (go_at_call 43; refine (rmay_any _ _ _ _).mono ?_; rintro e w1 ⟨rfl, hb1⟩; simp only [hm])
          go_ret
          exact ⟨ret_bool (rightB_bad Hx.out Hm.out).symm, bthen hb hb1 hsz⟩
      · obtain rfl : k = n := by omega
        go_wp2
        go_ret
        exact ⟨ret_bool (rightB_yes HS.out (HL.out ▸ H.out)).symm, hb⟩
end Go.Proofs.Ytgliminiiciflaa
