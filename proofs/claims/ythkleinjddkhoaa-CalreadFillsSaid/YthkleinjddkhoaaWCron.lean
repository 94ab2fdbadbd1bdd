/- The walks of package cron: what each function hands back. -/
import Derived.Test.YthkleinjddkhoaaWItem
import Derived.Test.YthkleinjddkhoaaWSl
import Derived.Test.YthkleinjddkhoaaWLine
namespace Go.Proofs.Ythkleinjddkhoaa
open Go.RowKit
set_option linter.unusedSimpArgs false
set_option linter.unusedVariables false

theorem right1_any (b b' : Nat) (lo hi : Int) (w : World) (h0 : w.cell? ⟨b, 0, none⟩ = some (.int .i64 lo)) (h1 : w.cell? ⟨b', 0, none⟩ = some (.int .i64 hi)) (hb : b < w.heap.size) (hb' : b' < w.heap.size) :
    PredIt 44 #[.pointer (some ⟨b, 0, none⟩), .pointer (some ⟨b', 0, none⟩)] (fun i => !mayIt i lo hi) w := by
  intro W x hB
  have g0 : W.cell? ⟨b, 0, none⟩ = some (.int .i64 lo) := (hB.cell (p := ⟨b, 0, none⟩) hb).trans h0
  have g1 : W.cell? ⟨b', 0, none⟩ = some (.int .i64 hi) := (hB.cell (p := ⟨b', 0, none⟩) hb').trans h1
  have hb2 : b < W.heap.size := Nat.lt_of_lt_of_le hb hB.size
  have hb3 : b' < W.heap.size := Nat.lt_of_lt_of_le hb' hB.size
  clear h0 h1 hB
  go_enter Try.func44, Try.ntmps44
  go_wp2_with (go_at_call 45; refine (may_any _ _ _ _).mono ?_; rintro e w1 ⟨rfl, hb1⟩)
  go_ret
  exact ⟨rfl, ((Below.refl _ W).alloc (Nat.le_refl _) _).trans (hb1.mono (by simp))⟩

set_option maxHeartbeats 400000 in
theorem right_any (A : Option Addr) (n c : Nat) (l : List It) (lo hi most : Int) (w : World) (hA : RdIts w A n l) (hn : n ≤ 9223372036854775807) :
    Calls Try.prog 31 #[.int .i64 lo, .int .i64 hi, .int .i64 most, .slice A n c] w (Ret (.bool (rightB lo hi most l)) w) := by
  have HL : Hid (l.length = n) := hA.1
  by_cases hcase : 0 < n ∧ (n : Int) ≤ most
  · have e : rightB lo hi most l = !(l.any fun i => !mayIt i lo hi) := by
      rw [rightB, decide_eq_true (by have := HL.out; omega), Bool.true_and, List.all_eq_not_any_not]
    have h1 : (0 : Int) < n := by omega
    have h2 : (n : Int) ≤ most := hcase.2
    rw [e]
    generalize hq : (l.any fun i => !mayIt i lo hi) = q
    have HQ := Lib.hid hq
    clear hq e hcase
    have HA := Lib.hid hA
    clear hA
    have eg : ∀ args w, (callFunc 44 args).run Try.prog w = .ok (.enter 44 args) w := enters_of Try.func44 (by kernel_rfl) rfl
    go_enter Try.func31, Try.ntmps31
    go_wp2_with fail
    refine (containsFunc_any A n c l _ _ (fun i => !mayIt i lo hi) _ ?_ (by omega) eg (right1_any _ _ lo hi _ ?_ ?_ ?_ ?_)).mono ?_
    · exact Rd.below HA.out (by (repeat' (first | (with_reducible exact Below.refl _ _) | (with_reducible assumption) | (with_reducible refine below_drewN ?_ _) | (with_reducible refine Below.alloc ?_ ?_ _) | (with_reducible refine Below.drew ?_) | (with_reducible refine Below.setCell ?_ ?_ _) | go_size))) (Nat.le_refl _)
    · simp [go_sem]
    · simp [go_sem]
    · (first | (simp; done) | (simp; omega))
    · (first | (simp; done) | (simp; omega))
    rintro e w1 ⟨rfl, hb1⟩
    rw [HQ.out]
    go_wp2
    go_ret
    exact ⟨rfl, (((Below.refl _ w).alloc (Nat.le_refl _) _).alloc (by simp) _).trans (hb1.mono (by simp; omega))⟩
  · have HR : Hid (rightB lo hi most l = false) := rightB_no (by have := HL.out; omega)
    by_cases h1 : 0 < n
    · have h1' : (0 : Int) < n := by omega
      have h2 : ¬ (n : Int) ≤ most := by omega
      have h2' : most < (n : Int) := by omega
      go_enter Try.func31, Try.ntmps31
      go_wp2
      go_ret
      exact ⟨ret_bool HR.out.symm, by (repeat' (first | (with_reducible exact Below.refl _ _) | (with_reducible assumption) | (with_reducible refine below_drewN ?_ _) | (with_reducible refine Below.alloc ?_ ?_ _) | (with_reducible refine Below.drew ?_) | (with_reducible refine Below.setCell ?_ ?_ _) | go_size))⟩
    · have h0 : n = 0 := by omega
      subst h0
      go_enter Try.func31, Try.ntmps31
      go_wp2
      go_ret
      exact ⟨ret_bool HR.out.symm, by (repeat' (first | (with_reducible exact Below.refl _ _) | (with_reducible assumption) | (with_reducible refine below_drewN ?_ _) | (with_reducible refine Below.alloc ?_ ?_ _) | (with_reducible refine Below.drew ?_) | (with_reducible refine Below.setCell ?_ ?_ _) | go_size))⟩

end Go.Proofs.Ythkleinjddkhoaa
