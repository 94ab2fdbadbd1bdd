/- The walks of package cron: what each function hands back. -/
import Derived.Test.YtpfcgjneeboamaaDoorRows
import Derived.Test.YtpfcgjneeboamaaDoorWArr
import Derived.Test.YtpfcgjneeboamaaDoorWSl
import Derived.Test.YtpfcgjneeboamaaDoorWLine
/- The walks of package item: what each function hands back. -/
namespace Go.Proofs.YtpfcgjneeboamaaDoor
open Go.RowKit
set_option linter.unusedSimpArgs false
set_option linter.unusedVariables false

theorem okStep_true {n : Int} (h : 1 ≤ n ∧ n ≤ 999) : okStep n = true := decide_eq_true h
theorem okStep_le {n : Int} (h : 1 ≤ n) : okStep n = decide (n ≤ 999) := by simp [okStep, h]
theorem okStep_false {n : Int} (h : n < 1) : okStep n = false := by simp [okStep]; omega

theorem rdInts_one (w : World) (b : Nat) (x : Int) (hb : b < w.heap.size) (h : w.cell? ⟨b, 0, none⟩ = some (.int .i64 x)) : RdInts w (some ⟨b, 0, none⟩) 1 [x] :=
  ⟨rfl, fun _ => ⟨b, 0, rfl, hb, fun i y hi j v hj => by
    rcases i with _ | i
    · obtain rfl : x = y := by simpa using hi
      rcases j with _ | j
      · obtain rfl : Value.int .i64 x = v := by simpa [intEnc] using hj
        simpa using h
      · simp [intEnc] at hj
    · simp at hi⟩⟩
theorem rdInts_two (w : World) (b : Nat) (x y : Int) (hb : b < w.heap.size) (h : w.cell? ⟨b, 0, none⟩ = some (.int .i64 x)) (h1 : w.cell? ⟨b, 1, none⟩ = some (.int .i64 y)) : RdInts w (some ⟨b, 0, none⟩) 2 [x, y] :=
  ⟨rfl, fun _ => ⟨b, 0, rfl, hb, fun i z hi j v hj => by
    rcases j with _ | j
    · obtain rfl : Value.int .i64 z = v := by simpa [intEnc] using hj
      rcases i with _ | _ | i
      · obtain rfl : x = z := by simpa using hi
        simpa using h
      · obtain rfl : y = z := by simpa using hi
        simpa using h1
      · simp at hi
    · simp [intEnc] at hj⟩⟩

end Go.Proofs.YtpfcgjneeboamaaDoor

namespace Go.Proofs.YtpfcgjneeboamaaDoor
open Go.RowKit
set_option linter.unusedSimpArgs false
set_option linter.unusedVariables false

theorem bounds_ix (k : Nat) (hk : k < 5) (w : World) : (Instr.index 91 (.agg #[.int .i64 0, .int .i64 59, .int .i64 0, .int .i64 23, .int .i64 1, .int .i64 31, .int .i64 1, .int .i64 12, .int .i64 0, .int .i64 7]) (.int .i64 k)).run Tryd.prog w = .ok (.agg #[.int .i64 (cLo k), .int .i64 (cHi k)]) w := by
  obtain rfl | rfl | rfl | rfl | rfl : k = 0 ∨ k = 1 ∨ k = 2 ∨ k = 3 ∨ k = 4 := by omega
  · exact (show _ = Result.ok (Value.agg #[.int .i64 0, .int .i64 59]) w by kernel_rfl)
  · exact (show _ = Result.ok (Value.agg #[.int .i64 0, .int .i64 23]) w by kernel_rfl)
  · exact (show _ = Result.ok (Value.agg #[.int .i64 1, .int .i64 31]) w by kernel_rfl)
  · exact (show _ = Result.ok (Value.agg #[.int .i64 1, .int .i64 12]) w by kernel_rfl)
  · exact (show _ = Result.ok (Value.agg #[.int .i64 0, .int .i64 7]) w by kernel_rfl)
set_option maxRecDepth 10000 in
theorem bounds_in (k : Nat) (hk : k < 5) (w : World) : Calls Tryd.prog 40 #[.int .i64 k] w (Ret (.tuple #[.int .i64 (cLo k), .int .i64 (cHi k)]) w) := by
  have hix := bounds_ix k hk
  have h1 : ¬ (k : Int) < 0 := by omega
  have h2 : ¬ (5 : Int) ≤ k := by omega
  generalize cLo k = lo at hix ⊢
  generalize cHi k = hi at hix ⊢
  go_enter Tryd.func40, Tryd.ntmps40
  go_wp2
  go_quiet (fail)
  go_wp2
  go_ret2
  exact ⟨rfl, by (repeat' (first | (with_reducible exact Below.refl _ _) | (with_reducible assumption) | (with_reducible refine below_drewN ?_ _) | (with_reducible refine Below.alloc ?_ ?_ _) | (with_reducible refine Below.drew ?_) | (with_reducible refine Below.setCell ?_ ?_ _) | go_size))⟩
theorem bounds_out (f : Int) (hf : f < 0 ∨ 5 ≤ f) (w : World) : Calls Tryd.prog 40 #[.int .i64 f] w (Ret (.tuple #[.int .i64 0, .int .i64 0]) w) := by
  rcases hf with h | h
  · go_enter Tryd.func40, Tryd.ntmps40
    go_wp2
    go_ret2
    exact ⟨rfl, by (repeat' (first | (with_reducible exact Below.refl _ _) | (with_reducible assumption) | (with_reducible refine below_drewN ?_ _) | (with_reducible refine Below.alloc ?_ ?_ _) | (with_reducible refine Below.drew ?_) | (with_reducible refine Below.setCell ?_ ?_ _) | go_size))⟩
  · have h0 : ¬ f < 0 := by omega
    go_enter Tryd.func40, Tryd.ntmps40
    go_wp2
    go_ret2
    exact ⟨rfl, by (repeat' (first | (with_reducible exact Below.refl _ _) | (with_reducible assumption) | (with_reducible refine below_drewN ?_ _) | (with_reducible refine Below.alloc ?_ ?_ _) | (with_reducible refine Below.drew ?_) | (with_reducible refine Below.setCell ?_ ?_ _) | go_size))⟩

theorem list_ix (k : Nat) (hk : k < 5) (A : Nat → Option Addr) (n c : Nat → Nat) (w : World) : (Instr.index 56 (.agg #[.slice (A 0) (n 0) (c 0), .slice (A 1) (n 1) (c 1), .slice (A 2) (n 2) (c 2), .slice (A 3) (n 3) (c 3), .slice (A 4) (n 4) (c 4)]) (.int .i64 k)).run Tryd.prog w = .ok (.slice (A k) (n k) (c k)) w := by
  obtain rfl | rfl | rfl | rfl | rfl : k = 0 ∨ k = 1 ∨ k = 2 ∨ k = 3 ∨ k = 4 := by omega
  all_goals kernel_rfl
end Go.Proofs.YtpfcgjneeboamaaDoor
