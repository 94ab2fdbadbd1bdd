/- The laws CronChecks and CronFields: their walks. -/
import Derived.Test.YtochhmkdhdadhaaGreatDoorWSame24
namespace Go.Proofs.YtochhmkdhdadhaaGreatDoor
open Go.RowKit
set_option linter.unusedSimpArgs false
set_option linter.unusedVariables false

/-- The example's line: which list each field has. -/
def exL (k : Nat) : List It := if k = 3 then [⟨0, 0, 0, 1⟩] else [⟨1, 5, 0, 0⟩]
theorem exL_chk : chk exL = (5, 0) := by decide
theorem exL_either : eitherB exL = true := by decide
def exA (a b : Nat) (k : Nat) : Option Addr := if k = 3 then some ⟨a, 0, none⟩ else some ⟨b, 0, none⟩
theorem ex_rd {w : World} {a b : Nat} (h0 : RdIts w (some ⟨a, 0, none⟩) 1 [⟨0, 0, 0, 1⟩]) (h1 : RdIts w (some ⟨b, 0, none⟩) 1 [⟨1, 5, 0, 0⟩]) : RdLine w (exA a b) (fun _ => 1) exL := by
  intro k _
  unfold exA exL
  split
  · exact h0
  · exact h1


abbrev exVal (a b : Nat) : Value := .agg #[.slice (some ⟨b, 0, none⟩) 1 1, .slice (some ⟨b, 0, none⟩) 1 1, .slice (some ⟨b, 0, none⟩) 1 1, .slice (some ⟨a, 0, none⟩) 1 1, .slice (some ⟨b, 0, none⟩) 1 1]
theorem ex_val (a b : Nat) : crV (exA a b) (fun _ => 1) (fun _ => 1) = exVal a b := rfl
theorem ex_check {w : World} {a b : Nat} (h : RdLine w (exA a b) (fun _ => 1) exL) : Calls Tryz.prog 19 #[exVal a b] w (Ret (.tuple #[.int .i64 5, .int .i64 0]) w) := by
  have := check_any (exA a b) (fun _ => 1) (fun _ => 1) exL w h (fun _ => by decide)
  rw [exL_chk] at this
  exact this
theorem ex_either {w : World} {a b : Nat} (h : RdLine w (exA a b) (fun _ => 1) exL) : Calls Tryz.prog 26 #[exVal a b] w (Ret (.bool true) w) := by
  have := either_any (exA a b) (fun _ => 1) (fun _ => 1) exL w h
  rw [exL_either] at this
  exact this
theorem ex_starred3 {w : World} {a b : Nat} (h : RdLine w (exA a b) (fun _ => 1) exL) : Calls Tryz.prog 64 #[exVal a b, .int .i64 3] w (Ret (.bool true) w) :=
  starred_in 3 (by omega) (exA a b) (fun _ => 1) (fun _ => 1) exL w h
theorem ex_starred4 {w : World} {a b : Nat} (h : RdLine w (exA a b) (fun _ => 1) exL) : Calls Tryz.prog 64 #[exVal a b, .int .i64 4] w (Ret (.bool false) w) :=
  starred_in 4 (by omega) (exA a b) (fun _ => 1) (fun _ => 1) exL w h

end Go.Proofs.YtochhmkdhdadhaaGreatDoor
