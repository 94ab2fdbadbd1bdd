/- The walk of the law CronreadMay. -/
import Derived.Test.YtochhmkdhdadhaaGreatDoorWCronread9
import Derived.Test.YtochhmkdhdadhaaGreatDoorWCron2
namespace Go.Proofs.YtochhmkdhdadhaaGreatDoor
open Go.RowKit
set_option linter.unusedSimpArgs false
set_option linter.unusedVariables false

theorem lineAt_load {w : World} {B : Nat} {A : Nat → Option Addr} {n c : Nat → Nat} (h : LineAt w B 0 A n c) : w.cell? ⟨B, 0, none⟩ = some (.slice (A 0) (n 0) (c 0)) ∧ w.cell? ⟨B, 1, none⟩ = some (.slice (A 1) (n 1) (c 1)) ∧ w.cell? ⟨B, 2, none⟩ = some (.slice (A 2) (n 2) (c 2)) ∧ w.cell? ⟨B, 3, none⟩ = some (.slice (A 3) (n 3) (c 3)) ∧ w.cell? ⟨B, 4, none⟩ = some (.slice (A 4) (n 4) (c 4)) := by
  obtain ⟨h0, h1, h2, h3, h4⟩ := h
  simp only [Nat.zero_add] at h1 h2 h3 h4
  exact ⟨h0, h1, h2, h3, h4⟩
theorem range5_inj {F : Nat → List It} {a b c d e : List It} (h : [a, b, c, d, e] = (List.range 5).map F) : F 0 = a ∧ F 1 = b ∧ F 2 = c ∧ F 3 = d ∧ F 4 = e := by
  have h2 : [a, b, c, d, e] = [F 0, F 1, F 2, F 3, F 4] := h
  injection h2 with e0 h2
  injection h2 with e1 h2
  injection h2 with e2 h2
  injection h2 with e3 h2
  injection h2 with e4 h2
  exact ⟨e0.symm, e1.symm, e2.symm, e3.symm, e4.symm⟩

end Go.Proofs.YtochhmkdhdadhaaGreatDoor
