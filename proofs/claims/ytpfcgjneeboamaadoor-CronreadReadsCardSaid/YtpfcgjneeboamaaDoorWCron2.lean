/- The walks of package cron, on: the fields of a line, and whether two are the same. -/
import Derived.Test.YtpfcgjneeboamaaDoorWCron
import Derived.Test.YtpfcgjneeboamaaDoorWClone
import Derived.Test.YtpfcgjneeboamaaDoorWRef24
namespace Go.Proofs.YtpfcgjneeboamaaDoor
open Go.RowKit
set_option linter.unusedSimpArgs false
set_option linter.unusedVariables false

def eitherB (l : Nat → List It) : Bool := !starB (l 2) && !starB (l 4)
/-- Are two lines the same? -/
def sameLine (l r : Nat → List It) : Bool := (List.range 5).all fun k => sameIts (l k) (r k)
theorem sameLine_no {l r : Nat → List It} {k : Nat} (hk : k < 5) (h : sameIts (l k) (r k) = false) : sameLine l r = false := by
  rw [sameLine, List.all_eq_false]
  exact ⟨k, List.mem_range.2 hk, by simp [h]⟩
theorem sameLine_yes {l r : Nat → List It} (H : ∀ k, k < 5 → sameIts (l k) (r k) = true) : sameLine l r = true := by
  rw [sameLine, List.all_eq_true]
  exact fun k hk => H k (List.mem_range.1 hk)
theorem sameLine_self (l : Nat → List It) : sameLine l l = true := sameLine_yes fun k _ => by simp [sameIts]

end Go.Proofs.YtpfcgjneeboamaaDoor
