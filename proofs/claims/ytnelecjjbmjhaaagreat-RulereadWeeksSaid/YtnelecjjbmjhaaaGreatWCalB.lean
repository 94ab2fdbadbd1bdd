/- The walks of package calread's reader: numbers, weekdays. -/
import Derived.Test.YtnelecjjbmjhaaaGreatWCalA
import Derived.StillTailTactics
namespace Go.Proofs.YtnelecjjbmjhaaaGreat
open Go.RowKit
set_option linter.unusedSimpArgs false
set_option linter.unusedVariables false

section
variable {w : World} {b : Nat} {s : ByteArray} {σ : PS} (hs : s.size ≤ 1000000)
include hs
end
end Go.Proofs.YtnelecjjbmjhaaaGreat
