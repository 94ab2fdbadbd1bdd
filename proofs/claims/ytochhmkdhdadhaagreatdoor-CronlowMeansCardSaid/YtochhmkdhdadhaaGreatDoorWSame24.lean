/- The walk of feriaref24.Same. -/
import Derived.Test.YtochhmkdhdadhaaGreatDoorWCron2
import Derived.Deep.RegionHeld3
namespace Go.Proofs.YtochhmkdhdadhaaGreatDoor
open Go.RowKit
set_option linter.unusedSimpArgs false
set_option linter.unusedVariables false

end Go.Proofs.YtochhmkdhdadhaaGreatDoor
