/- The walks of package feriaref12. -/
import Derived.Test.YthkleinjddkhoaaRows
import Derived.Test.YthkleinjddkhoaaPlain
namespace Go.Proofs.Ythkleinjddkhoaa
open Go.RowKit
set_option linter.unusedSimpArgs false
set_option linter.unusedVariables false

end Go.Proofs.Ythkleinjddkhoaa
