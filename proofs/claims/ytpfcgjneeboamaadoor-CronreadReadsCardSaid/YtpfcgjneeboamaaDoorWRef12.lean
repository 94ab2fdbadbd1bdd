/- The walks of package feriaref12. -/
import Derived.Test.YtpfcgjneeboamaaDoorRows
import Derived.Test.YtpfcgjneeboamaaDoorWArr
namespace Go.Proofs.YtpfcgjneeboamaaDoor
open Go.RowKit
set_option linter.unusedSimpArgs false
set_option linter.unusedVariables false

end Go.Proofs.YtpfcgjneeboamaaDoor
