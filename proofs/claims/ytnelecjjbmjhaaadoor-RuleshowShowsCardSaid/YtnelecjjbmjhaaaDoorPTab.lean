/- The library's tables, as the cards list them: what a walk reads, and a world that holds them. -/
import Derived.Test.YtnelecjjbmjhaaaDoorWShow4
import Derived.ChangeArms
import Derived.Test.YtnelecjjbmjhaaaDoorCards
import Derived.Test.YtnelecjjbmjhaaaDoorTie
import Derived.Deep.DeepHandedRow
import Derived.Lib.LaidTab
import Derived.LaidSub
import Derived.MakeChecks
namespace Go.Proofs.YtnelecjjbmjhaaaDoor
open Go.ChangeShapes Go.WideShapes Go.ChangeAt Go.RowKit
set_option linter.unusedSimpArgs false
set_option linter.unusedVariables false

/-- The cells of a table of integers. -/
def dCells : DataW Unit → Array Value
  | .agg xs => (xs.map fun | .lit (.int k z) => Value.int k z | _ => undef).toArray
  | _ => #[]
def layIn (d : DataW Unit) : Obj → Obj
  | .cells _ t fr => .cells (dCells d) t fr
  | o => o
theorem pow_data : (Rows.laid_internal_strconv_uint64pow10 : DataW Unit) = Lib.tabData .u64 Lib.pow10Tab := by kernel_rfl
/-- What a row's list gives: the powers of ten. -/
theorem pow_of {l : List (String × DataW Unit)} {W : World} (h : laidMetH Tryd.prog l W) (hl : l.filter (fun x => x.1 == "internal/strconv.uint64pow10") = [("internal/strconv.uint64pow10", Rows.laid_internal_strconv_uint64pow10)]) : Pow W := by
  have h1 := h.filter (fun x => x.1 == "internal/strconv.uint64pow10")
  rw [hl, MakeChecks.laidMetH_plain _ _ _ (by kernel_rfl), pow_data] at h1
  exact Lib.tabIs_of_head (rest := []) (show Tryd.prog.globalNamed "internal/strconv.uint64pow10" = some 0 by kernel_rfl) (show (Tryd.prog.globals[0]?).map (·.type) = some 182 by kernel_rfl) Tryd.underlying182 Tryd.underlying161 (by kernel_rfl) (by kernel_rfl) h1
end Go.Proofs.YtnelecjjbmjhaaaDoor
