/- The walk of cronread.Read. -/
import Derived.Test.YtgliminiiciflaaDoorWCronrA
import Derived.Test.YtgliminiiciflaaDoorWCronrB
import Derived.Test.YtgliminiiciflaaDoorWCronrC
namespace Go.Proofs.YtgliminiiciflaaDoor
open Go.RowKit
set_option linter.unusedSimpArgs false
set_option linter.unusedVariables false

theorem read_any (s : ByteArray) (hs : s.size ≤ 1000000) (w : World) : Calls Tryd.prog 20 #[.string s] w (RetRead s (outR s) w) := by
  by_cases hl : s.size ≤ 8192
  · cases h : headB (· == 64) (s.data.toList.dropWhile blankP) with
    | false => exact read_plain s hs hl h w
    | true => exact read_nick s hs hl h w
  · exact read_long s hs (by omega) w
end Go.Proofs.YtgliminiiciflaaDoor
