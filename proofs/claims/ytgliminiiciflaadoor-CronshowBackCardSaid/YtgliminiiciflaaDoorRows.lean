/-
  NARROWER THAN 'FOR EVERY INPUT', by the rows' own cells (each row's printed sentence says how): CronshowItems: laid · CronshowShows: laid · CronreadReads: laid · CronreadLong: laid · CronreadBlanks: laid · CronreadMay: laid · CronshowBack: laid.
  DERIVED. THE GIVEN ROWS OF THIS SEAT. 7 by the template 'for every input the law returns true; each argument reads behind the call as it read before'; 0 by the template 'total and deterministic' (their statements: YtgliminiiciflaaDoorTotals.lean).
  GIVEN WITH THE SEED: the statements are not yours to turn. If you find one false, say at which input.
  Laid BY PROGRAM, IN A SANDBOX (cutbox-rows.mjs): the forced cells as the released guide's own fill.sh prints them over the translation ef688ec7eb9176ab… (all of the seat's roots in one cut). By AI agents, Wed Nov 11 2026. No macro, syntax, notation, axiom, sorry.
-/
import Derived.Test.YtgliminiiciflaaDoorChecked
import GoSem.PinnedTables
import GoSem.Claim
import GoSem.ClaimJoined
import GoSem.ClaimMapViews
import Derived.JoinedTies
import Derived.KernelRfl
namespace Go.Proofs.YtgliminiiciflaaDoor
/- THE CELL 'sum', in the pinned program and in every row, IS THE sha256 OF THE DUMP (.gsa) THAT YtgliminiiciflaaDoorProg.lean LOADS. Nothing in Lean hashes anything: it is a label: what it is worth is what the hold of that sum in a sandbox is worth. -/
noncomputable def Tryd.pinned : Pinned := { name := "ytgliminiiciflaadoor", sum := "ef688ec7eb9176abc5ff11d4afe14ff6a460886652fda83c8e9b777068a3b3b0", checked := Tryd.checked }
namespace Rows
def none {H : Type} : Left H := { results := [], args := [] }

/- WHAT THE LISTED PACKAGE-LEVEL VARIABLES READ AS WHEN THE CALL BEGINS. Each datum BY PROGRAM (the guide's laid-datum.mjs) off the statement by which the dump's own 'gosem.cut.vars' lays the variable. In a bare row this is a premise. The card (YtgliminiiciflaaDoorCards.lean) ties it to the program's text. -/
def laid_math_bits_deBruijn32tab {H : Type} : DataW H := .agg [.lit (.int .u8 0), .lit (.int .u8 1), .lit (.int .u8 28), .lit (.int .u8 2), .lit (.int .u8 29), .lit (.int .u8 14), .lit (.int .u8 24), .lit (.int .u8 3), .lit (.int .u8 30), .lit (.int .u8 22), .lit (.int .u8 20), .lit (.int .u8 15), .lit (.int .u8 25), .lit (.int .u8 17), .lit (.int .u8 4), .lit (.int .u8 8), .lit (.int .u8 31), .lit (.int .u8 27), .lit (.int .u8 13), .lit (.int .u8 23), .lit (.int .u8 21), .lit (.int .u8 19), .lit (.int .u8 16), .lit (.int .u8 7), .lit (.int .u8 26), .lit (.int .u8 12), .lit (.int .u8 18), .lit (.int .u8 6), .lit (.int .u8 11), .lit (.int .u8 5), .lit (.int .u8 10), .lit (.int .u8 9)]
def laid_math_bits_deBruijn64tab {H : Type} : DataW H := .agg [.lit (.int .u8 0), .lit (.int .u8 1), .lit (.int .u8 56), .lit (.int .u8 2), .lit (.int .u8 57), .lit (.int .u8 49), .lit (.int .u8 28), .lit (.int .u8 3), .lit (.int .u8 61), .lit (.int .u8 58), .lit (.int .u8 42), .lit (.int .u8 50), .lit (.int .u8 38), .lit (.int .u8 29), .lit (.int .u8 17), .lit (.int .u8 4), .lit (.int .u8 62), .lit (.int .u8 47), .lit (.int .u8 59), .lit (.int .u8 36), .lit (.int .u8 45), .lit (.int .u8 43), .lit (.int .u8 51), .lit (.int .u8 22), .lit (.int .u8 53), .lit (.int .u8 39), .lit (.int .u8 33), .lit (.int .u8 30), .lit (.int .u8 24), .lit (.int .u8 18), .lit (.int .u8 12), .lit (.int .u8 5), .lit (.int .u8 63), .lit (.int .u8 55), .lit (.int .u8 48), .lit (.int .u8 27), .lit (.int .u8 60), .lit (.int .u8 41), .lit (.int .u8 37), .lit (.int .u8 16), .lit (.int .u8 46), .lit (.int .u8 35), .lit (.int .u8 44), .lit (.int .u8 21), .lit (.int .u8 52), .lit (.int .u8 32), .lit (.int .u8 23), .lit (.int .u8 11), .lit (.int .u8 54), .lit (.int .u8 26), .lit (.int .u8 40), .lit (.int .u8 15), .lit (.int .u8 34), .lit (.int .u8 20), .lit (.int .u8 31), .lit (.int .u8 10), .lit (.int .u8 25), .lit (.int .u8 14), .lit (.int .u8 19), .lit (.int .u8 9), .lit (.int .u8 13), .lit (.int .u8 8), .lit (.int .u8 7), .lit (.int .u8 6)]
def laid_internal_strconv_uint64pow10 {H : Type} : DataW H := .agg [.lit (.int .u64 1), .lit (.int .u64 10), .lit (.int .u64 100), .lit (.int .u64 1000), .lit (.int .u64 10000), .lit (.int .u64 100000), .lit (.int .u64 1000000), .lit (.int .u64 10000000), .lit (.int .u64 100000000), .lit (.int .u64 1000000000), .lit (.int .u64 10000000000), .lit (.int .u64 100000000000), .lit (.int .u64 1000000000000), .lit (.int .u64 10000000000000), .lit (.int .u64 100000000000000), .lit (.int .u64 1000000000000000), .lit (.int .u64 10000000000000000), .lit (.int .u64 100000000000000000), .lit (.int .u64 1000000000000000000), .lit (.int .u64 10000000000000000000)]
def laid_unicode_utf8_acceptRanges {H : Type} : DataW H := .agg [.agg [.lit (.int .u8 128), .lit (.int .u8 191)], .agg [.lit (.int .u8 160), .lit (.int .u8 191)], .agg [.lit (.int .u8 128), .lit (.int .u8 159)], .agg [.lit (.int .u8 144), .lit (.int .u8 191)], .agg [.lit (.int .u8 128), .lit (.int .u8 143)], .agg [.lit (.int .u8 0), .lit (.int .u8 0)], .agg [.lit (.int .u8 0), .lit (.int .u8 0)], .agg [.lit (.int .u8 0), .lit (.int .u8 0)], .agg [.lit (.int .u8 0), .lit (.int .u8 0)], .agg [.lit (.int .u8 0), .lit (.int .u8 0)], .agg [.lit (.int .u8 0), .lit (.int .u8 0)], .agg [.lit (.int .u8 0), .lit (.int .u8 0)], .agg [.lit (.int .u8 0), .lit (.int .u8 0)], .agg [.lit (.int .u8 0), .lit (.int .u8 0)], .agg [.lit (.int .u8 0), .lit (.int .u8 0)], .agg [.lit (.int .u8 0), .lit (.int .u8 0)]]
/-- One of Go's own tables, pinned by name: the form's constant. -/
def laid_unicode_CaseRanges : DataW Unit := Go.Pinned.caseRanges
/-- One of Go's own tables, pinned by name: the form's constant. -/
def laid_unicode_utf8_first : DataW Unit := Go.Pinned.utf8First

/-- 'ferialaw26.CronshowItems': WHATEVER THE INPUT: true; the input reads as it did. -/
def cronshowItemsSpec : ChangeSpec := { name := "cronshowItems", fn := fun _ => fun
  | [d] => { results := [.lit (.bool true)], args := [d] }
  | _ => none }
def cronshowItemsRow : OpenClaim := { program := "ytgliminiiciflaadoor", sum := "ef688ec7eb9176abc5ff11d4afe14ff6a460886652fda83c8e9b777068a3b3b0", func := "feria/ferialaw26.CronshowItems", spec := "cronshowItems", inPlace := ["internal/abi.NoEscape", "internal/bytealg.MakeNoZero"], recurses := true, named := ["internal/strconv.uint64pow10", "math/bits.deBruijn32tab", "math/bits.deBruijn64tab"], apart := false, laid := [("math/bits.deBruijn32tab", laid_math_bits_deBruijn32tab), ("math/bits.deBruijn64tab", laid_math_bits_deBruijn64tab), ("internal/strconv.uint64pow10", laid_internal_strconv_uint64pow10)] }
def CronshowItemsSaid : Prop := cronshowItemsRow.holds Tryd.pinned (OpenSpec.ofChange cronshowItemsSpec)

/-- ITS FALSE NEIGHBOUR: 'it returns false'. Refute it at one input. -/
def cronshowItemsWrong : ChangeSpec := { name := "cronshowItems", fn := fun _ => fun
  | [d] => { results := [.lit (.bool false)], args := [d] }
  | _ => none }
def CronshowItemsWrongFalsely : Prop := cronshowItemsRow.holds Tryd.pinned (OpenSpec.ofChange cronshowItemsWrong)

/-- 'ferialaw26.CronshowShows': WHATEVER THE INPUT: true; the input reads as it did. -/
def cronshowShowsSpec : ChangeSpec := { name := "cronshowShows", fn := fun _ => fun
  | [d] => { results := [.lit (.bool true)], args := [d] }
  | _ => none }
def cronshowShowsRow : OpenClaim := { program := "ytgliminiiciflaadoor", sum := "ef688ec7eb9176abc5ff11d4afe14ff6a460886652fda83c8e9b777068a3b3b0", func := "feria/ferialaw26.CronshowShows", spec := "cronshowShows", inPlace := ["internal/abi.NoEscape", "internal/bytealg.MakeNoZero"], unfollowed := true, recurses := true, named := ["internal/strconv.uint64pow10", "math/bits.deBruijn32tab", "math/bits.deBruijn64tab"], apart := false, laid := [("math/bits.deBruijn32tab", laid_math_bits_deBruijn32tab), ("math/bits.deBruijn64tab", laid_math_bits_deBruijn64tab), ("internal/strconv.uint64pow10", laid_internal_strconv_uint64pow10)] }
def CronshowShowsSaid : Prop := cronshowShowsRow.holds Tryd.pinned (OpenSpec.ofChange cronshowShowsSpec)

/-- ITS FALSE NEIGHBOUR: 'it returns false'. Refute it at one input. -/
def cronshowShowsWrong : ChangeSpec := { name := "cronshowShows", fn := fun _ => fun
  | [d] => { results := [.lit (.bool false)], args := [d] }
  | _ => none }
def CronshowShowsWrongFalsely : Prop := cronshowShowsRow.holds Tryd.pinned (OpenSpec.ofChange cronshowShowsWrong)

/-- 'ferialaw25.CronreadReads': WHATEVER THE INPUT: true; the input reads as it did. -/
def cronreadReadsSpec : ChangeSpec := { name := "cronreadReads", fn := fun _ => fun
  | [d] => { results := [.lit (.bool true)], args := [d] }
  | _ => none }
def cronreadReadsRow : OpenClaim := { program := "ytgliminiiciflaadoor", sum := "ef688ec7eb9176abc5ff11d4afe14ff6a460886652fda83c8e9b777068a3b3b0", func := "feria/ferialaw25.CronreadReads", spec := "cronreadReads", inPlace := ["internal/abi.NoEscape", "internal/bytealg.MakeNoZero"], unfollowed := true, recurses := true, named := ["unicode/utf8.first", "unicode/utf8.acceptRanges", "unicode.CaseRanges"], apart := false, laid := [("unicode/utf8.acceptRanges", laid_unicode_utf8_acceptRanges), ("unicode.CaseRanges", laid_unicode_CaseRanges), ("unicode/utf8.first", laid_unicode_utf8_first)] }
def CronreadReadsSaid : Prop := cronreadReadsRow.holds Tryd.pinned (OpenSpec.ofChange cronreadReadsSpec)

/-- ITS FALSE NEIGHBOUR: 'it returns false'. Refute it at one input. -/
def cronreadReadsWrong : ChangeSpec := { name := "cronreadReads", fn := fun _ => fun
  | [d] => { results := [.lit (.bool false)], args := [d] }
  | _ => none }
def CronreadReadsWrongFalsely : Prop := cronreadReadsRow.holds Tryd.pinned (OpenSpec.ofChange cronreadReadsWrong)

/-- 'ferialaw25.CronreadLong': WHATEVER THE INPUT: true; the input reads as it did. -/
def cronreadLongSpec : ChangeSpec := { name := "cronreadLong", fn := fun _ => fun
  | [d1, d2] => { results := [.lit (.bool true)], args := [d1, d2] }
  | _ => none }
def cronreadLongRow : OpenClaim := { program := "ytgliminiiciflaadoor", sum := "ef688ec7eb9176abc5ff11d4afe14ff6a460886652fda83c8e9b777068a3b3b0", func := "feria/ferialaw25.CronreadLong", spec := "cronreadLong", inPlace := ["internal/abi.NoEscape", "internal/bytealg.MakeNoZero"], unfollowed := true, recurses := true, named := ["unicode/utf8.first", "unicode/utf8.acceptRanges", "unicode.CaseRanges"], apart := false, laid := [("unicode/utf8.acceptRanges", laid_unicode_utf8_acceptRanges), ("unicode.CaseRanges", laid_unicode_CaseRanges), ("unicode/utf8.first", laid_unicode_utf8_first)] }
def CronreadLongSaid : Prop := cronreadLongRow.holds Tryd.pinned (OpenSpec.ofChange cronreadLongSpec)

/-- ITS FALSE NEIGHBOUR: 'it returns false'. Refute it at one input. -/
def cronreadLongWrong : ChangeSpec := { name := "cronreadLong", fn := fun _ => fun
  | [d1, d2] => { results := [.lit (.bool false)], args := [d1, d2] }
  | _ => none }
def CronreadLongWrongFalsely : Prop := cronreadLongRow.holds Tryd.pinned (OpenSpec.ofChange cronreadLongWrong)

/-- 'ferialaw25.CronreadBlanks': WHATEVER THE INPUT: true; the input reads as it did. -/
def cronreadBlanksSpec : ChangeSpec := { name := "cronreadBlanks", fn := fun _ => fun
  | [d1, d2] => { results := [.lit (.bool true)], args := [d1, d2] }
  | _ => none }
def cronreadBlanksRow : OpenClaim := { program := "ytgliminiiciflaadoor", sum := "ef688ec7eb9176abc5ff11d4afe14ff6a460886652fda83c8e9b777068a3b3b0", func := "feria/ferialaw25.CronreadBlanks", spec := "cronreadBlanks", inPlace := ["internal/abi.NoEscape", "internal/bytealg.MakeNoZero"], unfollowed := true, recurses := true, named := ["unicode/utf8.first", "unicode/utf8.acceptRanges", "unicode.CaseRanges"], apart := false, laid := [("unicode/utf8.acceptRanges", laid_unicode_utf8_acceptRanges), ("unicode.CaseRanges", laid_unicode_CaseRanges), ("unicode/utf8.first", laid_unicode_utf8_first)] }
def CronreadBlanksSaid : Prop := cronreadBlanksRow.holds Tryd.pinned (OpenSpec.ofChange cronreadBlanksSpec)

/-- ITS FALSE NEIGHBOUR: 'it returns false'. Refute it at one input. -/
def cronreadBlanksWrong : ChangeSpec := { name := "cronreadBlanks", fn := fun _ => fun
  | [d1, d2] => { results := [.lit (.bool false)], args := [d1, d2] }
  | _ => none }
def CronreadBlanksWrongFalsely : Prop := cronreadBlanksRow.holds Tryd.pinned (OpenSpec.ofChange cronreadBlanksWrong)

/-- 'ferialaw25.CronreadMay': WHATEVER THE INPUT: true; the input reads as it did. -/
def cronreadMaySpec : ChangeSpec := { name := "cronreadMay", fn := fun _ => fun
  | [d] => { results := [.lit (.bool true)], args := [d] }
  | _ => none }
def cronreadMayRow : OpenClaim := { program := "ytgliminiiciflaadoor", sum := "ef688ec7eb9176abc5ff11d4afe14ff6a460886652fda83c8e9b777068a3b3b0", func := "feria/ferialaw25.CronreadMay", spec := "cronreadMay", inPlace := ["internal/abi.NoEscape", "internal/bytealg.MakeNoZero"], unfollowed := true, recurses := true, named := ["unicode/utf8.first", "unicode/utf8.acceptRanges", "unicode.CaseRanges"], apart := false, laid := [("unicode/utf8.acceptRanges", laid_unicode_utf8_acceptRanges), ("unicode.CaseRanges", laid_unicode_CaseRanges), ("unicode/utf8.first", laid_unicode_utf8_first)] }
def CronreadMaySaid : Prop := cronreadMayRow.holds Tryd.pinned (OpenSpec.ofChange cronreadMaySpec)

/-- ITS FALSE NEIGHBOUR: 'it returns false'. Refute it at one input. -/
def cronreadMayWrong : ChangeSpec := { name := "cronreadMay", fn := fun _ => fun
  | [d] => { results := [.lit (.bool false)], args := [d] }
  | _ => none }
def CronreadMayWrongFalsely : Prop := cronreadMayRow.holds Tryd.pinned (OpenSpec.ofChange cronreadMayWrong)

/-- 'ferialaw26.CronshowBack': WHATEVER THE INPUT: true; the input reads as it did. -/
def cronshowBackSpec : ChangeSpec := { name := "cronshowBack", fn := fun _ => fun
  | [d1, d2] => { results := [.lit (.bool true)], args := [d1, d2] }
  | _ => none }
def cronshowBackRow : OpenClaim := { program := "ytgliminiiciflaadoor", sum := "ef688ec7eb9176abc5ff11d4afe14ff6a460886652fda83c8e9b777068a3b3b0", func := "feria/ferialaw26.CronshowBack", spec := "cronshowBack", inPlace := ["internal/abi.NoEscape", "internal/bytealg.MakeNoZero"], unfollowed := true, recurses := true, named := ["internal/strconv.uint64pow10", "math/bits.deBruijn32tab", "math/bits.deBruijn64tab", "unicode/utf8.first", "unicode/utf8.acceptRanges", "unicode.CaseRanges"], apart := false, laid := [("math/bits.deBruijn32tab", laid_math_bits_deBruijn32tab), ("math/bits.deBruijn64tab", laid_math_bits_deBruijn64tab), ("internal/strconv.uint64pow10", laid_internal_strconv_uint64pow10), ("unicode/utf8.acceptRanges", laid_unicode_utf8_acceptRanges), ("unicode.CaseRanges", laid_unicode_CaseRanges), ("unicode/utf8.first", laid_unicode_utf8_first)] }
def CronshowBackSaid : Prop := cronshowBackRow.holds Tryd.pinned (OpenSpec.ofChange cronshowBackSpec)

/-- ITS FALSE NEIGHBOUR: 'it returns false'. Refute it at one input. -/
def cronshowBackWrong : ChangeSpec := { name := "cronshowBack", fn := fun _ => fun
  | [d1, d2] => { results := [.lit (.bool false)], args := [d1, d2] }
  | _ => none }
def CronshowBackWrongFalsely : Prop := cronshowBackRow.holds Tryd.pinned (OpenSpec.ofChange cronshowBackWrong)

/- THE SECOND FORM. 'bulk': how many values and letters a reading holds, each counted each time it is reached (what is shared counts as often as it is met; a slice's spare places count too). A statement '..UptoSaid' is the law's where the arguments, and the package variables that the reading takes, are together of bulk at most 1048576: NARROWER than '..Said'. Prove '..Said' where nothing that the law and all that it calls make is longer than what came in: it says more and counts as full. Else prove '..UptoSaid'. A law counts once. -/
mutual
def uptoBulk {H : Type} : DataW H → Nat
  | .lit (.string bytes) => bytes.length + 1
  | .lit _ => 1
  | .nil => 1
  | .ptr d => uptoBulk d + 1
  | .slice elems spare => uptoBulkAll elems + uptoBulkAll spare + 1
  | .agg parts => uptoBulkAll parts + 1
  | .iface _ d => uptoBulk d + 1
  | .map entries => uptoBulkEntries entries + 1
  | .held _ => 1
def uptoBulkAll {H : Type} : List (DataW H) → Nat
  | [] => 0
  | d :: r => uptoBulk d + uptoBulkAll r
def uptoBulkEntries {H : Type} : List (Lit × DataW H) → Nat
  | [] => 0
  | x :: r => uptoBulkEntry x + uptoBulkEntries r
def uptoBulkEntry {H : Type} : Lit × DataW H → Nat
  | (.string bytes, d) => bytes.length + uptoBulk d + 1
  | (_, d) => uptoBulk d + 1
 end
def uptoSmall : (H : Type) → List (DataW H) → Bool := fun _ ds => decide (uptoBulkAll ds ≤ 1048576)
def OpenSpec.upto (s : _root_.Go.ChangeSpec) : _root_.Go.OpenSpec := { _root_.Go.OpenSpec.ofChange s with cond := some uptoSmall }

/-- 'ferialaw26.CronshowItems', WHERE WHAT IT READS IS OF BULK AT MOST 1048576: true; the input reads as it did. -/
def cronshowItemsUptoRow : OpenClaim := { program := "ytgliminiiciflaadoor", sum := "ef688ec7eb9176abc5ff11d4afe14ff6a460886652fda83c8e9b777068a3b3b0", func := "feria/ferialaw26.CronshowItems", spec := "cronshowItems", inPlace := ["internal/abi.NoEscape", "internal/bytealg.MakeNoZero"], recurses := true, named := ["internal/strconv.uint64pow10", "math/bits.deBruijn32tab", "math/bits.deBruijn64tab"], apart := false, laid := [("math/bits.deBruijn32tab", laid_math_bits_deBruijn32tab), ("math/bits.deBruijn64tab", laid_math_bits_deBruijn64tab), ("internal/strconv.uint64pow10", laid_internal_strconv_uint64pow10)], narrowed := true }
def CronshowItemsUptoSaid : Prop := cronshowItemsUptoRow.holds Tryd.pinned (OpenSpec.upto cronshowItemsSpec)

/-- 'ferialaw26.CronshowShows', WHERE WHAT IT READS IS OF BULK AT MOST 1048576: true; the input reads as it did. -/
def cronshowShowsUptoRow : OpenClaim := { program := "ytgliminiiciflaadoor", sum := "ef688ec7eb9176abc5ff11d4afe14ff6a460886652fda83c8e9b777068a3b3b0", func := "feria/ferialaw26.CronshowShows", spec := "cronshowShows", inPlace := ["internal/abi.NoEscape", "internal/bytealg.MakeNoZero"], unfollowed := true, recurses := true, named := ["internal/strconv.uint64pow10", "math/bits.deBruijn32tab", "math/bits.deBruijn64tab"], apart := false, laid := [("math/bits.deBruijn32tab", laid_math_bits_deBruijn32tab), ("math/bits.deBruijn64tab", laid_math_bits_deBruijn64tab), ("internal/strconv.uint64pow10", laid_internal_strconv_uint64pow10)], narrowed := true }
def CronshowShowsUptoSaid : Prop := cronshowShowsUptoRow.holds Tryd.pinned (OpenSpec.upto cronshowShowsSpec)

/-- 'ferialaw25.CronreadReads', WHERE WHAT IT READS IS OF BULK AT MOST 1048576: true; the input reads as it did. -/
def cronreadReadsUptoRow : OpenClaim := { program := "ytgliminiiciflaadoor", sum := "ef688ec7eb9176abc5ff11d4afe14ff6a460886652fda83c8e9b777068a3b3b0", func := "feria/ferialaw25.CronreadReads", spec := "cronreadReads", inPlace := ["internal/abi.NoEscape", "internal/bytealg.MakeNoZero"], unfollowed := true, recurses := true, named := ["unicode/utf8.first", "unicode/utf8.acceptRanges", "unicode.CaseRanges"], apart := false, laid := [("unicode/utf8.acceptRanges", laid_unicode_utf8_acceptRanges), ("unicode.CaseRanges", laid_unicode_CaseRanges), ("unicode/utf8.first", laid_unicode_utf8_first)], narrowed := true }
def CronreadReadsUptoSaid : Prop := cronreadReadsUptoRow.holds Tryd.pinned (OpenSpec.upto cronreadReadsSpec)

/-- 'ferialaw25.CronreadLong', WHERE WHAT IT READS IS OF BULK AT MOST 1048576: true; the input reads as it did. -/
def cronreadLongUptoRow : OpenClaim := { program := "ytgliminiiciflaadoor", sum := "ef688ec7eb9176abc5ff11d4afe14ff6a460886652fda83c8e9b777068a3b3b0", func := "feria/ferialaw25.CronreadLong", spec := "cronreadLong", inPlace := ["internal/abi.NoEscape", "internal/bytealg.MakeNoZero"], unfollowed := true, recurses := true, named := ["unicode/utf8.first", "unicode/utf8.acceptRanges", "unicode.CaseRanges"], apart := false, laid := [("unicode/utf8.acceptRanges", laid_unicode_utf8_acceptRanges), ("unicode.CaseRanges", laid_unicode_CaseRanges), ("unicode/utf8.first", laid_unicode_utf8_first)], narrowed := true }
def CronreadLongUptoSaid : Prop := cronreadLongUptoRow.holds Tryd.pinned (OpenSpec.upto cronreadLongSpec)

/-- 'ferialaw25.CronreadBlanks', WHERE WHAT IT READS IS OF BULK AT MOST 1048576: true; the input reads as it did. -/
def cronreadBlanksUptoRow : OpenClaim := { program := "ytgliminiiciflaadoor", sum := "ef688ec7eb9176abc5ff11d4afe14ff6a460886652fda83c8e9b777068a3b3b0", func := "feria/ferialaw25.CronreadBlanks", spec := "cronreadBlanks", inPlace := ["internal/abi.NoEscape", "internal/bytealg.MakeNoZero"], unfollowed := true, recurses := true, named := ["unicode/utf8.first", "unicode/utf8.acceptRanges", "unicode.CaseRanges"], apart := false, laid := [("unicode/utf8.acceptRanges", laid_unicode_utf8_acceptRanges), ("unicode.CaseRanges", laid_unicode_CaseRanges), ("unicode/utf8.first", laid_unicode_utf8_first)], narrowed := true }
def CronreadBlanksUptoSaid : Prop := cronreadBlanksUptoRow.holds Tryd.pinned (OpenSpec.upto cronreadBlanksSpec)

/-- 'ferialaw25.CronreadMay', WHERE WHAT IT READS IS OF BULK AT MOST 1048576: true; the input reads as it did. -/
def cronreadMayUptoRow : OpenClaim := { program := "ytgliminiiciflaadoor", sum := "ef688ec7eb9176abc5ff11d4afe14ff6a460886652fda83c8e9b777068a3b3b0", func := "feria/ferialaw25.CronreadMay", spec := "cronreadMay", inPlace := ["internal/abi.NoEscape", "internal/bytealg.MakeNoZero"], unfollowed := true, recurses := true, named := ["unicode/utf8.first", "unicode/utf8.acceptRanges", "unicode.CaseRanges"], apart := false, laid := [("unicode/utf8.acceptRanges", laid_unicode_utf8_acceptRanges), ("unicode.CaseRanges", laid_unicode_CaseRanges), ("unicode/utf8.first", laid_unicode_utf8_first)], narrowed := true }
def CronreadMayUptoSaid : Prop := cronreadMayUptoRow.holds Tryd.pinned (OpenSpec.upto cronreadMaySpec)

/-- 'ferialaw26.CronshowBack', WHERE WHAT IT READS IS OF BULK AT MOST 1048576: true; the input reads as it did. -/
def cronshowBackUptoRow : OpenClaim := { program := "ytgliminiiciflaadoor", sum := "ef688ec7eb9176abc5ff11d4afe14ff6a460886652fda83c8e9b777068a3b3b0", func := "feria/ferialaw26.CronshowBack", spec := "cronshowBack", inPlace := ["internal/abi.NoEscape", "internal/bytealg.MakeNoZero"], unfollowed := true, recurses := true, named := ["internal/strconv.uint64pow10", "math/bits.deBruijn32tab", "math/bits.deBruijn64tab", "unicode/utf8.first", "unicode/utf8.acceptRanges", "unicode.CaseRanges"], apart := false, laid := [("math/bits.deBruijn32tab", laid_math_bits_deBruijn32tab), ("math/bits.deBruijn64tab", laid_math_bits_deBruijn64tab), ("internal/strconv.uint64pow10", laid_internal_strconv_uint64pow10), ("unicode/utf8.acceptRanges", laid_unicode_utf8_acceptRanges), ("unicode.CaseRanges", laid_unicode_CaseRanges), ("unicode/utf8.first", laid_unicode_utf8_first)], narrowed := true }
def CronshowBackUptoSaid : Prop := cronshowBackUptoRow.holds Tryd.pinned (OpenSpec.upto cronshowBackSpec)

end Rows
end Go.Proofs.YtgliminiiciflaaDoor
