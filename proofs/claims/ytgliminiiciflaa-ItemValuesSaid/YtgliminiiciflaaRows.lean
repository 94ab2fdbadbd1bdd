/-
  No cell of these rows narrows 'for every input' (looked for: loops, veiled, ifaces, maps, wideKeys, modest, calm, conditions, laid).
  DERIVED. THE GIVEN ROWS OF THIS SEAT. 7 by the template 'for every input the law returns true; each argument reads behind the call as it read before'; 0 by the template 'total and deterministic' (their statements: YtgliminiiciflaaTotals.lean).
  GIVEN WITH THE SEED: the statements are not yours to turn. If you find one false, say at which input.
  Laid BY PROGRAM, IN A SANDBOX (cutbox-rows.mjs): the forced cells as the released guide's own fill.sh prints them over the translation 0484ee5ee551087b… (all of the seat's roots in one cut). By AI agents, Wed Nov 11 2026. No macro, syntax, notation, axiom, sorry.
-/
import Derived.Test.YtgliminiiciflaaChecked
import GoSem.Claim
import GoSem.ClaimJoined
import GoSem.ClaimMapViews
import Derived.JoinedTies
import Derived.KernelRfl
namespace Go.Proofs.Ytgliminiiciflaa
/- THE CELL 'sum', in the pinned program and in every row, IS THE sha256 OF THE DUMP (.gsa) THAT YtgliminiiciflaaProg.lean LOADS. Nothing in Lean hashes anything: it is a label: what it is worth is what the hold of that sum in a sandbox is worth. -/
noncomputable def Try.pinned : Pinned := { name := "ytgliminiiciflaa", sum := "0484ee5ee551087b306167d70e0b7b018f00b32259e87b4477731b653d1a3710", checked := Try.checked }
namespace Rows
def none {H : Type} : Left H := { results := [], args := [] }

/-- 'ferialaw24.CronChecks': WHATEVER THE INPUT: true; the input reads as it did. -/
def cronChecksSpec : ChangeSpec := { name := "cronChecks", fn := fun _ => fun
  | [d] => { results := [.lit (.bool true)], args := [d] }
  | _ => none }
def cronChecksRow : OpenClaim := { program := "ytgliminiiciflaa", sum := "0484ee5ee551087b306167d70e0b7b018f00b32259e87b4477731b653d1a3710", func := "feria/ferialaw24.CronChecks", spec := "cronChecks", unfollowed := true, recurses := true, apart := false }
def CronChecksSaid : Prop := cronChecksRow.holds Try.pinned (OpenSpec.ofChange cronChecksSpec)

/-- ITS FALSE NEIGHBOUR: 'it returns false'. Refute it at one input. -/
def cronChecksWrong : ChangeSpec := { name := "cronChecks", fn := fun _ => fun
  | [d] => { results := [.lit (.bool false)], args := [d] }
  | _ => none }
def CronChecksWrongFalsely : Prop := cronChecksRow.holds Try.pinned (OpenSpec.ofChange cronChecksWrong)

/-- 'ferialaw11.LexTakes': WHATEVER THE INPUT: true; the input reads as it did. -/
def lexTakesSpec : ChangeSpec := { name := "lexTakes", fn := fun _ => fun
  | [d] => { results := [.lit (.bool true)], args := [d] }
  | _ => none }
def lexTakesRow : OpenClaim := { program := "ytgliminiiciflaa", sum := "0484ee5ee551087b306167d70e0b7b018f00b32259e87b4477731b653d1a3710", func := "feria/ferialaw11.LexTakes", spec := "lexTakes", unfollowed := true, recurses := true, apart := false }
def LexTakesSaid : Prop := lexTakesRow.holds Try.pinned (OpenSpec.ofChange lexTakesSpec)

/-- ITS FALSE NEIGHBOUR: 'it returns false'. Refute it at one input. -/
def lexTakesWrong : ChangeSpec := { name := "lexTakes", fn := fun _ => fun
  | [d] => { results := [.lit (.bool false)], args := [d] }
  | _ => none }
def LexTakesWrongFalsely : Prop := lexTakesRow.holds Try.pinned (OpenSpec.ofChange lexTakesWrong)

/-- 'ferialaw24.CronFields': WHATEVER THE INPUT: true; the input reads as it did. -/
def cronFieldsSpec : ChangeSpec := { name := "cronFields", fn := fun _ => fun
  | [d1, d2, d3] => { results := [.lit (.bool true)], args := [d1, d2, d3] }
  | _ => none }
def cronFieldsRow : OpenClaim := { program := "ytgliminiiciflaa", sum := "0484ee5ee551087b306167d70e0b7b018f00b32259e87b4477731b653d1a3710", func := "feria/ferialaw24.CronFields", spec := "cronFields", unfollowed := true, recurses := true, apart := false }
def CronFieldsSaid : Prop := cronFieldsRow.holds Try.pinned (OpenSpec.ofChange cronFieldsSpec)

/-- ITS FALSE NEIGHBOUR: 'it returns false'. Refute it at one input. -/
def cronFieldsWrong : ChangeSpec := { name := "cronFields", fn := fun _ => fun
  | [d1, d2, d3] => { results := [.lit (.bool false)], args := [d1, d2, d3] }
  | _ => none }
def CronFieldsWrongFalsely : Prop := cronFieldsRow.holds Try.pinned (OpenSpec.ofChange cronFieldsWrong)

/-- 'ferialaw11.LexNone': WHATEVER THE INPUT: true; the input reads as it did. -/
def lexNoneSpec : ChangeSpec := { name := "lexNone", fn := fun _ => fun
  | [d] => { results := [.lit (.bool true)], args := [d] }
  | _ => none }
def lexNoneRow : OpenClaim := { program := "ytgliminiiciflaa", sum := "0484ee5ee551087b306167d70e0b7b018f00b32259e87b4477731b653d1a3710", func := "feria/ferialaw11.LexNone", spec := "lexNone", unfollowed := true, recurses := true, apart := false }
def LexNoneSaid : Prop := lexNoneRow.holds Try.pinned (OpenSpec.ofChange lexNoneSpec)

/-- ITS FALSE NEIGHBOUR: 'it returns false'. Refute it at one input. -/
def lexNoneWrong : ChangeSpec := { name := "lexNone", fn := fun _ => fun
  | [d] => { results := [.lit (.bool false)], args := [d] }
  | _ => none }
def LexNoneWrongFalsely : Prop := lexNoneRow.holds Try.pinned (OpenSpec.ofChange lexNoneWrong)

/-- 'ferialaw24.CronWeeks': WHATEVER THE INPUT: true; the input reads as it did. -/
def cronWeeksSpec : ChangeSpec := { name := "cronWeeks", fn := fun _ => fun
  | [d] => { results := [.lit (.bool true)], args := [d] }
  | _ => none }
def cronWeeksRow : OpenClaim := { program := "ytgliminiiciflaa", sum := "0484ee5ee551087b306167d70e0b7b018f00b32259e87b4477731b653d1a3710", func := "feria/ferialaw24.CronWeeks", spec := "cronWeeks", unfollowed := true, recurses := true, apart := false }
def CronWeeksSaid : Prop := cronWeeksRow.holds Try.pinned (OpenSpec.ofChange cronWeeksSpec)

/-- ITS FALSE NEIGHBOUR: 'it returns false'. Refute it at one input. -/
def cronWeeksWrong : ChangeSpec := { name := "cronWeeks", fn := fun _ => fun
  | [d] => { results := [.lit (.bool false)], args := [d] }
  | _ => none }
def CronWeeksWrongFalsely : Prop := cronWeeksRow.holds Try.pinned (OpenSpec.ofChange cronWeeksWrong)

/-- 'ferialaw12.ItemMay': WHATEVER THE INPUT: true; the input reads as it did. -/
def itemMaySpec : ChangeSpec := { name := "itemMay", fn := fun _ => fun
  | [d1, d2] => { results := [.lit (.bool true)], args := [d1, d2] }
  | _ => none }
def itemMayRow : OpenClaim := { program := "ytgliminiiciflaa", sum := "0484ee5ee551087b306167d70e0b7b018f00b32259e87b4477731b653d1a3710", func := "feria/ferialaw12.ItemMay", spec := "itemMay", unfollowed := true, recurses := true, apart := false }
def ItemMaySaid : Prop := itemMayRow.holds Try.pinned (OpenSpec.ofChange itemMaySpec)

/-- ITS FALSE NEIGHBOUR: 'it returns false'. Refute it at one input. -/
def itemMayWrong : ChangeSpec := { name := "itemMay", fn := fun _ => fun
  | [d1, d2] => { results := [.lit (.bool false)], args := [d1, d2] }
  | _ => none }
def ItemMayWrongFalsely : Prop := itemMayRow.holds Try.pinned (OpenSpec.ofChange itemMayWrong)

/-- 'ferialaw12.ItemValues': WHATEVER THE INPUT: true; the input reads as it did. -/
def itemValuesSpec : ChangeSpec := { name := "itemValues", fn := fun _ => fun
  | [d1, d2] => { results := [.lit (.bool true)], args := [d1, d2] }
  | _ => none }
def itemValuesRow : OpenClaim := { program := "ytgliminiiciflaa", sum := "0484ee5ee551087b306167d70e0b7b018f00b32259e87b4477731b653d1a3710", func := "feria/ferialaw12.ItemValues", spec := "itemValues", recurses := true, apart := false }
def ItemValuesSaid : Prop := itemValuesRow.holds Try.pinned (OpenSpec.ofChange itemValuesSpec)

/-- ITS FALSE NEIGHBOUR: 'it returns false'. Refute it at one input. -/
def itemValuesWrong : ChangeSpec := { name := "itemValues", fn := fun _ => fun
  | [d1, d2] => { results := [.lit (.bool false)], args := [d1, d2] }
  | _ => none }
def ItemValuesWrongFalsely : Prop := itemValuesRow.holds Try.pinned (OpenSpec.ofChange itemValuesWrong)

/- THE SECOND FORM. 'bulk': how many values and letters a reading holds, each counted each time it is reached (what is shared counts as often as it is met; a slice's spare places count too). A statement '..UptoSaid' is the law's where the arguments, and the package variables that the reading takes, are together of bulk at most 1048576: NARROWER than '..Said'. Prove '..Said' where nothing that the law and all that it calls make is longer than what came in: it says more and counts as full. Else prove '..UptoSaid'. A law counts once. -/
mutual
def uptoBulk {H : Type} : DataW H → Nat
  | .lit (.string bytes) => bytes.length + 1
  | .lit _ => 1
  | .nil => 1
  | .ptr d => uptoBulk d + 1
  | .slice elems spare => uptoBulkAll elems + uptoBulkAll spare + 1
  | .agg parts => uptoBulkAll parts + 1
  | .iface _ d => uptoBulk d + 1
  | .map entries => uptoBulkEntries entries + 1
  | .held _ => 1
def uptoBulkAll {H : Type} : List (DataW H) → Nat
  | [] => 0
  | d :: r => uptoBulk d + uptoBulkAll r
def uptoBulkEntries {H : Type} : List (Lit × DataW H) → Nat
  | [] => 0
  | x :: r => uptoBulkEntry x + uptoBulkEntries r
def uptoBulkEntry {H : Type} : Lit × DataW H → Nat
  | (.string bytes, d) => bytes.length + uptoBulk d + 1
  | (_, d) => uptoBulk d + 1
 end
def uptoSmall : (H : Type) → List (DataW H) → Bool := fun _ ds => decide (uptoBulkAll ds ≤ 1048576)
def OpenSpec.upto (s : _root_.Go.ChangeSpec) : _root_.Go.OpenSpec := { _root_.Go.OpenSpec.ofChange s with cond := some uptoSmall }

/-- 'ferialaw24.CronChecks', WHERE WHAT IT READS IS OF BULK AT MOST 1048576: true; the input reads as it did. -/
def cronChecksUptoRow : OpenClaim := { program := "ytgliminiiciflaa", sum := "0484ee5ee551087b306167d70e0b7b018f00b32259e87b4477731b653d1a3710", func := "feria/ferialaw24.CronChecks", spec := "cronChecks", unfollowed := true, recurses := true, apart := false, narrowed := true }
def CronChecksUptoSaid : Prop := cronChecksUptoRow.holds Try.pinned (OpenSpec.upto cronChecksSpec)

/-- 'ferialaw11.LexTakes', WHERE WHAT IT READS IS OF BULK AT MOST 1048576: true; the input reads as it did. -/
def lexTakesUptoRow : OpenClaim := { program := "ytgliminiiciflaa", sum := "0484ee5ee551087b306167d70e0b7b018f00b32259e87b4477731b653d1a3710", func := "feria/ferialaw11.LexTakes", spec := "lexTakes", unfollowed := true, recurses := true, apart := false, narrowed := true }
def LexTakesUptoSaid : Prop := lexTakesUptoRow.holds Try.pinned (OpenSpec.upto lexTakesSpec)

/-- 'ferialaw24.CronFields', WHERE WHAT IT READS IS OF BULK AT MOST 1048576: true; the input reads as it did. -/
def cronFieldsUptoRow : OpenClaim := { program := "ytgliminiiciflaa", sum := "0484ee5ee551087b306167d70e0b7b018f00b32259e87b4477731b653d1a3710", func := "feria/ferialaw24.CronFields", spec := "cronFields", unfollowed := true, recurses := true, apart := false, narrowed := true }
def CronFieldsUptoSaid : Prop := cronFieldsUptoRow.holds Try.pinned (OpenSpec.upto cronFieldsSpec)

/-- 'ferialaw11.LexNone', WHERE WHAT IT READS IS OF BULK AT MOST 1048576: true; the input reads as it did. -/
def lexNoneUptoRow : OpenClaim := { program := "ytgliminiiciflaa", sum := "0484ee5ee551087b306167d70e0b7b018f00b32259e87b4477731b653d1a3710", func := "feria/ferialaw11.LexNone", spec := "lexNone", unfollowed := true, recurses := true, apart := false, narrowed := true }
def LexNoneUptoSaid : Prop := lexNoneUptoRow.holds Try.pinned (OpenSpec.upto lexNoneSpec)

/-- 'ferialaw24.CronWeeks', WHERE WHAT IT READS IS OF BULK AT MOST 1048576: true; the input reads as it did. -/
def cronWeeksUptoRow : OpenClaim := { program := "ytgliminiiciflaa", sum := "0484ee5ee551087b306167d70e0b7b018f00b32259e87b4477731b653d1a3710", func := "feria/ferialaw24.CronWeeks", spec := "cronWeeks", unfollowed := true, recurses := true, apart := false, narrowed := true }
def CronWeeksUptoSaid : Prop := cronWeeksUptoRow.holds Try.pinned (OpenSpec.upto cronWeeksSpec)

/-- 'ferialaw12.ItemMay', WHERE WHAT IT READS IS OF BULK AT MOST 1048576: true; the input reads as it did. -/
def itemMayUptoRow : OpenClaim := { program := "ytgliminiiciflaa", sum := "0484ee5ee551087b306167d70e0b7b018f00b32259e87b4477731b653d1a3710", func := "feria/ferialaw12.ItemMay", spec := "itemMay", unfollowed := true, recurses := true, apart := false, narrowed := true }
def ItemMayUptoSaid : Prop := itemMayUptoRow.holds Try.pinned (OpenSpec.upto itemMaySpec)

/-- 'ferialaw12.ItemValues', WHERE WHAT IT READS IS OF BULK AT MOST 1048576: true; the input reads as it did. -/
def itemValuesUptoRow : OpenClaim := { program := "ytgliminiiciflaa", sum := "0484ee5ee551087b306167d70e0b7b018f00b32259e87b4477731b653d1a3710", func := "feria/ferialaw12.ItemValues", spec := "itemValues", recurses := true, apart := false, narrowed := true }
def ItemValuesUptoSaid : Prop := itemValuesUptoRow.holds Try.pinned (OpenSpec.upto itemValuesSpec)

end Rows
end Go.Proofs.Ytgliminiiciflaa
