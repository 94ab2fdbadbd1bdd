/-
  No cell of these rows narrows 'for every input' (looked for: loops, veiled, ifaces, maps, wideKeys, modest, calm, conditions, laid).
  DERIVED. THE GIVEN ROWS OF THIS SEAT. 2 by the template 'for every input the law returns true; each argument reads behind the call as it read before'; 0 by the template 'total and deterministic' (their statements: YtnelecjjbmjhaaaGreatTotals.lean).
  GIVEN WITH THE SEED: the statements are not yours to turn. If you find one false, say at which input.
  Laid BY PROGRAM, IN A SANDBOX (cutbox-rows.mjs): the forced cells as the released guide's own fill.sh prints them over the translation cf5f02e6e97ffb29… (all of the seat's roots in one cut). By AI agents, Wed Nov 11 2026. No macro, syntax, notation, axiom, sorry.
-/
import Derived.Test.YtnelecjjbmjhaaaGreatChecked
import GoSem.Claim
import GoSem.ClaimJoined
import GoSem.ClaimMapViews
import Derived.JoinedTies
import Derived.KernelRfl
namespace Go.Proofs.YtnelecjjbmjhaaaGreat
/- THE CELL 'sum', in the pinned program and in every row, IS THE sha256 OF THE DUMP (.gsa) THAT YtnelecjjbmjhaaaGreatProg.lean LOADS. Nothing in Lean hashes anything: it is a label: what it is worth is what the hold of that sum in a sandbox is worth. -/
noncomputable def Tryz.pinned : Pinned := { name := "ytnelecjjbmjhaaagreat", sum := "cf5f02e6e97ffb290b4a4fff5f074f858abfbff03d6e1e7c2e7800060ade53ea", checked := Tryz.checked }
namespace Rows
def none {H : Type} : Left H := { results := [], args := [] }

/-- 'ferialaw33.RulereadMay': WHATEVER THE INPUT: true; the input reads as it did. -/
def rulereadMaySpec : ChangeSpec := { name := "rulereadMay", fn := fun _ => fun
  | [d] => { results := [.lit (.bool true)], args := [d] }
  | _ => none }
def rulereadMayRow : OpenClaim := { program := "ytnelecjjbmjhaaagreat", sum := "cf5f02e6e97ffb290b4a4fff5f074f858abfbff03d6e1e7c2e7800060ade53ea", func := "feria/ferialaw33.RulereadMay", spec := "rulereadMay", inPlace := ["internal/bytealg.IndexByteString", "internal/bytealg.IndexString"], unfollowed := true, recurses := true, named := ["internal/bytealg.MaxLen"], apart := false }
def RulereadMaySaid : Prop := rulereadMayRow.holds Tryz.pinned (OpenSpec.ofChange rulereadMaySpec)

/-- ITS FALSE NEIGHBOUR: 'it returns false'. Refute it at one input. -/
def rulereadMayWrong : ChangeSpec := { name := "rulereadMay", fn := fun _ => fun
  | [d] => { results := [.lit (.bool false)], args := [d] }
  | _ => none }
def RulereadMayWrongFalsely : Prop := rulereadMayRow.holds Tryz.pinned (OpenSpec.ofChange rulereadMayWrong)

/-- 'ferialaw33.RulereadWeeks': WHATEVER THE INPUT: true; the input reads as it did. -/
def rulereadWeeksSpec : ChangeSpec := { name := "rulereadWeeks", fn := fun _ => fun
  | [d] => { results := [.lit (.bool true)], args := [d] }
  | _ => none }
def rulereadWeeksRow : OpenClaim := { program := "ytnelecjjbmjhaaagreat", sum := "cf5f02e6e97ffb290b4a4fff5f074f858abfbff03d6e1e7c2e7800060ade53ea", func := "feria/ferialaw33.RulereadWeeks", spec := "rulereadWeeks", inPlace := ["internal/bytealg.IndexByteString", "internal/bytealg.IndexString"], unfollowed := true, recurses := true, named := ["internal/bytealg.MaxLen"], apart := false }
def RulereadWeeksSaid : Prop := rulereadWeeksRow.holds Tryz.pinned (OpenSpec.ofChange rulereadWeeksSpec)

/-- ITS FALSE NEIGHBOUR: 'it returns false'. Refute it at one input. -/
def rulereadWeeksWrong : ChangeSpec := { name := "rulereadWeeks", fn := fun _ => fun
  | [d] => { results := [.lit (.bool false)], args := [d] }
  | _ => none }
def RulereadWeeksWrongFalsely : Prop := rulereadWeeksRow.holds Tryz.pinned (OpenSpec.ofChange rulereadWeeksWrong)

/- THE SECOND FORM. 'bulk': how many values and letters a reading holds, each counted each time it is reached (what is shared counts as often as it is met; a slice's spare places count too). A statement '..UptoSaid' is the law's where the arguments, and the package variables that the reading takes, are together of bulk at most 1048576: NARROWER than '..Said'. Prove '..Said' where nothing that the law and all that it calls make is longer than what came in: it says more and counts as full. Else prove '..UptoSaid'. A law counts once. -/
mutual
def uptoBulk {H : Type} : DataW H → Nat
  | .lit (.string bytes) => bytes.length + 1
  | .lit _ => 1
  | .nil => 1
  | .ptr d => uptoBulk d + 1
  | .slice elems spare => uptoBulkAll elems + uptoBulkAll spare + 1
  | .agg parts => uptoBulkAll parts + 1
  | .iface _ d => uptoBulk d + 1
  | .map entries => uptoBulkEntries entries + 1
  | .held _ => 1
def uptoBulkAll {H : Type} : List (DataW H) → Nat
  | [] => 0
  | d :: r => uptoBulk d + uptoBulkAll r
def uptoBulkEntries {H : Type} : List (Lit × DataW H) → Nat
  | [] => 0
  | x :: r => uptoBulkEntry x + uptoBulkEntries r
def uptoBulkEntry {H : Type} : Lit × DataW H → Nat
  | (.string bytes, d) => bytes.length + uptoBulk d + 1
  | (_, d) => uptoBulk d + 1
 end
def uptoSmall : (H : Type) → List (DataW H) → Bool := fun _ ds => decide (uptoBulkAll ds ≤ 1048576)
def OpenSpec.upto (s : _root_.Go.ChangeSpec) : _root_.Go.OpenSpec := { _root_.Go.OpenSpec.ofChange s with cond := some uptoSmall }

/-- 'ferialaw33.RulereadMay', WHERE WHAT IT READS IS OF BULK AT MOST 1048576: true; the input reads as it did. -/
def rulereadMayUptoRow : OpenClaim := { program := "ytnelecjjbmjhaaagreat", sum := "cf5f02e6e97ffb290b4a4fff5f074f858abfbff03d6e1e7c2e7800060ade53ea", func := "feria/ferialaw33.RulereadMay", spec := "rulereadMay", inPlace := ["internal/bytealg.IndexByteString", "internal/bytealg.IndexString"], unfollowed := true, recurses := true, named := ["internal/bytealg.MaxLen"], apart := false, narrowed := true }
def RulereadMayUptoSaid : Prop := rulereadMayUptoRow.holds Tryz.pinned (OpenSpec.upto rulereadMaySpec)

/-- 'ferialaw33.RulereadWeeks', WHERE WHAT IT READS IS OF BULK AT MOST 1048576: true; the input reads as it did. -/
def rulereadWeeksUptoRow : OpenClaim := { program := "ytnelecjjbmjhaaagreat", sum := "cf5f02e6e97ffb290b4a4fff5f074f858abfbff03d6e1e7c2e7800060ade53ea", func := "feria/ferialaw33.RulereadWeeks", spec := "rulereadWeeks", inPlace := ["internal/bytealg.IndexByteString", "internal/bytealg.IndexString"], unfollowed := true, recurses := true, named := ["internal/bytealg.MaxLen"], apart := false, narrowed := true }
def RulereadWeeksUptoSaid : Prop := rulereadWeeksUptoRow.holds Tryz.pinned (OpenSpec.upto rulereadWeeksSpec)

end Rows
end Go.Proofs.YtnelecjjbmjhaaaGreat
