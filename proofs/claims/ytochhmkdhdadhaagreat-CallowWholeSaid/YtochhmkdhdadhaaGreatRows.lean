/-
  No cell of these rows narrows 'for every input' (looked for: loops, veiled, ifaces, maps, wideKeys, modest, calm, conditions, laid).
  DERIVED. THE GIVEN ROWS OF THIS SEAT. 3 by the template 'for every input the law returns true; each argument reads behind the call as it read before'; 0 by the template 'total and deterministic' (their statements: YtochhmkdhdadhaaGreatTotals.lean).
  GIVEN WITH THE SEED: the statements are not yours to turn. If you find one false, say at which input.
  Laid BY PROGRAM, IN A SANDBOX (cutbox-rows.mjs): the forced cells as the released guide's own fill.sh prints them over the translation 29b4a5c7795e0e0a… (all of the seat's roots in one cut). By AI agents, Wed Nov 11 2026. No macro, syntax, notation, axiom, sorry.
-/
import Derived.Test.YtochhmkdhdadhaaGreatChecked
import GoSem.Claim
import GoSem.ClaimJoined
import GoSem.ClaimMapViews
import Derived.JoinedTies
import Derived.KernelRfl
namespace Go.Proofs.YtochhmkdhdadhaaGreat
/- THE CELL 'sum', in the pinned program and in every row, IS THE sha256 OF THE DUMP (.gsa) THAT YtochhmkdhdadhaaGreatProg.lean LOADS. Nothing in Lean hashes anything: it is a label: what it is worth is what the hold of that sum in a sandbox is worth. -/
noncomputable def Tryz.pinned : Pinned := { name := "ytochhmkdhdadhaagreat", sum := "29b4a5c7795e0e0a91eabafff208ebe6aee463249b31d96fe76af106bb751031", checked := Tryz.checked }
namespace Rows
def none {H : Type} : Left H := { results := [], args := [] }

/-- 'ferialaw31.CallowMeans': WHATEVER THE INPUT: true; the input reads as it did. -/
def callowMeansSpec : ChangeSpec := { name := "callowMeans", fn := fun _ => fun
  | [d1, d2] => { results := [.lit (.bool true)], args := [d1, d2] }
  | _ => none }
def callowMeansRow : OpenClaim := { program := "ytochhmkdhdadhaagreat", sum := "29b4a5c7795e0e0a91eabafff208ebe6aee463249b31d96fe76af106bb751031", func := "feria/ferialaw31.CallowMeans", spec := "callowMeans", inPlace := ["internal/bytealg.IndexByteString", "internal/bytealg.IndexString", "internal/bytealg.CountString"], unfollowed := true, recurses := true, named := ["internal/bytealg.MaxLen"], apart := false }
def CallowMeansSaid : Prop := callowMeansRow.holds Tryz.pinned (OpenSpec.ofChange callowMeansSpec)

/-- ITS FALSE NEIGHBOUR: 'it returns false'. Refute it at one input. -/
def callowMeansWrong : ChangeSpec := { name := "callowMeans", fn := fun _ => fun
  | [d1, d2] => { results := [.lit (.bool false)], args := [d1, d2] }
  | _ => none }
def CallowMeansWrongFalsely : Prop := callowMeansRow.holds Tryz.pinned (OpenSpec.ofChange callowMeansWrong)

/-- 'ferialaw31.CallowTexts': WHATEVER THE INPUT: true; the input reads as it did. -/
def callowTextsSpec : ChangeSpec := { name := "callowTexts", fn := fun _ => fun
  | [d1, d2] => { results := [.lit (.bool true)], args := [d1, d2] }
  | _ => none }
def callowTextsRow : OpenClaim := { program := "ytochhmkdhdadhaagreat", sum := "29b4a5c7795e0e0a91eabafff208ebe6aee463249b31d96fe76af106bb751031", func := "feria/ferialaw31.CallowTexts", spec := "callowTexts", inPlace := ["internal/bytealg.IndexByteString", "internal/bytealg.IndexString", "internal/bytealg.CountString"], unfollowed := true, recurses := true, named := ["internal/bytealg.MaxLen"], apart := false }
def CallowTextsSaid : Prop := callowTextsRow.holds Tryz.pinned (OpenSpec.ofChange callowTextsSpec)

/-- ITS FALSE NEIGHBOUR: 'it returns false'. Refute it at one input. -/
def callowTextsWrong : ChangeSpec := { name := "callowTexts", fn := fun _ => fun
  | [d1, d2] => { results := [.lit (.bool false)], args := [d1, d2] }
  | _ => none }
def CallowTextsWrongFalsely : Prop := callowTextsRow.holds Tryz.pinned (OpenSpec.ofChange callowTextsWrong)

/-- 'ferialaw31.CallowWhole': WHATEVER THE INPUT: true; the input reads as it did. -/
def callowWholeSpec : ChangeSpec := { name := "callowWhole", fn := fun _ => fun
  | [d] => { results := [.lit (.bool true)], args := [d] }
  | _ => none }
def callowWholeRow : OpenClaim := { program := "ytochhmkdhdadhaagreat", sum := "29b4a5c7795e0e0a91eabafff208ebe6aee463249b31d96fe76af106bb751031", func := "feria/ferialaw31.CallowWhole", spec := "callowWhole", inPlace := ["internal/bytealg.IndexByteString", "internal/bytealg.IndexString", "internal/bytealg.CountString"], unfollowed := true, recurses := true, named := ["internal/bytealg.MaxLen"], apart := false }
def CallowWholeSaid : Prop := callowWholeRow.holds Tryz.pinned (OpenSpec.ofChange callowWholeSpec)

/-- ITS FALSE NEIGHBOUR: 'it returns false'. Refute it at one input. -/
def callowWholeWrong : ChangeSpec := { name := "callowWhole", fn := fun _ => fun
  | [d] => { results := [.lit (.bool false)], args := [d] }
  | _ => none }
def CallowWholeWrongFalsely : Prop := callowWholeRow.holds Tryz.pinned (OpenSpec.ofChange callowWholeWrong)

/- THE SECOND FORM. 'bulk': how many values and letters a reading holds, each counted each time it is reached (what is shared counts as often as it is met; a slice's spare places count too). A statement '..UptoSaid' is the law's where the arguments, and the package variables that the reading takes, are together of bulk at most 1048576: NARROWER than '..Said'. Prove '..Said' where nothing that the law and all that it calls make is longer than what came in: it says more and counts as full. Else prove '..UptoSaid'. A law counts once. -/
mutual
def uptoBulk {H : Type} : DataW H → Nat
  | .lit (.string bytes) => bytes.length + 1
  | .lit _ => 1
  | .nil => 1
  | .ptr d => uptoBulk d + 1
  | .slice elems spare => uptoBulkAll elems + uptoBulkAll spare + 1
  | .agg parts => uptoBulkAll parts + 1
  | .iface _ d => uptoBulk d + 1
  | .map entries => uptoBulkEntries entries + 1
  | .held _ => 1
def uptoBulkAll {H : Type} : List (DataW H) → Nat
  | [] => 0
  | d :: r => uptoBulk d + uptoBulkAll r
def uptoBulkEntries {H : Type} : List (Lit × DataW H) → Nat
  | [] => 0
  | x :: r => uptoBulkEntry x + uptoBulkEntries r
def uptoBulkEntry {H : Type} : Lit × DataW H → Nat
  | (.string bytes, d) => bytes.length + uptoBulk d + 1
  | (_, d) => uptoBulk d + 1
 end
def uptoSmall : (H : Type) → List (DataW H) → Bool := fun _ ds => decide (uptoBulkAll ds ≤ 1048576)
def OpenSpec.upto (s : _root_.Go.ChangeSpec) : _root_.Go.OpenSpec := { _root_.Go.OpenSpec.ofChange s with cond := some uptoSmall }

/-- 'ferialaw31.CallowMeans', WHERE WHAT IT READS IS OF BULK AT MOST 1048576: true; the input reads as it did. -/
def callowMeansUptoRow : OpenClaim := { program := "ytochhmkdhdadhaagreat", sum := "29b4a5c7795e0e0a91eabafff208ebe6aee463249b31d96fe76af106bb751031", func := "feria/ferialaw31.CallowMeans", spec := "callowMeans", inPlace := ["internal/bytealg.IndexByteString", "internal/bytealg.IndexString", "internal/bytealg.CountString"], unfollowed := true, recurses := true, named := ["internal/bytealg.MaxLen"], apart := false, narrowed := true }
def CallowMeansUptoSaid : Prop := callowMeansUptoRow.holds Tryz.pinned (OpenSpec.upto callowMeansSpec)

/-- 'ferialaw31.CallowTexts', WHERE WHAT IT READS IS OF BULK AT MOST 1048576: true; the input reads as it did. -/
def callowTextsUptoRow : OpenClaim := { program := "ytochhmkdhdadhaagreat", sum := "29b4a5c7795e0e0a91eabafff208ebe6aee463249b31d96fe76af106bb751031", func := "feria/ferialaw31.CallowTexts", spec := "callowTexts", inPlace := ["internal/bytealg.IndexByteString", "internal/bytealg.IndexString", "internal/bytealg.CountString"], unfollowed := true, recurses := true, named := ["internal/bytealg.MaxLen"], apart := false, narrowed := true }
def CallowTextsUptoSaid : Prop := callowTextsUptoRow.holds Tryz.pinned (OpenSpec.upto callowTextsSpec)

/-- 'ferialaw31.CallowWhole', WHERE WHAT IT READS IS OF BULK AT MOST 1048576: true; the input reads as it did. -/
def callowWholeUptoRow : OpenClaim := { program := "ytochhmkdhdadhaagreat", sum := "29b4a5c7795e0e0a91eabafff208ebe6aee463249b31d96fe76af106bb751031", func := "feria/ferialaw31.CallowWhole", spec := "callowWhole", inPlace := ["internal/bytealg.IndexByteString", "internal/bytealg.IndexString", "internal/bytealg.CountString"], unfollowed := true, recurses := true, named := ["internal/bytealg.MaxLen"], apart := false, narrowed := true }
def CallowWholeUptoSaid : Prop := callowWholeUptoRow.holds Tryz.pinned (OpenSpec.upto callowWholeSpec)

end Rows
end Go.Proofs.YtochhmkdhdadhaaGreat
