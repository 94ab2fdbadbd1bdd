/-
  DERIVED. GIVEN WITH THE SEED: THE CARDS: each row of YtpfcgjneeboamaaDoorRows.lean that lists a variable, with what it lists TIED to the program's text (the seventh form; the later family's looks); each row that meets fmt, with fmt's text TOLD by the authors' own Lean function (tested against real Go, not proved from fmt's source: count such statements apart). THE CARD IS WHAT COUNTS. Prove the row's statement (the work); the ties are given (YtpfcgjneeboamaaDoorTie.lean); close each card by the builder's one call (the guide's Derived/Test/ToyasCard.lean, 'card_holds'). Laid BY PROGRAM, IN A SANDBOX (cutbox-door.mjs). By AI agents, Wed Nov 11 2026. No macro, syntax, notation, axiom, sorry.
-/
import Derived.Test.YtpfcgjneeboamaaDoorRows
import GoSem.ClaimSeven
namespace Go.Proofs.YtpfcgjneeboamaaDoor
namespace Rows

/-- THE TIED CARD OF 'ferialaw25.CronreadReads'. -/
def cronreadReadsCard : Claim7 := { stood := { row := cronreadReadsRow, standIns := [], harness := (true, "8a99cdc7296403f33215d760c6d9d1dd0efff6b66fc26a1c81d11b254b46f22b"), looks := false }, kinds := [], alts := [], laidByText := true, laidKinds := [.data, .pinned, .pinned], laidTests := true, laidLooks := .later }
def CronreadReadsCardSaid : Prop := Claim7.holds Tryd.pinned (.plain (OpenSpec.ofChange cronreadReadsSpec)) cronreadReadsCard

/-- THE SECOND FORM's CARD OF 'ferialaw25.CronreadReads'. -/
def cronreadReadsUptoCard : Claim7 := { stood := { row := cronreadReadsUptoRow, standIns := [], harness := (true, "8a99cdc7296403f33215d760c6d9d1dd0efff6b66fc26a1c81d11b254b46f22b"), looks := false }, kinds := [], alts := [], laidByText := true, laidKinds := [.data, .pinned, .pinned], laidTests := true, laidLooks := .later }
def CronreadReadsUptoCardSaid : Prop := Claim7.holds Tryd.pinned (.plain (OpenSpec.upto cronreadReadsSpec)) cronreadReadsUptoCard
end Rows
end Go.Proofs.YtpfcgjneeboamaaDoor
