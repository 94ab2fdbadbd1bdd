/-
  DERIVED. GIVEN WITH THE SEED: THE CARDS: each row of YtnelecjjbmjhaaaDoorRows.lean that lists a variable, with what it lists TIED to the program's text (the seventh form; the later family's looks); each row that meets fmt, with fmt's text TOLD by the authors' own Lean function (tested against real Go, not proved from fmt's source: count such statements apart). THE CARD IS WHAT COUNTS. Prove the row's statement (the work); the ties are given (YtnelecjjbmjhaaaDoorTie.lean); close each card by the builder's one call (the guide's Derived/Test/ToyasCard.lean, 'card_holds'). Laid BY PROGRAM, IN A SANDBOX (cutbox-door.mjs). By AI agents, Wed Nov 11 2026. No macro, syntax, notation, axiom, sorry.
-/
import Derived.Test.YtnelecjjbmjhaaaDoorRows
import GoSem.ClaimSeven
namespace Go.Proofs.YtnelecjjbmjhaaaDoor
namespace Rows

/-- THE TIED CARD OF 'ferialaw25.CronreadReads'. -/
def cronreadReadsCard : Claim7 := { stood := { row := cronreadReadsRow, standIns := [], harness := (true, "d0d93d1adb2a86d9b3aafef563967ff9144465e0b67aabc6d7a477aaa7e538fc"), looks := false }, kinds := [], alts := [], laidByText := true, laidKinds := [.data, .pinned, .pinned], laidTests := true, laidLooks := .later }
def CronreadReadsCardSaid : Prop := Claim7.holds Tryd.pinned (.plain (OpenSpec.ofChange cronreadReadsSpec)) cronreadReadsCard

/-- THE TIED CARD OF 'ferialaw34.RuleshowShows'. -/
def ruleshowShowsCard : Claim7 := { stood := { row := ruleshowShowsRow, standIns := [], harness := (true, "d0d93d1adb2a86d9b3aafef563967ff9144465e0b67aabc6d7a477aaa7e538fc"), looks := false }, kinds := [], alts := [], laidByText := true, laidKinds := [.data, .data, .data], laidTests := true, laidLooks := .later }
def RuleshowShowsCardSaid : Prop := Claim7.holds Tryd.pinned (.plain (OpenSpec.ofChange ruleshowShowsSpec)) ruleshowShowsCard

/-- THE TIED CARD OF 'ferialaw34.RuleshowParts'. -/
def ruleshowPartsCard : Claim7 := { stood := { row := ruleshowPartsRow, standIns := [], harness := (true, "d0d93d1adb2a86d9b3aafef563967ff9144465e0b67aabc6d7a477aaa7e538fc"), looks := false }, kinds := [], alts := [], laidByText := true, laidKinds := [.data, .data, .data], laidTests := true, laidLooks := .later }
def RuleshowPartsCardSaid : Prop := Claim7.holds Tryd.pinned (.plain (OpenSpec.ofChange ruleshowPartsSpec)) ruleshowPartsCard

/-- THE SECOND FORM's CARD OF 'ferialaw25.CronreadReads'. -/
def cronreadReadsUptoCard : Claim7 := { stood := { row := cronreadReadsUptoRow, standIns := [], harness := (true, "d0d93d1adb2a86d9b3aafef563967ff9144465e0b67aabc6d7a477aaa7e538fc"), looks := false }, kinds := [], alts := [], laidByText := true, laidKinds := [.data, .pinned, .pinned], laidTests := true, laidLooks := .later }
def CronreadReadsUptoCardSaid : Prop := Claim7.holds Tryd.pinned (.plain (OpenSpec.upto cronreadReadsSpec)) cronreadReadsUptoCard

/-- THE SECOND FORM's CARD OF 'ferialaw34.RuleshowShows'. -/
def ruleshowShowsUptoCard : Claim7 := { stood := { row := ruleshowShowsUptoRow, standIns := [], harness := (true, "d0d93d1adb2a86d9b3aafef563967ff9144465e0b67aabc6d7a477aaa7e538fc"), looks := false }, kinds := [], alts := [], laidByText := true, laidKinds := [.data, .data, .data], laidTests := true, laidLooks := .later }
def RuleshowShowsUptoCardSaid : Prop := Claim7.holds Tryd.pinned (.plain (OpenSpec.upto ruleshowShowsSpec)) ruleshowShowsUptoCard

/-- THE SECOND FORM's CARD OF 'ferialaw34.RuleshowParts'. -/
def ruleshowPartsUptoCard : Claim7 := { stood := { row := ruleshowPartsUptoRow, standIns := [], harness := (true, "d0d93d1adb2a86d9b3aafef563967ff9144465e0b67aabc6d7a477aaa7e538fc"), looks := false }, kinds := [], alts := [], laidByText := true, laidKinds := [.data, .data, .data], laidTests := true, laidLooks := .later }
def RuleshowPartsUptoCardSaid : Prop := Claim7.holds Tryd.pinned (.plain (OpenSpec.upto ruleshowPartsSpec)) ruleshowPartsUptoCard
end Rows
end Go.Proofs.YtnelecjjbmjhaaaDoor
