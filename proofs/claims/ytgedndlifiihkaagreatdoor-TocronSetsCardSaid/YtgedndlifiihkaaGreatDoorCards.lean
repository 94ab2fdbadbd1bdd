/-
  DERIVED. GIVEN WITH THE SEED: THE CARDS: each row of YtgedndlifiihkaaGreatDoorRows.lean that lists a variable, with what it lists TIED to the program's text (the seventh form; the later family's looks); each row that meets fmt, with fmt's text TOLD by the authors' own Lean function (tested against real Go, not proved from fmt's source: count such statements apart). THE CARD IS WHAT COUNTS. Prove the row's statement (the work); the ties are given (YtgedndlifiihkaaGreatDoorTie.lean); close each card by the builder's one call (the guide's Derived/Test/ToyasCard.lean, 'card_holds'). Laid BY PROGRAM, IN A SANDBOX (cutbox-door.mjs). By AI agents, Wed Nov 11 2026. No macro, syntax, notation, axiom, sorry.
-/
import Derived.Test.YtgedndlifiihkaaGreatDoorRows
import GoSem.ClaimSeven
namespace Go.Proofs.YtgedndlifiihkaaGreatDoor
namespace Rows

/-- THE TIED CARD OF 'ferialaw36.TocronEither'. -/
def tocronEitherCard : Claim7 := { stood := { row := tocronEitherRow, standIns := [], harness := (true, "077fa8f5acb9314625a9713f88b771db2757971b90beda406c41e6f682450205"), looks := false }, kinds := [], alts := [], laidByText := true, laidKinds := [.data, .data, .data, .data, .pinned, .pinned], laidTests := true, laidLooks := .later }
def TocronEitherCardSaid : Prop := Claim7.holds Tryz.pinned (.plain (OpenSpec.ofChange tocronEitherSpec)) tocronEitherCard

/-- THE TIED CARD OF 'ferialaw36.TocronLines'. -/
def tocronLinesCard : Claim7 := { stood := { row := tocronLinesRow, standIns := [], harness := (true, "077fa8f5acb9314625a9713f88b771db2757971b90beda406c41e6f682450205"), looks := false }, kinds := [], alts := [], laidByText := true, laidKinds := [.data, .data, .data, .data, .pinned, .pinned], laidTests := true, laidLooks := .later }
def TocronLinesCardSaid : Prop := Claim7.holds Tryz.pinned (.plain (OpenSpec.ofChange tocronLinesSpec)) tocronLinesCard

/-- THE TIED CARD OF 'ferialaw36.TocronSets'. -/
def tocronSetsCard : Claim7 := { stood := { row := tocronSetsRow, standIns := [], harness := (true, "077fa8f5acb9314625a9713f88b771db2757971b90beda406c41e6f682450205"), looks := false }, kinds := [], alts := [], laidByText := true, laidKinds := [.data, .data, .data, .data, .pinned, .pinned], laidTests := true, laidLooks := .later }
def TocronSetsCardSaid : Prop := Claim7.holds Tryz.pinned (.plain (OpenSpec.ofChange tocronSetsSpec)) tocronSetsCard

/-- THE SECOND FORM's CARD OF 'ferialaw36.TocronEither'. -/
def tocronEitherUptoCard : Claim7 := { stood := { row := tocronEitherUptoRow, standIns := [], harness := (true, "077fa8f5acb9314625a9713f88b771db2757971b90beda406c41e6f682450205"), looks := false }, kinds := [], alts := [], laidByText := true, laidKinds := [.data, .data, .data, .data, .pinned, .pinned], laidTests := true, laidLooks := .later }
def TocronEitherUptoCardSaid : Prop := Claim7.holds Tryz.pinned (.plain (OpenSpec.upto tocronEitherSpec)) tocronEitherUptoCard

/-- THE SECOND FORM's CARD OF 'ferialaw36.TocronLines'. -/
def tocronLinesUptoCard : Claim7 := { stood := { row := tocronLinesUptoRow, standIns := [], harness := (true, "077fa8f5acb9314625a9713f88b771db2757971b90beda406c41e6f682450205"), looks := false }, kinds := [], alts := [], laidByText := true, laidKinds := [.data, .data, .data, .data, .pinned, .pinned], laidTests := true, laidLooks := .later }
def TocronLinesUptoCardSaid : Prop := Claim7.holds Tryz.pinned (.plain (OpenSpec.upto tocronLinesSpec)) tocronLinesUptoCard

/-- THE SECOND FORM's CARD OF 'ferialaw36.TocronSets'. -/
def tocronSetsUptoCard : Claim7 := { stood := { row := tocronSetsUptoRow, standIns := [], harness := (true, "077fa8f5acb9314625a9713f88b771db2757971b90beda406c41e6f682450205"), looks := false }, kinds := [], alts := [], laidByText := true, laidKinds := [.data, .data, .data, .data, .pinned, .pinned], laidTests := true, laidLooks := .later }
def TocronSetsUptoCardSaid : Prop := Claim7.holds Tryz.pinned (.plain (OpenSpec.upto tocronSetsSpec)) tocronSetsUptoCard
end Rows
end Go.Proofs.YtgedndlifiihkaaGreatDoor
