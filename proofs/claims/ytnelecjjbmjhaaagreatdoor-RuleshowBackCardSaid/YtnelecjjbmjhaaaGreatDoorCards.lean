/-
  DERIVED. GIVEN WITH THE SEED: THE CARDS: each row of YtnelecjjbmjhaaaGreatDoorRows.lean that lists a variable, with what it lists TIED to the program's text (the seventh form; the later family's looks); each row that meets fmt, with fmt's text TOLD by the authors' own Lean function (tested against real Go, not proved from fmt's source: count such statements apart). THE CARD IS WHAT COUNTS. Prove the row's statement (the work); the ties are given (YtnelecjjbmjhaaaGreatDoorTie.lean); close each card by the builder's one call (the guide's Derived/Test/ToyasCard.lean, 'card_holds'). Laid BY PROGRAM, IN A SANDBOX (cutbox-door.mjs). By AI agents, Wed Nov 11 2026. No macro, syntax, notation, axiom, sorry.
-/
import Derived.Test.YtnelecjjbmjhaaaGreatDoorRows
import GoSem.ClaimSeven
namespace Go.Proofs.YtnelecjjbmjhaaaGreatDoor
namespace Rows

/-- THE TIED CARD OF 'ferialaw34.RuleshowBack'. -/
def ruleshowBackCard : Claim7 := { stood := { row := ruleshowBackRow, standIns := [], harness := (true, "f06fb2c676c661926abbe8cd006a70cbecbee171cea335eec72d6fc27c12a660"), looks := false }, kinds := [], alts := [], laidByText := true, laidKinds := [.data, .data, .data], laidTests := true, laidLooks := .later }
def RuleshowBackCardSaid : Prop := Claim7.holds Tryz.pinned (.plain (OpenSpec.ofChange ruleshowBackSpec)) ruleshowBackCard

/-- THE TIED CARD OF 'ferialaw30.CalshowItems'. -/
def calshowItemsCard : Claim7 := { stood := { row := calshowItemsRow, standIns := [], harness := (true, "f06fb2c676c661926abbe8cd006a70cbecbee171cea335eec72d6fc27c12a660"), looks := false }, kinds := [], alts := [], laidByText := true, laidKinds := [.data, .data, .data], laidTests := true, laidLooks := .later }
def CalshowItemsCardSaid : Prop := Claim7.holds Tryz.pinned (.plain (OpenSpec.ofChange calshowItemsSpec)) calshowItemsCard

/-- THE TIED CARD OF 'ferialaw30.CalshowShows'. -/
def calshowShowsCard : Claim7 := { stood := { row := calshowShowsRow, standIns := [], harness := (true, "f06fb2c676c661926abbe8cd006a70cbecbee171cea335eec72d6fc27c12a660"), looks := false }, kinds := [], alts := [], laidByText := true, laidKinds := [.data, .data, .data], laidTests := true, laidLooks := .later }
def CalshowShowsCardSaid : Prop := Claim7.holds Tryz.pinned (.plain (OpenSpec.ofChange calshowShowsSpec)) calshowShowsCard

/-- THE TIED CARD OF 'ferialaw30.CalshowBack'. -/
def calshowBackCard : Claim7 := { stood := { row := calshowBackRow, standIns := [], harness := (true, "f06fb2c676c661926abbe8cd006a70cbecbee171cea335eec72d6fc27c12a660"), looks := false }, kinds := [], alts := [], laidByText := true, laidKinds := [.data, .data, .data], laidTests := true, laidLooks := .later }
def CalshowBackCardSaid : Prop := Claim7.holds Tryz.pinned (.plain (OpenSpec.ofChange calshowBackSpec)) calshowBackCard

/-- THE SECOND FORM's CARD OF 'ferialaw34.RuleshowBack'. -/
def ruleshowBackUptoCard : Claim7 := { stood := { row := ruleshowBackUptoRow, standIns := [], harness := (true, "f06fb2c676c661926abbe8cd006a70cbecbee171cea335eec72d6fc27c12a660"), looks := false }, kinds := [], alts := [], laidByText := true, laidKinds := [.data, .data, .data], laidTests := true, laidLooks := .later }
def RuleshowBackUptoCardSaid : Prop := Claim7.holds Tryz.pinned (.plain (OpenSpec.upto ruleshowBackSpec)) ruleshowBackUptoCard

/-- THE SECOND FORM's CARD OF 'ferialaw30.CalshowItems'. -/
def calshowItemsUptoCard : Claim7 := { stood := { row := calshowItemsUptoRow, standIns := [], harness := (true, "f06fb2c676c661926abbe8cd006a70cbecbee171cea335eec72d6fc27c12a660"), looks := false }, kinds := [], alts := [], laidByText := true, laidKinds := [.data, .data, .data], laidTests := true, laidLooks := .later }
def CalshowItemsUptoCardSaid : Prop := Claim7.holds Tryz.pinned (.plain (OpenSpec.upto calshowItemsSpec)) calshowItemsUptoCard

/-- THE SECOND FORM's CARD OF 'ferialaw30.CalshowShows'. -/
def calshowShowsUptoCard : Claim7 := { stood := { row := calshowShowsUptoRow, standIns := [], harness := (true, "f06fb2c676c661926abbe8cd006a70cbecbee171cea335eec72d6fc27c12a660"), looks := false }, kinds := [], alts := [], laidByText := true, laidKinds := [.data, .data, .data], laidTests := true, laidLooks := .later }
def CalshowShowsUptoCardSaid : Prop := Claim7.holds Tryz.pinned (.plain (OpenSpec.upto calshowShowsSpec)) calshowShowsUptoCard

/-- THE SECOND FORM's CARD OF 'ferialaw30.CalshowBack'. -/
def calshowBackUptoCard : Claim7 := { stood := { row := calshowBackUptoRow, standIns := [], harness := (true, "f06fb2c676c661926abbe8cd006a70cbecbee171cea335eec72d6fc27c12a660"), looks := false }, kinds := [], alts := [], laidByText := true, laidKinds := [.data, .data, .data], laidTests := true, laidLooks := .later }
def CalshowBackUptoCardSaid : Prop := Claim7.holds Tryz.pinned (.plain (OpenSpec.upto calshowBackSpec)) calshowBackUptoCard
end Rows
end Go.Proofs.YtnelecjjbmjhaaaGreatDoor
