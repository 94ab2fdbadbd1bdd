/-
  DERIVED. GIVEN WITH THE SEED: THE CARDS: each row of YtllcdbgjeidlkaaGreatDoorRows.lean that lists a variable, with what it lists TIED to the program's text (the seventh form; the later family's looks); each row that meets fmt, with fmt's text TOLD by the authors' own Lean function (tested against real Go, not proved from fmt's source: count such statements apart). THE CARD IS WHAT COUNTS. Prove the row's statement (the work); the ties are given (YtllcdbgjeidlkaaGreatDoorTie.lean); close each card by the builder's one call (the guide's Derived/Test/ToyasCard.lean, 'card_holds'). Laid BY PROGRAM, IN A SANDBOX (cutbox-door.mjs). By AI agents, Wed Nov 11 2026. No macro, syntax, notation, axiom, sorry.
-/
import Derived.Test.YtllcdbgjeidlkaaGreatDoorRows
import GoSem.ClaimSeven
namespace Go.Proofs.YtllcdbgjeidlkaaGreatDoor
namespace Rows

/-- THE TIED CARD OF 'ferialaw37.TocalSets'. -/
def tocalSetsCard : Claim7 := { stood := { row := tocalSetsRow, standIns := [], harness := (true, "ec2c680b6d14d2304de38e25038b74b14812f69b1de531d83b340e428fe072a7"), looks := false }, kinds := [], alts := [], laidByText := true, laidKinds := [.data, .data, .data], laidTests := true, laidLooks := .later }
def TocalSetsCardSaid : Prop := Claim7.holds Tryz.pinned (.plain (OpenSpec.ofChange tocalSetsSpec)) tocalSetsCard

/-- THE TIED CARD OF 'ferialaw37.TocalFaces'. -/
def tocalFacesCard : Claim7 := { stood := { row := tocalFacesRow, standIns := [], harness := (true, "ec2c680b6d14d2304de38e25038b74b14812f69b1de531d83b340e428fe072a7"), looks := false }, kinds := [], alts := [], laidByText := true, laidKinds := [.data, .data, .data], laidTests := true, laidLooks := .later }
def TocalFacesCardSaid : Prop := Claim7.holds Tryz.pinned (.plain (OpenSpec.ofChange tocalFacesSpec)) tocalFacesCard

/-- THE SECOND FORM's CARD OF 'ferialaw37.TocalSets'. -/
def tocalSetsUptoCard : Claim7 := { stood := { row := tocalSetsUptoRow, standIns := [], harness := (true, "ec2c680b6d14d2304de38e25038b74b14812f69b1de531d83b340e428fe072a7"), looks := false }, kinds := [], alts := [], laidByText := true, laidKinds := [.data, .data, .data], laidTests := true, laidLooks := .later }
def TocalSetsUptoCardSaid : Prop := Claim7.holds Tryz.pinned (.plain (OpenSpec.upto tocalSetsSpec)) tocalSetsUptoCard

/-- THE SECOND FORM's CARD OF 'ferialaw37.TocalFaces'. -/
def tocalFacesUptoCard : Claim7 := { stood := { row := tocalFacesUptoRow, standIns := [], harness := (true, "ec2c680b6d14d2304de38e25038b74b14812f69b1de531d83b340e428fe072a7"), looks := false }, kinds := [], alts := [], laidByText := true, laidKinds := [.data, .data, .data], laidTests := true, laidLooks := .later }
def TocalFacesUptoCardSaid : Prop := Claim7.holds Tryz.pinned (.plain (OpenSpec.upto tocalFacesSpec)) tocalFacesUptoCard
end Rows
end Go.Proofs.YtllcdbgjeidlkaaGreatDoor
