/-
  DERIVED. GIVEN WITH THE SEED: THE CARDS: each row of YtadefhkaejjfmaaGreatDoorRows.lean that lists a variable, with what it lists TIED to the program's text (the seventh form; the later family's looks); each row that meets fmt, with fmt's text TOLD by the authors' own Lean function (tested against real Go, not proved from fmt's source: count such statements apart). THE CARD IS WHAT COUNTS. Prove the row's statement (the work); the ties are given (YtadefhkaejjfmaaGreatDoorTie.lean); close each card by the builder's one call (the guide's Derived/Test/ToyasCard.lean, 'card_holds'). Laid BY PROGRAM, IN A SANDBOX (cutbox-door.mjs). By AI agents, Wed Nov 11 2026. No macro, syntax, notation, axiom, sorry.
-/
import Derived.Test.YtadefhkaejjfmaaGreatDoorRows
import GoSem.ClaimSeven
namespace Go.Proofs.YtadefhkaejjfmaaGreatDoor
namespace Rows

/-- THE TIED CARD OF 'ferialaw37.TocalSets'. -/
def tocalSetsCard : Claim7 := { stood := { row := tocalSetsRow, standIns := [], harness := (true, "31496dfa65f0d05c714a96b7fd28faf3f995db13322dfa050aecca651649b532"), looks := false }, kinds := [], alts := [], laidByText := true, laidKinds := [.data, .data, .data], laidTests := true, laidLooks := .later }
def TocalSetsCardSaid : Prop := Claim7.holds Tryz.pinned (.plain (OpenSpec.ofChange tocalSetsSpec)) tocalSetsCard

/-- THE TIED CARD OF 'ferialaw37.TocalFaces'. -/
def tocalFacesCard : Claim7 := { stood := { row := tocalFacesRow, standIns := [], harness := (true, "31496dfa65f0d05c714a96b7fd28faf3f995db13322dfa050aecca651649b532"), looks := false }, kinds := [], alts := [], laidByText := true, laidKinds := [.data, .data, .data], laidTests := true, laidLooks := .later }
def TocalFacesCardSaid : Prop := Claim7.holds Tryz.pinned (.plain (OpenSpec.ofChange tocalFacesSpec)) tocalFacesCard

/-- THE TIED CARD OF 'ferialaw39.CanonRules'. -/
def canonRulesCard : Claim7 := { stood := { row := canonRulesRow, standIns := [], harness := (true, "31496dfa65f0d05c714a96b7fd28faf3f995db13322dfa050aecca651649b532"), looks := false }, kinds := [], alts := [], laidByText := true, laidKinds := [.data, .data, .data, .data, .pinned, .pinned], laidTests := true, laidLooks := .later }
def CanonRulesCardSaid : Prop := Claim7.holds Tryz.pinned (.plain (OpenSpec.ofChange canonRulesSpec)) canonRulesCard

/-- THE TIED CARD OF 'ferialaw39.CanonCrons'. -/
def canonCronsCard : Claim7 := { stood := { row := canonCronsRow, standIns := [], harness := (true, "31496dfa65f0d05c714a96b7fd28faf3f995db13322dfa050aecca651649b532"), looks := false }, kinds := [], alts := [], laidByText := true, laidKinds := [.data, .data, .data, .data, .pinned, .pinned], laidTests := true, laidLooks := .later }
def CanonCronsCardSaid : Prop := Claim7.holds Tryz.pinned (.plain (OpenSpec.ofChange canonCronsSpec)) canonCronsCard

/-- THE SECOND FORM's CARD OF 'ferialaw37.TocalSets'. -/
def tocalSetsUptoCard : Claim7 := { stood := { row := tocalSetsUptoRow, standIns := [], harness := (true, "31496dfa65f0d05c714a96b7fd28faf3f995db13322dfa050aecca651649b532"), looks := false }, kinds := [], alts := [], laidByText := true, laidKinds := [.data, .data, .data], laidTests := true, laidLooks := .later }
def TocalSetsUptoCardSaid : Prop := Claim7.holds Tryz.pinned (.plain (OpenSpec.upto tocalSetsSpec)) tocalSetsUptoCard

/-- THE SECOND FORM's CARD OF 'ferialaw37.TocalFaces'. -/
def tocalFacesUptoCard : Claim7 := { stood := { row := tocalFacesUptoRow, standIns := [], harness := (true, "31496dfa65f0d05c714a96b7fd28faf3f995db13322dfa050aecca651649b532"), looks := false }, kinds := [], alts := [], laidByText := true, laidKinds := [.data, .data, .data], laidTests := true, laidLooks := .later }
def TocalFacesUptoCardSaid : Prop := Claim7.holds Tryz.pinned (.plain (OpenSpec.upto tocalFacesSpec)) tocalFacesUptoCard

/-- THE SECOND FORM's CARD OF 'ferialaw39.CanonRules'. -/
def canonRulesUptoCard : Claim7 := { stood := { row := canonRulesUptoRow, standIns := [], harness := (true, "31496dfa65f0d05c714a96b7fd28faf3f995db13322dfa050aecca651649b532"), looks := false }, kinds := [], alts := [], laidByText := true, laidKinds := [.data, .data, .data, .data, .pinned, .pinned], laidTests := true, laidLooks := .later }
def CanonRulesUptoCardSaid : Prop := Claim7.holds Tryz.pinned (.plain (OpenSpec.upto canonRulesSpec)) canonRulesUptoCard

/-- THE SECOND FORM's CARD OF 'ferialaw39.CanonCrons'. -/
def canonCronsUptoCard : Claim7 := { stood := { row := canonCronsUptoRow, standIns := [], harness := (true, "31496dfa65f0d05c714a96b7fd28faf3f995db13322dfa050aecca651649b532"), looks := false }, kinds := [], alts := [], laidByText := true, laidKinds := [.data, .data, .data, .data, .pinned, .pinned], laidTests := true, laidLooks := .later }
def CanonCronsUptoCardSaid : Prop := Claim7.holds Tryz.pinned (.plain (OpenSpec.upto canonCronsSpec)) canonCronsUptoCard
end Rows
end Go.Proofs.YtadefhkaejjfmaaGreatDoor
