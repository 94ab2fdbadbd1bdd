/-
  DERIVED. GIVEN WITH THE SEED: THE CARDS: each row of YtochhmkdhdadhaaGreatDoorRows.lean that lists a variable, with what it lists TIED to the program's text (the seventh form; the later family's looks); each row that meets fmt, with fmt's text TOLD by the authors' own Lean function (tested against real Go, not proved from fmt's source: count such statements apart). THE CARD IS WHAT COUNTS. Prove the row's statement (the work); the ties are given (YtochhmkdhdadhaaGreatDoorTie.lean); close each card by the builder's one call (the guide's Derived/Test/ToyasCard.lean, 'card_holds'). Laid BY PROGRAM, IN A SANDBOX (cutbox-door.mjs). By AI agents, Wed Nov 11 2026. No macro, syntax, notation, axiom, sorry.
-/
import Derived.Test.YtochhmkdhdadhaaGreatDoorRows
import GoSem.ClaimSeven
namespace Go.Proofs.YtochhmkdhdadhaaGreatDoor
namespace Rows

/-- THE TIED CARD OF 'ferialaw27.CronlowMeans'. -/
def cronlowMeansCard : Claim7 := { stood := { row := cronlowMeansRow, standIns := [], harness := (true, "b901e50c2d59a0186731e9d17980c35e012f468bf4eda0f5aed6a25dd5ca1269"), looks := false }, kinds := [], alts := [], laidByText := true, laidKinds := [.data, .pinned, .pinned], laidTests := true, laidLooks := .later }
def CronlowMeansCardSaid : Prop := Claim7.holds Tryz.pinned (.plain (OpenSpec.ofChange cronlowMeansSpec)) cronlowMeansCard

/-- THE TIED CARD OF 'ferialaw27.CronlowTexts'. -/
def cronlowTextsCard : Claim7 := { stood := { row := cronlowTextsRow, standIns := [], harness := (true, "b901e50c2d59a0186731e9d17980c35e012f468bf4eda0f5aed6a25dd5ca1269"), looks := false }, kinds := [], alts := [], laidByText := true, laidKinds := [.data, .pinned, .pinned], laidTests := true, laidLooks := .later }
def CronlowTextsCardSaid : Prop := Claim7.holds Tryz.pinned (.plain (OpenSpec.ofChange cronlowTextsSpec)) cronlowTextsCard

/-- THE TIED CARD OF 'ferialaw27.CronlowWhole'. -/
def cronlowWholeCard : Claim7 := { stood := { row := cronlowWholeRow, standIns := [], harness := (true, "b901e50c2d59a0186731e9d17980c35e012f468bf4eda0f5aed6a25dd5ca1269"), looks := false }, kinds := [], alts := [], laidByText := true, laidKinds := [.data, .pinned, .pinned], laidTests := true, laidLooks := .later }
def CronlowWholeCardSaid : Prop := Claim7.holds Tryz.pinned (.plain (OpenSpec.ofChange cronlowWholeSpec)) cronlowWholeCard

/-- THE SECOND FORM's CARD OF 'ferialaw27.CronlowMeans'. -/
def cronlowMeansUptoCard : Claim7 := { stood := { row := cronlowMeansUptoRow, standIns := [], harness := (true, "b901e50c2d59a0186731e9d17980c35e012f468bf4eda0f5aed6a25dd5ca1269"), looks := false }, kinds := [], alts := [], laidByText := true, laidKinds := [.data, .pinned, .pinned], laidTests := true, laidLooks := .later }
def CronlowMeansUptoCardSaid : Prop := Claim7.holds Tryz.pinned (.plain (OpenSpec.upto cronlowMeansSpec)) cronlowMeansUptoCard

/-- THE SECOND FORM's CARD OF 'ferialaw27.CronlowTexts'. -/
def cronlowTextsUptoCard : Claim7 := { stood := { row := cronlowTextsUptoRow, standIns := [], harness := (true, "b901e50c2d59a0186731e9d17980c35e012f468bf4eda0f5aed6a25dd5ca1269"), looks := false }, kinds := [], alts := [], laidByText := true, laidKinds := [.data, .pinned, .pinned], laidTests := true, laidLooks := .later }
def CronlowTextsUptoCardSaid : Prop := Claim7.holds Tryz.pinned (.plain (OpenSpec.upto cronlowTextsSpec)) cronlowTextsUptoCard

/-- THE SECOND FORM's CARD OF 'ferialaw27.CronlowWhole'. -/
def cronlowWholeUptoCard : Claim7 := { stood := { row := cronlowWholeUptoRow, standIns := [], harness := (true, "b901e50c2d59a0186731e9d17980c35e012f468bf4eda0f5aed6a25dd5ca1269"), looks := false }, kinds := [], alts := [], laidByText := true, laidKinds := [.data, .pinned, .pinned], laidTests := true, laidLooks := .later }
def CronlowWholeUptoCardSaid : Prop := Claim7.holds Tryz.pinned (.plain (OpenSpec.upto cronlowWholeSpec)) cronlowWholeUptoCard
end Rows
end Go.Proofs.YtochhmkdhdadhaaGreatDoor
