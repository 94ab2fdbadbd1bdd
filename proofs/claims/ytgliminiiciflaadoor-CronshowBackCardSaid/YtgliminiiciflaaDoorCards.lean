/-
  DERIVED. GIVEN WITH THE SEED: THE CARDS: each row of YtgliminiiciflaaDoorRows.lean that lists a variable, with what it lists TIED to the program's text (the seventh form; the later family's looks); each row that meets fmt, with fmt's text TOLD by the authors' own Lean function (tested against real Go, not proved from fmt's source: count such statements apart). THE CARD IS WHAT COUNTS. Prove the row's statement (the work); the ties are given (YtgliminiiciflaaDoorTie.lean); close each card by the builder's one call (the guide's Derived/Test/ToyasCard.lean, 'card_holds'). Laid BY PROGRAM, IN A SANDBOX (cutbox-door.mjs). By AI agents, Wed Nov 11 2026. No macro, syntax, notation, axiom, sorry.
-/
import Derived.Test.YtgliminiiciflaaDoorRows
import GoSem.ClaimSeven
namespace Go.Proofs.YtgliminiiciflaaDoor
namespace Rows

/-- THE TIED CARD OF 'ferialaw26.CronshowItems'. -/
def cronshowItemsCard : Claim7 := { stood := { row := cronshowItemsRow, standIns := [], harness := (true, "808e7f66275db7daa827269b17e5b8ae7cff9dd1f99a46d95c9c90ede0edc411"), looks := false }, kinds := [], alts := [], laidByText := true, laidKinds := [.data, .data, .data], laidTests := true, laidLooks := .later }
def CronshowItemsCardSaid : Prop := Claim7.holds Tryd.pinned (.plain (OpenSpec.ofChange cronshowItemsSpec)) cronshowItemsCard

/-- THE TIED CARD OF 'ferialaw26.CronshowShows'. -/
def cronshowShowsCard : Claim7 := { stood := { row := cronshowShowsRow, standIns := [], harness := (true, "808e7f66275db7daa827269b17e5b8ae7cff9dd1f99a46d95c9c90ede0edc411"), looks := false }, kinds := [], alts := [], laidByText := true, laidKinds := [.data, .data, .data], laidTests := true, laidLooks := .later }
def CronshowShowsCardSaid : Prop := Claim7.holds Tryd.pinned (.plain (OpenSpec.ofChange cronshowShowsSpec)) cronshowShowsCard

/-- THE TIED CARD OF 'ferialaw25.CronreadReads'. -/
def cronreadReadsCard : Claim7 := { stood := { row := cronreadReadsRow, standIns := [], harness := (true, "808e7f66275db7daa827269b17e5b8ae7cff9dd1f99a46d95c9c90ede0edc411"), looks := false }, kinds := [], alts := [], laidByText := true, laidKinds := [.data, .pinned, .pinned], laidTests := true, laidLooks := .later }
def CronreadReadsCardSaid : Prop := Claim7.holds Tryd.pinned (.plain (OpenSpec.ofChange cronreadReadsSpec)) cronreadReadsCard

/-- THE TIED CARD OF 'ferialaw25.CronreadLong'. -/
def cronreadLongCard : Claim7 := { stood := { row := cronreadLongRow, standIns := [], harness := (true, "808e7f66275db7daa827269b17e5b8ae7cff9dd1f99a46d95c9c90ede0edc411"), looks := false }, kinds := [], alts := [], laidByText := true, laidKinds := [.data, .pinned, .pinned], laidTests := true, laidLooks := .later }
def CronreadLongCardSaid : Prop := Claim7.holds Tryd.pinned (.plain (OpenSpec.ofChange cronreadLongSpec)) cronreadLongCard

/-- THE TIED CARD OF 'ferialaw25.CronreadBlanks'. -/
def cronreadBlanksCard : Claim7 := { stood := { row := cronreadBlanksRow, standIns := [], harness := (true, "808e7f66275db7daa827269b17e5b8ae7cff9dd1f99a46d95c9c90ede0edc411"), looks := false }, kinds := [], alts := [], laidByText := true, laidKinds := [.data, .pinned, .pinned], laidTests := true, laidLooks := .later }
def CronreadBlanksCardSaid : Prop := Claim7.holds Tryd.pinned (.plain (OpenSpec.ofChange cronreadBlanksSpec)) cronreadBlanksCard

/-- THE TIED CARD OF 'ferialaw25.CronreadMay'. -/
def cronreadMayCard : Claim7 := { stood := { row := cronreadMayRow, standIns := [], harness := (true, "808e7f66275db7daa827269b17e5b8ae7cff9dd1f99a46d95c9c90ede0edc411"), looks := false }, kinds := [], alts := [], laidByText := true, laidKinds := [.data, .pinned, .pinned], laidTests := true, laidLooks := .later }
def CronreadMayCardSaid : Prop := Claim7.holds Tryd.pinned (.plain (OpenSpec.ofChange cronreadMaySpec)) cronreadMayCard

/-- THE TIED CARD OF 'ferialaw26.CronshowBack'. -/
def cronshowBackCard : Claim7 := { stood := { row := cronshowBackRow, standIns := [], harness := (true, "808e7f66275db7daa827269b17e5b8ae7cff9dd1f99a46d95c9c90ede0edc411"), looks := false }, kinds := [], alts := [], laidByText := true, laidKinds := [.data, .data, .data, .data, .pinned, .pinned], laidTests := true, laidLooks := .later }
def CronshowBackCardSaid : Prop := Claim7.holds Tryd.pinned (.plain (OpenSpec.ofChange cronshowBackSpec)) cronshowBackCard

/-- THE SECOND FORM's CARD OF 'ferialaw26.CronshowItems'. -/
def cronshowItemsUptoCard : Claim7 := { stood := { row := cronshowItemsUptoRow, standIns := [], harness := (true, "808e7f66275db7daa827269b17e5b8ae7cff9dd1f99a46d95c9c90ede0edc411"), looks := false }, kinds := [], alts := [], laidByText := true, laidKinds := [.data, .data, .data], laidTests := true, laidLooks := .later }
def CronshowItemsUptoCardSaid : Prop := Claim7.holds Tryd.pinned (.plain (OpenSpec.upto cronshowItemsSpec)) cronshowItemsUptoCard

/-- THE SECOND FORM's CARD OF 'ferialaw26.CronshowShows'. -/
def cronshowShowsUptoCard : Claim7 := { stood := { row := cronshowShowsUptoRow, standIns := [], harness := (true, "808e7f66275db7daa827269b17e5b8ae7cff9dd1f99a46d95c9c90ede0edc411"), looks := false }, kinds := [], alts := [], laidByText := true, laidKinds := [.data, .data, .data], laidTests := true, laidLooks := .later }
def CronshowShowsUptoCardSaid : Prop := Claim7.holds Tryd.pinned (.plain (OpenSpec.upto cronshowShowsSpec)) cronshowShowsUptoCard

/-- THE SECOND FORM's CARD OF 'ferialaw25.CronreadReads'. -/
def cronreadReadsUptoCard : Claim7 := { stood := { row := cronreadReadsUptoRow, standIns := [], harness := (true, "808e7f66275db7daa827269b17e5b8ae7cff9dd1f99a46d95c9c90ede0edc411"), looks := false }, kinds := [], alts := [], laidByText := true, laidKinds := [.data, .pinned, .pinned], laidTests := true, laidLooks := .later }
def CronreadReadsUptoCardSaid : Prop := Claim7.holds Tryd.pinned (.plain (OpenSpec.upto cronreadReadsSpec)) cronreadReadsUptoCard

/-- THE SECOND FORM's CARD OF 'ferialaw25.CronreadLong'. -/
def cronreadLongUptoCard : Claim7 := { stood := { row := cronreadLongUptoRow, standIns := [], harness := (true, "808e7f66275db7daa827269b17e5b8ae7cff9dd1f99a46d95c9c90ede0edc411"), looks := false }, kinds := [], alts := [], laidByText := true, laidKinds := [.data, .pinned, .pinned], laidTests := true, laidLooks := .later }
def CronreadLongUptoCardSaid : Prop := Claim7.holds Tryd.pinned (.plain (OpenSpec.upto cronreadLongSpec)) cronreadLongUptoCard

/-- THE SECOND FORM's CARD OF 'ferialaw25.CronreadBlanks'. -/
def cronreadBlanksUptoCard : Claim7 := { stood := { row := cronreadBlanksUptoRow, standIns := [], harness := (true, "808e7f66275db7daa827269b17e5b8ae7cff9dd1f99a46d95c9c90ede0edc411"), looks := false }, kinds := [], alts := [], laidByText := true, laidKinds := [.data, .pinned, .pinned], laidTests := true, laidLooks := .later }
def CronreadBlanksUptoCardSaid : Prop := Claim7.holds Tryd.pinned (.plain (OpenSpec.upto cronreadBlanksSpec)) cronreadBlanksUptoCard

/-- THE SECOND FORM's CARD OF 'ferialaw25.CronreadMay'. -/
def cronreadMayUptoCard : Claim7 := { stood := { row := cronreadMayUptoRow, standIns := [], harness := (true, "808e7f66275db7daa827269b17e5b8ae7cff9dd1f99a46d95c9c90ede0edc411"), looks := false }, kinds := [], alts := [], laidByText := true, laidKinds := [.data, .pinned, .pinned], laidTests := true, laidLooks := .later }
def CronreadMayUptoCardSaid : Prop := Claim7.holds Tryd.pinned (.plain (OpenSpec.upto cronreadMaySpec)) cronreadMayUptoCard

/-- THE SECOND FORM's CARD OF 'ferialaw26.CronshowBack'. -/
def cronshowBackUptoCard : Claim7 := { stood := { row := cronshowBackUptoRow, standIns := [], harness := (true, "808e7f66275db7daa827269b17e5b8ae7cff9dd1f99a46d95c9c90ede0edc411"), looks := false }, kinds := [], alts := [], laidByText := true, laidKinds := [.data, .data, .data, .data, .pinned, .pinned], laidTests := true, laidLooks := .later }
def CronshowBackUptoCardSaid : Prop := Claim7.holds Tryd.pinned (.plain (OpenSpec.upto cronshowBackSpec)) cronshowBackUptoCard
end Rows
end Go.Proofs.YtgliminiiciflaaDoor
