/- A world that holds the library's tables of runes, as the cards list them. -/
import Derived.Test.YtochhmkdhdadhaaGreatDoorCards
import Derived.Test.YtochhmkdhdadhaaGreatDoorTie
import Derived.Deep.DeepHandedRow
import Derived.Lib.LaidTab
import Derived.LaidSub
import Derived.MakeChecks
import Derived.Test.YtochhmkdhdadhaaGreatDoorOpen
import Derived.Test.YtochhmkdhdadhaaGreatDoorShelf
import Derived.Lib.LaidCaseMet
import Derived.PinnedBridge
import Derived.Deep.DeepWitnessRowRef
namespace Go.Proofs.YtochhmkdhdadhaaGreatDoor
open Go.ChangeShapes Go.WideShapes Go.ChangeAt Go.RowKit
set_option linter.unusedSimpArgs false
set_option linter.unusedVariables false

/-- The cells of a datum of integers, however deep. -/
def dFlat : Nat → DataW Unit → List Value
  | n + 1, .agg xs => xs.flatMap (dFlat n)
  | n + 1, .slice xs _ => xs.flatMap (dFlat n)
  | _, .lit (.int k z) => [.int k z]
  | _, _ => [undef]
def layFlat (d : DataW Unit) : Obj → Obj
  | .cells _ t fr => .cells (dFlat 4 d).toArray t fr
  | o => o
def layCells (cs : Array Value) : Obj → Obj
  | .cells _ t fr => .cells cs t fr
  | o => o
/-- The numbers of the shelf's words, the table's variable among them. -/
def caseRen : Go.Shelf.Ren := { Tryz.lays274_ren with g := fun | 13 => 0 | n => n }
theorem caseLay : Go.Proofs.Lays.n274 Tryz.prog caseRen := { Tryz.lays274 with }
/-- The settled world, and the tables of runes: unicode.CaseRanges' rows in a block of their own. -/
noncomputable def runeWorld (os : Os) : World :=
  { World.holding Tryz.prog os ⟨#[.cells Lib.caseCells5 (caseRen.t 208)], #[], []⟩ with heap := (((World.holding Tryz.prog os ⟨#[.cells Lib.caseCells5 (caseRen.t 208)], #[], []⟩).heap.modify 3 (layFlat Rows.laid_unicode_utf8_acceptRanges)).modify 2 (layFlat Rows.laid_unicode_utf8_first)).modify 0 (layCells #[.slice (some ⟨(World.settled Tryz.prog os).heap.size, 0, none⟩) 336 336]) }
set_option maxRecDepth 100000 in
theorem rune_met0 (os : Os) (args : Array Value) : laidMet Tryz.prog ([("unicode/utf8.acceptRanges", Rows.laid_unicode_utf8_acceptRanges), ("unicode/utf8.first", Rows.laid_unicode_utf8_first)] ++ [("unicode.CaseRanges", Lib.caseData)]) ((runeWorld os).forCall (fun _ _ => 0) ⟨#[], args, []⟩).memory :=
  laidMet_with_case (ρ := caseRen) caseLay (by kernel_rfl) ⟨by kernel_rfl, by kernel_rfl, by kernel_rfl, by kernel_rfl, by kernel_rfl, by kernel_rfl⟩
    (l := [("unicode/utf8.acceptRanges", Rows.laid_unicode_utf8_acceptRanges), ("unicode/utf8.first", Rows.laid_unicode_utf8_first)])
    10 (by kernel_rfl) (by kernel_rfl) (by kernel_rfl) ((World.settled Tryz.prog default).heap.size) (caseRen.t 208) (of_decide_eq_true (by kernel_rfl)) (by kernel_rfl) (by kernel_rfl) (by kernel_rfl)
theorem laidMet_swap {P : Program} {w : World} {a f c : String × DataW Unit} (h : laidMet P [a, f, c] w) : laidMet P [a, c, f] w := by
  obtain ⟨ps, hv, hnd, hrows⟩ := h
  obtain ⟨na, da⟩ := a
  obtain ⟨nf, df⟩ := f
  obtain ⟨nc, dc⟩ := c
  obtain ⟨ga, ta, csa, fua, pa, qa, a1, a2, a3, a4, hf, rfl⟩ := hv
  obtain ⟨gf, tf, csf, fuf, pf, qf, f1, f2, f3, f4, hc, rfl⟩ := hf
  obtain ⟨gc, tc, csc, fuc, pc, qc, c1, c2, c3, c4, hn, rfl⟩ := hc
  cases hn
  have hperm : ∀ (X Y Z : List MemPlace), List.Perm (X ++ (Y ++ (Z ++ []))) (X ++ (Z ++ (Y ++ []))) := fun X Y Z => by
    rw [List.append_nil, List.append_nil]
    exact List.Perm.append_left _ List.perm_append_comm
  refine ⟨_, ⟨ga, ta, csa, fua, pa, _, a1, a2, a3, a4, ⟨gc, tc, csc, fuc, pc, _, c1, c2, c3, c4, ⟨gf, tf, csf, fuf, pf, _, f1, f2, f3, f4, rfl, rfl⟩, rfl⟩, rfl⟩, ?_, ?_⟩
  · exact (hperm _ _ _).nodup_iff.1 hnd
  · intro b off hp
    exact hrows b off ((hperm _ _ _).mem_iff.2 hp)
theorem rune_met (os : Os) (args : Array Value) : laidMet Tryz.prog [("unicode/utf8.acceptRanges", Rows.laid_unicode_utf8_acceptRanges), ("unicode.CaseRanges", Rows.laid_unicode_CaseRanges), ("unicode/utf8.first", Rows.laid_unicode_utf8_first)] ((runeWorld os).forCall (fun _ _ => 0) ⟨#[], args, []⟩).memory := by
  have h := rune_met0 os args
  have e : Rows.laid_unicode_CaseRanges = Lib.caseData := Pinned.caseRanges_eq
  rw [e]
  exact laidMet_swap h
end Go.Proofs.YtochhmkdhdadhaaGreatDoor
