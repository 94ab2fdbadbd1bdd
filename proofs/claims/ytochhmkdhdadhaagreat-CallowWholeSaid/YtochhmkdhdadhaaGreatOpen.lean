/- Arguments as data: what a slice of items, and a line, that came in read as. -/
import Derived.Test.YtochhmkdhdadhaaGreatRows
import Derived.Test.YtochhmkdhdadhaaGreatWLine
import Derived.ProofKit
import Derived.OpenShut
import Derived.ShutString
import Derived.ChangeOld
import Derived.Below
import Derived.Deep.Slices
import Derived.Deep.Fields
namespace Go.Proofs.YtochhmkdhdadhaaGreat
open Go.ChangeShapes Go.WideShapes Go.ChangeAt Go.RowKit Go.Deep
set_option linter.unusedSimpArgs false
set_option linter.unusedVariables false

/-- Each number is one of 64 bits. -/
def In64 (x : Int) : Prop := -9223372036854775808 ≤ x ∧ x ≤ 9223372036854775807
def It.wf (i : It) : Prop := In64 i.k ∧ In64 i.f ∧ In64 i.t ∧ In64 i.s
theorem in64_of {x : Int} (h : (Lit.int .i64 x).wf = true) : In64 x := by simpa [Lit.wf, IntKind.min, IntKind.max, IntKind.signed, IntKind.bits, In64] using h

section
variable {H : Type} {enc : TypeId × Value → H} {w : World} {base : Nat} {spare : Nat → Bool} {held : Bool}
theorem it_cells : Tryz.prog.cellsOf 59 = 4 := by kernel_rfl
set_option maxRecDepth 100000 in
/-- An item's four cells. -/
theorem open_it {fuel : Nat} {cs : List Value} {x : DataW H × List MemPlace} (h : DataW.trod enc Tryz.prog w base spare held fuel 59 cs = some x) :
    ∃ it : It, cs = itEnc it ∧ it.wf := by
  obtain ⟨xs, n, _, hx, hlen, hxl, hf⟩ := DataW.trod_struct Tryz.underlying59 h
  rw [it_cells] at hlen
  match cs, hlen with
  | [c0, c1, c2, c3], _ =>
    have i0 := hf 0 _ rfl
    have i1 := hf 1 _ rfl
    have i2 := hf 2 _ rfl
    have i3 := hf 3 _ rfl
    have hl : xs.length = 4 := hxl
    match xs, hl with
    | [y0, y1, y2, y3], _ =>
      have one : Tryz.prog.cellsOf 3 = 1 := by kernel_rfl
      change DataW.trod enc Tryz.prog w base spare held n 3 (([c0, c1, c2, c3].drop 0).take (Tryz.prog.cellsOf 3)) = _ at i0
      change DataW.trod enc Tryz.prog w base spare held n 3 (([c0, c1, c2, c3].drop 1).take (Tryz.prog.cellsOf 3)) = _ at i1
      change DataW.trod enc Tryz.prog w base spare held n 3 (([c0, c1, c2, c3].drop 2).take (Tryz.prog.cellsOf 3)) = _ at i2
      change DataW.trod enc Tryz.prog w base spare held n 3 (([c0, c1, c2, c3].drop 3).take (Tryz.prog.cellsOf 3)) = _ at i3
      rw [one] at i0 i1 i2 i3
      obtain ⟨k, e0, _, w0⟩ := DataW.trod_int Tryz.underlying3 i0
      obtain ⟨f, e1, _, w1⟩ := DataW.trod_int Tryz.underlying3 i1
      obtain ⟨t, e2, _, w2⟩ := DataW.trod_int Tryz.underlying3 i2
      obtain ⟨s, e3, _, w3⟩ := DataW.trod_int Tryz.underlying3 i3
      simp at e0 e1 e2 e3
      subst e0 e1 e2 e3
      exact ⟨⟨k, f, t, s⟩, rfl, in64_of w0, in64_of w1, in64_of w2, in64_of w3⟩

theorem addr_add (b o j : Nat) : (⟨b, o, none⟩ : Addr).add j = ⟨b, o + j, none⟩ := by
  unfold Addr.add; split
  · subst_vars; rfl
  · rfl

/-- A slice of items that came in. -/
theorem open_items {fuel : Nat} {v : Value} {x : DataW H × List MemPlace} (h : DataW.trod enc Tryz.prog w base spare held fuel 22 [v] = some x) :
    ∃ A n c l, v = .slice A n c ∧ RdIts w A n l ∧ n ≤ c ∧ c ≤ maxLen ∧ (A = none → n = 0) ∧ ∀ it ∈ l, it.wf := by
  rcases open_slice Tryz.underlying22 h with ⟨h0, _⟩ | ⟨a, len, cap, m, q, D, Pl, hcs, hb, hl, hm, hmm, _, hi⟩
  · simp at h0
    subst h0
    exact ⟨none, 0, 0, [], rfl, Rd.nil, Nat.le_refl _, Nat.zero_le _, fun _ => rfl, fun it hit => by simp at hit⟩
  · simp at hcs
    subst hcs
    have hlm : len ≤ m := by rw [hmm]; split <;> omega
    have hall : ∀ i, i < len → ∃ it : It, it.wf ∧ (∀ (j : Nat) v, (itEnc it)[j]? = some v → w.cell? (a.add (i * 4 + j)) = some v) ∧ a.block < w.heap.size := by
      intro i hil
      obtain ⟨cs', hc, ht⟩ := hi i (by omega)
      obtain ⟨it, rfl, hwf⟩ := open_it ht
      rw [it_cells] at hc
      obtain ⟨_, _, hat⟩ := World.cells?_some hc
      refine ⟨it, hwf, fun j v hj => ?_, ?_⟩
      · have hj4 : j < 4 := by have := (List.getElem?_eq_some_iff.1 hj).1; simpa [itEnc] using this
        have := hat j hj4
        rw [← Go.Deep.add_add, this, hj]
      · have := hat 0 (by decide)
        have h2 := World.block_lt_of_cell? w _ this
        rw [Go.Deep.add_add] at h2
        unfold Addr.add at h2
        split at h2 <;> exact h2
    let F : Nat → It := fun i => if hh : i < len then Classical.choose (hall i hh) else ⟨0, 0, 0, 0⟩
    have hF : ∀ i, i < len → (F i).wf ∧ (∀ (j : Nat) v, (itEnc (F i))[j]? = some v → w.cell? (a.add (i * 4 + j)) = some v) ∧ a.block < w.heap.size := by
      intro i hil
      have := Classical.choose_spec (hall i hil)
      simpa [F, hil] using this
    refine ⟨some a, len, cap, (List.range len).map F, rfl, ⟨by simp, fun hn => ?_⟩, hl, hm, (fun h => by cases h), ?_⟩
    · obtain ⟨b, o, s⟩ := a
      have h00 := (hF 0 hn).2.1 0 _ rfl
      have hs : s = none := by
        have := World.cell?_spot h00
        simpa [Addr.add] using this
      subst hs
      refine ⟨b, o, rfl, (hF 0 hn).2.2, fun i x hx j v hj => ?_⟩
      have hil : i < len := by have := (List.getElem?_eq_some_iff.1 hx).1; simpa using this
      obtain rfl : F i = x := by simpa [List.getElem?_map, List.getElem?_range hil] using hx
      have := (hF i hil).2.1 j v hj
      rw [addr_add] at this
      rw [show o + i * 4 + j = o + (i * 4 + j) from by omega]; exact this
    · intro it hit
      simp only [List.mem_map, List.mem_range] at hit
      obtain ⟨i, hil, rfl⟩ := hit
      exact (hF i hil).1

end
end Go.Proofs.YtochhmkdhdadhaaGreat
