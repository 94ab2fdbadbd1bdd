/- Arguments as data: what a rule that came in reads as. -/
import Derived.Test.YtnelecjjbmjhaaaGreatDoorWShow4
import Derived.ChangeArms
import Derived.Test.YtnelecjjbmjhaaaGreatDoorCards
import Derived.Test.YtnelecjjbmjhaaaGreatDoorTie
import Derived.Deep.DeepHandedRow
import Derived.Lib.LaidTab
import Derived.LaidSub
import Derived.MakeChecks
import Derived.Test.YtnelecjjbmjhaaaGreatDoorOpen
import Derived.Test.YtnelecjjbmjhaaaGreatDoorWRuI
import Derived.SizedLaws
/- The library's tables, as the cards list them: what a walk reads, and a world that holds them. -/
namespace Go.Proofs.YtnelecjjbmjhaaaGreatDoor
open Go.ChangeShapes Go.WideShapes Go.ChangeAt Go.RowKit
set_option linter.unusedSimpArgs false
set_option linter.unusedVariables false

/-- The cells of a table of integers. -/
def dCells : DataW Unit → Array Value
  | .agg xs => (xs.map fun | .lit (.int k z) => Value.int k z | _ => undef).toArray
  | _ => #[]
def layIn (d : DataW Unit) : Obj → Obj
  | .cells _ t fr => .cells (dCells d) t fr
  | o => o
theorem pow_data : (Rows.laid_internal_strconv_uint64pow10 : DataW Unit) = Lib.tabData .u64 Lib.pow10Tab := by kernel_rfl
/-- What a row's list gives: the powers of ten. -/
theorem pow_of {l : List (String × DataW Unit)} {W : World} (h : laidMetH Tryz.prog l W) (hl : l.filter (fun x => x.1 == "internal/strconv.uint64pow10") = [("internal/strconv.uint64pow10", Rows.laid_internal_strconv_uint64pow10)]) : Pow W := by
  have h1 := h.filter (fun x => x.1 == "internal/strconv.uint64pow10")
  rw [hl, MakeChecks.laidMetH_plain _ _ _ (by kernel_rfl), pow_data] at h1
  exact Lib.tabIs_of_head (rest := []) (show Tryz.prog.globalNamed "internal/strconv.uint64pow10" = some 0 by kernel_rfl) (show (Tryz.prog.globals[0]?).map (·.type) = some 227 by kernel_rfl) Tryz.underlying227 Tryz.underlying196 (by kernel_rfl) (by kernel_rfl) h1
end Go.Proofs.YtnelecjjbmjhaaaGreatDoor

namespace Go.Proofs.YtnelecjjbmjhaaaGreatDoor
open Go.ChangeShapes Go.WideShapes Go.ChangeAt Go.RowKit Go.Deep
set_option linter.unusedSimpArgs false
set_option linter.unusedVariables false

section
variable {H : Type} {enc : TypeId × Value → H} {w : World} {base : Nat} {spare : Nat → Bool} {held : Bool}
theorem nth_cells : Tryz.prog.cellsOf 54 = 2 := by kernel_rfl
theorem int_cells : Tryz.prog.cellsOf 3 = 1 := by kernel_rfl
set_option maxRecDepth 100000 in
theorem open_nth {fuel : Nat} {cs : List Value} {x : DataW H × List MemPlace} (h : DataW.trod enc Tryz.prog w base spare held fuel 54 cs = some x) :
    ∃ p : Int × Int, cs = nthEnc p ∧ In64 p.1 := by
  obtain ⟨xs, n, _, hx, hlen, hxl, hf⟩ := DataW.trod_struct Tryz.underlying54 h
  rw [nth_cells] at hlen
  match cs, hlen with
  | [c0, c1], _ =>
    have i0 := hf 0 _ rfl
    have i1 := hf 1 _ rfl
    have hl : xs.length = 2 := hxl
    match xs, hl with
    | [y0, y1], _ =>
      change DataW.trod enc Tryz.prog w base spare held n 3 (([c0, c1].drop 0).take (Tryz.prog.cellsOf 3)) = _ at i0
      change DataW.trod enc Tryz.prog w base spare held n 3 (([c0, c1].drop 1).take (Tryz.prog.cellsOf 3)) = _ at i1
      rw [int_cells] at i0 i1
      obtain ⟨a, e0, _, w0⟩ := DataW.trod_int Tryz.underlying3 i0
      obtain ⟨b, e1, _, w1⟩ := DataW.trod_int Tryz.underlying3 i1
      simp at e0 e1
      subst e0 e1
      exact ⟨(a, b), rfl, in64_of w0⟩
theorem open_num {fuel : Nat} {cs : List Value} {x : DataW H × List MemPlace} (h : DataW.trod enc Tryz.prog w base spare held fuel 3 cs = some x) :
    ∃ p : Int, cs = intEnc p ∧ In64 p := by
  obtain ⟨a, e0, _, w0⟩ := DataW.trod_int Tryz.underlying3 h
  exact ⟨a, e0, in64_of w0⟩
theorem int_bytes : Tryz.prog.bytesOf 3 = 8 := by kernel_rfl
theorem open_nums {fuel : Nat} {v : Value} {x : DataW H × List MemPlace} (h : DataW.trod enc Tryz.prog w base spare held fuel 22 [v] = some x) :
    ∃ A n c l, v = .slice A n c ∧ Rd 1 intEnc w A n l ∧ n ≤ c ∧ c ≤ maxLen ∧ (∀ it ∈ l, In64 it) ∧ (n = 0 ∨ ∃ q ∈ x.1.weights Tryz.prog 22, n ≤ q) := by
  rcases open_slice Tryz.underlying22 h with ⟨h0, _⟩ | ⟨a, len, cap, m, q, D, Pl, hcs, hb, hl, hm, hmm, hxe, hi⟩
  · simp at h0
    subst h0
    exact ⟨none, 0, 0, [], rfl, Rd.nil, Nat.le_refl _, Nat.zero_le _, fun it hit => by simp at hit, .inl rfl⟩
  · simp at hcs
    subst hcs
    have hlm : len ≤ m := by rw [hmm]; split <;> omega
    have hall : ∀ i, i < len → ∃ it : Int, In64 it ∧ (∀ (j : Nat) v, (intEnc it)[j]? = some v → w.cell? (a.add (i * 1 + j)) = some v) ∧ a.block < w.heap.size := by
      intro i hil
      obtain ⟨cs', hc, ht⟩ := hi i (by omega)
      obtain ⟨it, rfl, hwf⟩ := open_num ht
      rw [int_cells] at hc
      obtain ⟨_, _, hat⟩ := World.cells?_some hc
      refine ⟨it, hwf, fun j v hj => ?_, ?_⟩
      · have hj4 : j < 1 := by have := (List.getElem?_eq_some_iff.1 hj).1; simpa [intEnc] using this
        have := hat j hj4
        rw [← Go.Deep.add_add, this, hj]
      · have := hat 0 (by decide)
        have h2 := World.block_lt_of_cell? w _ this
        rw [Go.Deep.add_add] at h2
        unfold Addr.add at h2
        split at h2 <;> exact h2
    let F : Nat → Int := fun i => if hh : i < len then Classical.choose (hall i hh) else 0
    have hF : ∀ i, i < len → In64 (F i) ∧ (∀ (j : Nat) v, (intEnc (F i))[j]? = some v → w.cell? (a.add (i * 1 + j)) = some v) ∧ a.block < w.heap.size := by
      intro i hil
      have := Classical.choose_spec (hall i hil)
      simpa only [F, hil, dite_true] using this
    refine ⟨some a, len, cap, (List.range len).map F, rfl, ⟨by simp, fun hn => ?_⟩, hl, hm, ?_, ?_⟩
    · obtain ⟨b, o, s⟩ := a
      have h00 := (hF 0 hn).2.1 0 _ rfl
      have hs : s = none := by
        have := World.cell?_spot h00
        simpa [Addr.add] using this
      subst hs
      refine ⟨b, o, rfl, (hF 0 hn).2.2, fun i x hx j v hj => ?_⟩
      have hil : i < len := by have := (List.getElem?_eq_some_iff.1 hx).1; simpa using this
      obtain rfl : F i = x := by simpa [List.getElem?_map, List.getElem?_range hil] using hx
      have := (hF i hil).2.1 j v hj
      rw [addr_add] at this
      rw [show o + i * 1 + j = o + (i * 1 + j) from by omega]; exact this
    · intro it hit
      simp only [List.mem_map, List.mem_range] at hit
      obtain ⟨i, hil, rfl⟩ := hit
      exact (hF i hil).1
    · right
      refine ⟨(len + (m - len)) * 8, ?_, by omega⟩
      rw [hxe]
      simp [DataW.weights, Tryz.underlying22, int_bytes]
theorem nth_bytes : Tryz.prog.bytesOf 54 = 16 := by kernel_rfl
theorem open_nths {fuel : Nat} {v : Value} {x : DataW H × List MemPlace} (h : DataW.trod enc Tryz.prog w base spare held fuel 23 [v] = some x) :
    ∃ A n c l, v = .slice A n c ∧ Rd 2 nthEnc w A n l ∧ n ≤ c ∧ c ≤ maxLen ∧ (∀ it ∈ l, In64 it.1) ∧ (n = 0 ∨ ∃ q ∈ x.1.weights Tryz.prog 23, n ≤ q) := by
  rcases open_slice Tryz.underlying23 h with ⟨h0, _⟩ | ⟨a, len, cap, m, q, D, Pl, hcs, hb, hl, hm, hmm, hxe, hi⟩
  · simp at h0
    subst h0
    exact ⟨none, 0, 0, [], rfl, Rd.nil, Nat.le_refl _, Nat.zero_le _, fun it hit => by simp at hit, .inl rfl⟩
  · simp at hcs
    subst hcs
    have hlm : len ≤ m := by rw [hmm]; split <;> omega
    have hall : ∀ i, i < len → ∃ it : (Int × Int), In64 it.1 ∧ (∀ (j : Nat) v, (nthEnc it)[j]? = some v → w.cell? (a.add (i * 2 + j)) = some v) ∧ a.block < w.heap.size := by
      intro i hil
      obtain ⟨cs', hc, ht⟩ := hi i (by omega)
      obtain ⟨it, rfl, hwf⟩ := open_nth ht
      rw [nth_cells] at hc
      obtain ⟨_, _, hat⟩ := World.cells?_some hc
      refine ⟨it, hwf, fun j v hj => ?_, ?_⟩
      · have hj4 : j < 2 := by have := (List.getElem?_eq_some_iff.1 hj).1; simpa [nthEnc] using this
        have := hat j hj4
        rw [← Go.Deep.add_add, this, hj]
      · have := hat 0 (by decide)
        have h2 := World.block_lt_of_cell? w _ this
        rw [Go.Deep.add_add] at h2
        unfold Addr.add at h2
        split at h2 <;> exact h2
    let F : Nat → (Int × Int) := fun i => if hh : i < len then Classical.choose (hall i hh) else (0, 0)
    have hF : ∀ i, i < len → In64 (F i).1 ∧ (∀ (j : Nat) v, (nthEnc (F i))[j]? = some v → w.cell? (a.add (i * 2 + j)) = some v) ∧ a.block < w.heap.size := by
      intro i hil
      have := Classical.choose_spec (hall i hil)
      simpa only [F, hil, dite_true] using this
    refine ⟨some a, len, cap, (List.range len).map F, rfl, ⟨by simp, fun hn => ?_⟩, hl, hm, ?_, ?_⟩
    · obtain ⟨b, o, s⟩ := a
      have h00 := (hF 0 hn).2.1 0 _ rfl
      have hs : s = none := by
        have := World.cell?_spot h00
        simpa [Addr.add] using this
      subst hs
      refine ⟨b, o, rfl, (hF 0 hn).2.2, fun i x hx j v hj => ?_⟩
      have hil : i < len := by have := (List.getElem?_eq_some_iff.1 hx).1; simpa using this
      obtain rfl : F i = x := by simpa [List.getElem?_map, List.getElem?_range hil] using hx
      have := (hF i hil).2.1 j v hj
      rw [addr_add] at this
      rw [show o + i * 2 + j = o + (i * 2 + j) from by omega]; exact this
    · intro it hit
      simp only [List.mem_map, List.mem_range] at hit
      obtain ⟨i, hil, rfl⟩ := hit
      exact (hF i hil).1
    · right
      refine ⟨(len + (m - len)) * 16, ?_, by omega⟩
      rw [hxe]
      simp [DataW.weights, Tryz.underlying23, nth_bytes]
theorem ru_cells : Tryz.prog.cellsOf 25 = 11 := by kernel_rfl
set_option maxRecDepth 100000 in
/-- A rule that came in. -/
theorem open_rule {fuel : Nat} {cs : List Value} {x : DataW H × List MemPlace} (h : DataW.trod enc Tryz.prog w base spare held fuel 25 cs = some x) :
    ∃ (A : Nat → Option Addr) (n c : Nat → Nat) (r : RuV), cs = [.int .i64 r.st, .int .i64 r.fr, .int .i64 r.iv, .int .i64 r.ct, .int .i64 r.un, .slice (A 5) (n 5) (c 5), .slice (A 6) (n 6) (c 6), .slice (A 7) (n 7) (c 7), .slice (A 8) (n 8) (c 8), .slice (A 9) (n 9) (c 9), .slice (A 10) (n 10) (c 10)] ∧
      RdRu w A n r ∧ (∀ k, n k ≤ c k) ∧ (∀ k, c k ≤ maxLen) ∧ (∀ k, (k < 5 ∨ 10 < k) → n k = 0) ∧ RuWf r ∧ ∀ k, n k = 0 ∨ ∃ q ∈ x.1.weights Tryz.prog 25, n k ≤ q := by
  obtain ⟨xs, q, _, hx, hlen, hxl, hf⟩ := DataW.trod_struct Tryz.underlying25 h
  rw [ru_cells] at hlen
  match cs, hlen with
  | [c0, c1, c2, c3, c4, c5, c6, c7, c8, c9, c10], _ =>
    have i0 := hf 0 _ rfl
    have i1 := hf 1 _ rfl
    have i2 := hf 2 _ rfl
    have i3 := hf 3 _ rfl
    have i4 := hf 4 _ rfl
    have i5 := hf 5 _ rfl
    have i6 := hf 6 _ rfl
    have i7 := hf 7 _ rfl
    have i8 := hf 8 _ rfl
    have i9 := hf 9 _ rfl
    have i10 := hf 10 _ rfl
    have hl : xs.length = 11 := hxl
    match xs, hl with
    | [y0, y1, y2, y3, y4, y5, y6, y7, y8, y9, y10], _ =>
      have one6 : Tryz.prog.cellsOf 2 = 1 := by kernel_rfl
      have onel : Tryz.prog.cellsOf 22 = 1 := by kernel_rfl
      have onen : Tryz.prog.cellsOf 23 = 1 := by kernel_rfl
      change DataW.trod enc Tryz.prog w base spare held q 2 (([c0, c1, c2, c3, c4, c5, c6, c7, c8, c9, c10].drop 0).take (Tryz.prog.cellsOf 2)) = _ at i0
      change DataW.trod enc Tryz.prog w base spare held q 3 (([c0, c1, c2, c3, c4, c5, c6, c7, c8, c9, c10].drop 1).take (Tryz.prog.cellsOf 3)) = _ at i1
      change DataW.trod enc Tryz.prog w base spare held q 2 (([c0, c1, c2, c3, c4, c5, c6, c7, c8, c9, c10].drop 2).take (Tryz.prog.cellsOf 2)) = _ at i2
      change DataW.trod enc Tryz.prog w base spare held q 2 (([c0, c1, c2, c3, c4, c5, c6, c7, c8, c9, c10].drop 3).take (Tryz.prog.cellsOf 2)) = _ at i3
      change DataW.trod enc Tryz.prog w base spare held q 2 (([c0, c1, c2, c3, c4, c5, c6, c7, c8, c9, c10].drop 4).take (Tryz.prog.cellsOf 2)) = _ at i4
      change DataW.trod enc Tryz.prog w base spare held q 22 (([c0, c1, c2, c3, c4, c5, c6, c7, c8, c9, c10].drop 5).take (Tryz.prog.cellsOf 22)) = _ at i5
      change DataW.trod enc Tryz.prog w base spare held q 22 (([c0, c1, c2, c3, c4, c5, c6, c7, c8, c9, c10].drop 6).take (Tryz.prog.cellsOf 22)) = _ at i6
      change DataW.trod enc Tryz.prog w base spare held q 23 (([c0, c1, c2, c3, c4, c5, c6, c7, c8, c9, c10].drop 7).take (Tryz.prog.cellsOf 23)) = _ at i7
      change DataW.trod enc Tryz.prog w base spare held q 22 (([c0, c1, c2, c3, c4, c5, c6, c7, c8, c9, c10].drop 8).take (Tryz.prog.cellsOf 22)) = _ at i8
      change DataW.trod enc Tryz.prog w base spare held q 22 (([c0, c1, c2, c3, c4, c5, c6, c7, c8, c9, c10].drop 9).take (Tryz.prog.cellsOf 22)) = _ at i9
      change DataW.trod enc Tryz.prog w base spare held q 22 (([c0, c1, c2, c3, c4, c5, c6, c7, c8, c9, c10].drop 10).take (Tryz.prog.cellsOf 22)) = _ at i10
      rw [one6] at i0 i2 i3 i4
      rw [int_cells] at i1
      rw [onel] at i5 i6 i8 i9 i10
      rw [onen] at i7
      obtain ⟨a0, e0, _, w0⟩ := DataW.trod_int Tryz.underlying2 i0
      obtain ⟨a1, e1, _, w1⟩ := DataW.trod_int Tryz.underlying3 i1
      obtain ⟨a2, e2, _, w2⟩ := DataW.trod_int Tryz.underlying2 i2
      obtain ⟨a3, e3, _, w3⟩ := DataW.trod_int Tryz.underlying2 i3
      obtain ⟨a4, e4, _, w4⟩ := DataW.trod_int Tryz.underlying2 i4
      obtain ⟨A5, n5, k5, l5, e5, r5, p5, q5, w5, g5⟩ := open_nums i5
      obtain ⟨A6, n6, k6, l6, e6, r6, p6, q6, w6, g6⟩ := open_nums i6
      obtain ⟨A7, n7, k7, l7, e7, r7, p7, q7, w7, g7⟩ := open_nths i7
      obtain ⟨A8, n8, k8, l8, e8, r8, p8, q8, w8, g8⟩ := open_nums i8
      obtain ⟨A9, n9, k9, l9, e9, r9, p9, q9, w9, g9⟩ := open_nums i9
      obtain ⟨A10, n10, k10, l10, e10, r10, p10, q10, w10, g10⟩ := open_nums i10
      simp at e0 e1 e2 e3 e4
      subst e0 e1 e2 e3 e4 e5 e6 e7 e8 e9 e10
      refine ⟨fun k => match k with | 5 => A5 | 6 => A6 | 7 => A7 | 8 => A8 | 9 => A9 | 10 => A10 | _ => none, fun k => match k with | 5 => n5 | 6 => n6 | 7 => n7 | 8 => n8 | 9 => n9 | 10 => n10 | _ => 0,
        fun k => match k with | 5 => k5 | 6 => k6 | 7 => k7 | 8 => k8 | 9 => k9 | 10 => k10 | _ => 0, ⟨a0, a1, a2, a3, a4, l5, l6, l7, l8, l9, l10⟩, rfl, ⟨r5, r6, r7, r8, r9, r10⟩, ?_, ?_, ?_, ⟨in64_of w0, in64_of w1, in64_of w2, in64_of w3, in64_of w4, w5, w6, w7, w8, w9, w10⟩, ?_⟩
      · intro k
        dsimp only
        split
        all_goals first | assumption | exact Nat.le_refl _
      · intro k
        dsimp only
        split
        all_goals first | assumption | exact Nat.zero_le _
      · intro k hk
        dsimp only
        split
        all_goals first | rfl | (exfalso; omega)
      · have key : ∀ {j : Nat} {t : TypeId} {d : DataW H} {m : Nat}, [2, 3, 2, 2, 2, 22, 22, 23, 22, 22, 22][j]? = some t → [y0.1, y1.1, y2.1, y3.1, y4.1, y5.1, y6.1, y7.1, y8.1, y9.1, y10.1][j]? = some d → (m = 0 ∨ ∃ q ∈ d.weights Tryz.prog t, m ≤ q) → (m = 0 ∨ ∃ q ∈ x.1.weights Tryz.prog 25, m ≤ q) := by
          intro j t d m h1 h2 h3
          rcases h3 with h3 | ⟨q, hq, hle⟩
          · exact .inl h3
          · right
            refine ⟨q, ?_, hle⟩
            have := DataW.weights_mem_each h1 h2 q hq
            rw [hx]
            simp only [DataW.weights, Tryz.underlying25]
            exact this
        intro k
        dsimp only
        split
        · exact key (j := 5) rfl rfl g5
        · exact key (j := 6) rfl rfl g6
        · exact key (j := 7) rfl rfl g7
        · exact key (j := 8) rfl rfl g8
        · exact key (j := 9) rfl rfl g9
        · exact key (j := 10) rfl rfl g10
        · exact .inl rfl
end
end Go.Proofs.YtnelecjjbmjhaaaGreatDoor
