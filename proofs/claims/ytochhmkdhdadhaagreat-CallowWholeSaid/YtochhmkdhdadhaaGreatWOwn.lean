/- Words for slices of the call's own, kept behind a reader's call. -/
import Derived.Test.YtochhmkdhdadhaaGreatWClone
import Derived.Test.YtochhmkdhdadhaaGreatWArr
import Derived.Test.YtochhmkdhdadhaaGreatRGoes
namespace Go.Proofs.YtochhmkdhdadhaaGreat
open Go.RowKit
set_option linter.unusedSimpArgs false
set_option linter.unusedVariables false

section
variable {w w' wr : World} {b : Nat}
theorem Chg.grown {row : Option Nat} (h : Chg b w wr) (hg : wr.grownBy w' row) (hrow : ∀ k, row = some k → w.heap.size ≤ k) : Chg b w w' :=
  ⟨hg.os.trans h.os, hg.tape.trans h.tape, hg.output.trans h.output, Nat.le_trans h.size hg.size, fun k hk hn => (hg.block k (Nat.lt_of_lt_of_le hk h.size) (fun e => by have := hrow k e.symm; omega)).trans (h.block k hk hn)⟩
theorem own_ge {B n k : Nat} {v : Value} {t : TypeId} {xs : List Value} (h : w.ownsRow B t k v n xs) : ∀ g, v.ownBlock = some g → B ≤ g := by
  intro g hg
  rcases own_some h with ⟨rfl, _⟩ | ⟨g', cap, rfl, h2, _⟩
  · simp [Value.ownBlock] at hg
  · simp [Value.ownBlock] at hg; omega
theorem own_chg {B n k : Nat} {v : Value} {t : TypeId} {xs : List Value} (h : w.ownsRow B t k v n xs) (hg : Chg b w w') (hb : b < B) : w'.ownsRow B t k v n xs :=
  h.kept hg (by
    cases e : v.ownBlock with
    | none => exact .inl rfl
    | some g => right; have := own_ge h g e; intro h2; cases h2; omega)
end
/-- The result is written: what lies behind is as it was. -/
theorem own_set {w : World} {B R o n k : Nat} {v x : Value} {t : TypeId} {xs : List Value} (h : w.ownsRow B t k v n xs) (hR : R < B) : (w.setCell ⟨R, o, none⟩ x).ownsRow B t k v n xs :=
  own_chg h ((Chg.refl R w).set o x) hR
theorem own_drew {w : World} {B n k : Nat} {v : Value} {t : TypeId} {xs : List Value} (h : w.ownsRow B t k v n xs) : w.drew.ownsRow B t k v n xs := h
theorem own_slice {w : World} {B n k : Nat} {v : Value} {t : TypeId} {xs : List Value} (h : w.ownsRow B t k v n xs) : ∃ A m c, v = .slice A m c := by
  rcases own_some h with ⟨rfl, _⟩ | ⟨g, cap, rfl, _⟩
  · exact ⟨_, _, _, rfl⟩
  · exact ⟨_, _, _, rfl⟩
/-- Nothing has turned but blocks b and C, and what is new. -/
structure Chg2 (b C : Nat) (w w' : World) : Prop where
  os : w'.os = w.os
  tape : w'.tape = w.tape
  output : w'.output = w.output
  size : w.heap.size ≤ w'.heap.size
  block : ∀ k, k < w.heap.size → k ≠ b → k ≠ C → w'.heap[k]? = w.heap[k]?
section
variable {w w' w'' : World} {b C : Nat}
theorem Chg.two (h : Chg b w w') (C : Nat) : Chg2 b C w w' := ⟨h.os, h.tape, h.output, h.size, fun k hk hb _ => h.block k hk (fun e => hb (by injection e))⟩
theorem Chg2.trans (h : Chg2 b C w w') (g : Chg2 b C w' w'') : Chg2 b C w w'' :=
  ⟨g.os.trans h.os, g.tape.trans h.tape, g.output.trans h.output, Nat.le_trans h.size g.size, fun k hk hb hc => (g.block k (Nat.lt_of_lt_of_le hk h.size) hb hc).trans (h.block k hk hb hc)⟩
theorem Chg2.then (h : Chg2 b C w w') (g : Chg b w' w'') : Chg2 b C w w'' := h.trans (g.two C)
theorem Chg2.set (h : Chg2 b C w w') (o : Nat) (v : Value) : Chg2 b C w (w'.setCell ⟨C, o, none⟩ v) :=
  h.trans ⟨rfl, rfl, rfl, by simp [World.setCell], fun k _ _ hc => Below.heap_setCell _ _ _ _ (fun e => hc (by simp [e]))⟩
theorem Chg2.alloc (h : Chg2 b C w w') (o : Obj) : Chg2 b C w (w'.alloc o) := h.then ((Chg.refl b w').alloc o)
theorem Chg2.cell {B o : Nat} {v : Value} (h : Chg2 b C w w') (hb : B ≠ b) (hC : B ≠ C) (hc : w.cell? ⟨B, o, none⟩ = some v) : w'.cell? ⟨B, o, none⟩ = some v :=
  (World.cell?_of_block (h.block B (World.block_lt_of_cell? w _ hc) hb hC)).trans hc
theorem Chg2.frozen {B o : Nat} (h : Chg2 b C w w') (hb : B ≠ b) (hC : B ≠ C) (hlt : B < w.heap.size) : w'.frozen? ⟨B, o, none⟩ = w.frozen? ⟨B, o, none⟩ := by
  have := h.block B hlt hb hC
  unfold World.frozen?
  rw [this]
theorem Chg2.below {B : Nat} {w0 : World} (h : Below B w0 w) (g : Chg2 b C w w') (hb : B ≤ b) (hC : B ≤ C) (hs : B ≤ w.heap.size) : Below B w0 w' :=
  h.trans ⟨g.os, g.tape, g.output, g.size, fun k hk => g.block k (by omega) (by omega) (by omega)⟩
end
end Go.Proofs.YtochhmkdhdadhaaGreat
