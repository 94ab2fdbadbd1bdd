/- Regions whose callees make memory, walked once in the order of the text; strings by their bytes. -/
import Derived.Test.YthkleinjddkhoaaAid
import Derived.Deep.QuietTactic
import Derived.BigQuiet
import Derived.Deep.RegionHeld3
import Derived.Deep.DrawnRows
namespace Go.Proofs.Ythkleinjddkhoaa
open Go.RowKit
set_option linter.unusedSimpArgs false
set_option linter.unusedVariables false

/-- A world that has grown out of w. -/
structure Ext (w : World) where
  W : World
  h : Below w.heap.size w W
instance (w : World) : Nonempty (Ext w) := ⟨⟨w, Below.refl _ _⟩⟩
/-- The worlds that have grown out of w. -/
abbrev Grew (w : World) (W : World) : Prop := ∃ x : Ext w, W = x.W
theorem Ext.cell {w : World} (x : Ext w) {b o : Nat} {v : Value} (h : w.cell? ⟨b, o, none⟩ = some v) : x.W.cell? ⟨b, o, none⟩ = some v :=
  (x.h.cell (p := ⟨b, o, none⟩) (World.block_lt_of_cell? w _ h)).trans h
theorem ext_call {P : Program} {f : FuncId} {args : Array Value} {w : World} {v : Value} (x : Ext w) (h : Calls P f args x.W (Ret v x.W)) : Calls P f args x.W fun e w'' => e = .returned v ∧ ∃ y : Ext w, w'' = y.W :=
  h.mono fun _ w1 ⟨he, hb⟩ => ⟨he, ⟨w1, x.h.trans (hb.mono x.h.size)⟩, rfl⟩
theorem wp_region_grew {P : Program} {l : List Oper} {id : Nat} {Q : Exit → Act → World → Prop} {a : Act} {w : World} (hm : P.follows .mixedOrders = true) (hB : Region.lexB .any l.toArray = true)
    (h : wpQuiet P l.toArray (Grew w) (fun a' => ∀ w', Grew w w' → Q .normal a' w') l a) : (Code.region id l.toArray true).wp P Q a w :=
  wp_region_quiet (C := Grew w) hm hB ⟨⟨_, (Below.refl w.heap.size w).drew⟩, rfl⟩ (by simpa using h)

/-- A string of bytes. -/
def strB (l : List UInt8) : ByteArray := ⟨l.toArray⟩
theorem strB_size (l : List UInt8) : (strB l).size = l.length := by simp [strB, ByteArray.size]
theorem strB_data (l : List UInt8) : (strB l).data.toList = l := by simp [strB]
theorem strB_of {S : ByteArray} {l : List UInt8} (h : S.data.toList = l) : S = strB l := by
  subst h; apply ByteArray.ext; simp [strB]
theorem str_app (a b : ByteArray) : (a ++ b).data.toList = a.data.toList ++ b.data.toList := by simp
theorem ret_str {S : ByteArray} {l : List UInt8} (h : S.data.toList = l) : Ending.returned (.string S) = .returned (.string (strB l)) := by rw [strB_of h]
end Go.Proofs.Ythkleinjddkhoaa
