/- The walk of a reader's item. -/
import Derived.Test.YtpfcgjneeboamaaDoorWCronread2
import Derived.Test.YtpfcgjneeboamaaDoorWArr
import Derived.Test.YtpfcgjneeboamaaDoorWBox
namespace Go.Proofs.YtpfcgjneeboamaaDoor
open Go.RowKit
set_option linter.unusedSimpArgs false
set_option linter.unusedVariables false

/-- What an item's reader has in memory: itself, its result. -/
def Fr (w : World) (B R b : Nat) (f : Int) : Prop := Box w B b f ∧ ItAt w R ⟨0, 0, 0, 0⟩
section
variable {w w' : World} {B R b : Nat} {f : Int}
theorem Fr.chg (h : Fr w B R b f) (hg : Chg b w w') (h1 : B ≠ b) (h2 : R ≠ b) : Fr w' B R b f := ⟨h.1.chg hg h1, Arr.chg h.2 (by decide) hg h2⟩
theorem Fr.alloc (h : Fr w B R b f) (o : Obj) : Fr (w.alloc o) B R b f := ⟨h.1.alloc o, Arr.alloc h.2 (Arr.lt h.2 (by decide)) o⟩
theorem Fr.below (h : Fr w B R b f) (hb : Below w.heap.size w w') : Fr w' B R b f := ⟨h.1.below hb, Arr.below h.2 (Arr.lt h.2 (by decide)) hb⟩
theorem Fr.set (h : Fr w B R b f) {C o : Nat} (h1 : C ≠ B) (h2 : C ≠ R) (v : Value) : Fr (w.setCell ⟨C, o, none⟩ v) B R b f := ⟨h.1.set h1 v, Arr.other h.2 h2⟩
end
theorem fr_new (w : World) (b : Nat) (f : Int) (t t' : TypeId) : Fr ((w.alloc (.cells #[.pointer (some ⟨b, 0, none⟩), .int .i64 f] t)).alloc (.cells #[.int .i64 0, .int .i64 0, .int .i64 0, .int .i64 0] t')) w.heap.size (w.heap.size + 1) b f :=
  ⟨(box_new w b f t).alloc _, by have := itAt_new (w.alloc (.cells #[.pointer (some ⟨b, 0, none⟩), .int .i64 f] t)) 0 0 0 0 t'; simpa using this⟩
def RetDIt (b : Nat) (s : ByteArray) (a c : Int) (w : World) (x : Ending) (w' : World) : Prop := ∃ i : It, RetD (itV i) b s a c w x w'

theorem Live.set4 {w : World} {b R : Nat} {s : ByteArray} {l : List UInt8} (h : Live w b s l) (hR : R ≠ b) (v0 v1 v2 v3 : Value) : Live ((((w.setCell ⟨R, 0, none⟩ v0).setCell ⟨R, 1, none⟩ v1).setCell ⟨R, 2, none⟩ v2).setCell ⟨R, 3, none⟩ v3) b s l :=
  (((h.set hR v0).set hR v1).set hR v2).set hR v3
theorem Dead.set4 {w : World} {b R : Nat} {s : ByteArray} {a c : Int} (h : Dead w b s a c) (hR : R ≠ b) (v0 v1 v2 v3 : Value) : Dead ((((w.setCell ⟨R, 0, none⟩ v0).setCell ⟨R, 1, none⟩ v1).setCell ⟨R, 2, none⟩ v2).setCell ⟨R, 3, none⟩ v3) b s a c :=
  (((h.set hR v0).set hR v1).set hR v2).set hR v3
theorem itAt_set1 {w : World} {B : Nat} {k f t s : Int} (h : ItAt w B ⟨k, f, t, s⟩) (v : Int) : ItAt (w.setCell ⟨B, 1, none⟩ (.int .i64 v)) B ⟨k, v, t, s⟩ :=
  Arr.set h 1 (by decide) _ rfl (fun j hj hn => by
    obtain rfl | rfl | rfl | rfl : j = 0 ∨ j = 1 ∨ j = 2 ∨ j = 3 := by omega
    all_goals first | rfl | exact absurd rfl hn)
end Go.Proofs.YtpfcgjneeboamaaDoor
