/- The walk of a reader's item. -/
import Derived.Test.YtgliminiiciflaaDoorWCronread2
import Derived.Test.YtgliminiiciflaaDoorWArr
namespace Go.Proofs.YtgliminiiciflaaDoor
open Go.RowKit
set_option linter.unusedSimpArgs false
set_option linter.unusedVariables false

theorem Arr.chg {w w' : World} {b B m : Nat} {g : Nat → Value} (h : Arr w B m g) (hm : 0 < m) (hg : Chg b w w') (hne : B ≠ b) : Arr w' B m g :=
  ⟨fun j hj => hg.cell hne (h.1 j hj), fun j => hg.frozen hne (h.lt hm) (h.2 j)⟩
def itG (i : It) (j : Nat) : Value := .int .i64 (if j = 0 then i.k else if j = 1 then i.f else if j = 2 then i.t else i.s)
/-- An item in a block of its own. -/
abbrev ItAt (w : World) (B : Nat) (i : It) : Prop := Arr w B 4 (itG i)
theorem ItAt.cells {w : World} {B : Nat} {i : It} (h : ItAt w B i) : w.cell? ⟨B, 0, none⟩ = some (.int .i64 i.k) ∧ w.cell? ⟨B, 1, none⟩ = some (.int .i64 i.f) ∧ w.cell? ⟨B, 2, none⟩ = some (.int .i64 i.t) ∧ w.cell? ⟨B, 3, none⟩ = some (.int .i64 i.s) ∧ ∀ j, w.frozen? ⟨B, j, none⟩ = false :=
  ⟨h.1 0 (by decide), h.1 1 (by decide), h.1 2 (by decide), h.1 3 (by decide), h.2⟩
theorem itAt_new (w : World) (k f t s : Int) (ty : TypeId) : ItAt (w.alloc (.cells #[.int .i64 k, .int .i64 f, .int .i64 t, .int .i64 s] ty)) w.heap.size ⟨k, f, t, s⟩ :=
  arr_new w #[.int .i64 k, .int .i64 f, .int .i64 t, .int .i64 s] ty (itG ⟨k, f, t, s⟩) (by
    intro j hj
    obtain rfl | rfl | rfl | rfl : j = 0 ∨ j = 1 ∨ j = 2 ∨ j = 3 := by simp at hj; omega
    all_goals rfl)
/-- What an item's reader has in memory: itself, its result. -/
def Fr (w : World) (B R b : Nat) (f : Int) : Prop := Box w B b f ∧ ItAt w R ⟨0, 0, 0, 0⟩
section
variable {w w' : World} {B R b : Nat} {f : Int}
theorem Fr.chg (h : Fr w B R b f) (hg : Chg b w w') (h1 : B ≠ b) (h2 : R ≠ b) : Fr w' B R b f := ⟨h.1.chg hg h1, Arr.chg h.2 (by decide) hg h2⟩
theorem Fr.alloc (h : Fr w B R b f) (o : Obj) : Fr (w.alloc o) B R b f := ⟨h.1.alloc o, Arr.alloc h.2 (Arr.lt h.2 (by decide)) o⟩
theorem Fr.below (h : Fr w B R b f) (hb : Below w.heap.size w w') : Fr w' B R b f := ⟨h.1.below hb, Arr.below h.2 (Arr.lt h.2 (by decide)) hb⟩
theorem Fr.set (h : Fr w B R b f) {C o : Nat} (h1 : C ≠ B) (h2 : C ≠ R) (v : Value) : Fr (w.setCell ⟨C, o, none⟩ v) B R b f := ⟨h.1.set h1 v, Arr.other h.2 h2⟩
end
theorem fr_new (w : World) (b : Nat) (f : Int) (t t' : TypeId) : Fr ((w.alloc (.cells #[.pointer (some ⟨b, 0, none⟩), .int .i64 f] t)).alloc (.cells #[.int .i64 0, .int .i64 0, .int .i64 0, .int .i64 0] t')) w.heap.size (w.heap.size + 1) b f :=
  ⟨(box_new w b f t).alloc _, by have := itAt_new (w.alloc (.cells #[.pointer (some ⟨b, 0, none⟩), .int .i64 f] t)) 0 0 0 0 t'; simpa using this⟩
abbrev itV (i : It) : Value := .agg #[.int .i64 i.k, .int .i64 i.f, .int .i64 i.t, .int .i64 i.s]
theorem results_cell1 {fn : Func} {p : Tmp} {ty : TypeId} (h : fn.results = #[.cell p ty]) (tmps : Array Value) (P : Program) (w : World) :
    (results fn tmps).run P w = ((asAddr (tmps.getD p undef)).run P w).andThen fun a w₁ => (loadVar ty a).run P w₁ := by
  simp only [results, h]
  simp [Sem.run_bind, Result.andThen]
def RetDIt (b : Nat) (s : ByteArray) (a c : Int) (w : World) (x : Ending) (w' : World) : Prop := ∃ i : It, RetD (itV i) b s a c w x w'

theorem Live.set4 {w : World} {b R : Nat} {s : ByteArray} {l : List UInt8} (h : Live w b s l) (hR : R ≠ b) (v0 v1 v2 v3 : Value) : Live ((((w.setCell ⟨R, 0, none⟩ v0).setCell ⟨R, 1, none⟩ v1).setCell ⟨R, 2, none⟩ v2).setCell ⟨R, 3, none⟩ v3) b s l :=
  (((h.set hR v0).set hR v1).set hR v2).set hR v3
theorem Dead.set4 {w : World} {b R : Nat} {s : ByteArray} {a c : Int} (h : Dead w b s a c) (hR : R ≠ b) (v0 v1 v2 v3 : Value) : Dead ((((w.setCell ⟨R, 0, none⟩ v0).setCell ⟨R, 1, none⟩ v1).setCell ⟨R, 2, none⟩ v2).setCell ⟨R, 3, none⟩ v3) b s a c :=
  (((h.set hR v0).set hR v1).set hR v2).set hR v3
theorem Chg.set4 {w w' : World} {b R : Nat} (h : Chg b w w') (hR : w.heap.size ≤ R) (v0 v1 v2 v3 : Value) : Chg b w ((((w'.setCell ⟨R, 0, none⟩ v0).setCell ⟨R, 1, none⟩ v1).setCell ⟨R, 2, none⟩ v2).setCell ⟨R, 3, none⟩ v3) :=
  (((h.setNew hR).setNew hR).setNew hR).setNew hR
theorem itAt_set0 {w : World} {B : Nat} {k f t s : Int} (h : ItAt w B ⟨k, f, t, s⟩) (v : Int) : ItAt (w.setCell ⟨B, 0, none⟩ (.int .i64 v)) B ⟨v, f, t, s⟩ :=
  Arr.set h 0 (by decide) _ rfl (fun j hj hn => by
    obtain rfl | rfl | rfl | rfl : j = 0 ∨ j = 1 ∨ j = 2 ∨ j = 3 := by omega
    all_goals first | rfl | exact absurd rfl hn)
theorem itAt_set1 {w : World} {B : Nat} {k f t s : Int} (h : ItAt w B ⟨k, f, t, s⟩) (v : Int) : ItAt (w.setCell ⟨B, 1, none⟩ (.int .i64 v)) B ⟨k, v, t, s⟩ :=
  Arr.set h 1 (by decide) _ rfl (fun j hj hn => by
    obtain rfl | rfl | rfl | rfl : j = 0 ∨ j = 1 ∨ j = 2 ∨ j = 3 := by omega
    all_goals first | rfl | exact absurd rfl hn)
theorem itAt_set2 {w : World} {B : Nat} {k f t s : Int} (h : ItAt w B ⟨k, f, t, s⟩) (v : Int) : ItAt (w.setCell ⟨B, 2, none⟩ (.int .i64 v)) B ⟨k, f, v, s⟩ :=
  Arr.set h 2 (by decide) _ rfl (fun j hj hn => by
    obtain rfl | rfl | rfl | rfl : j = 0 ∨ j = 1 ∨ j = 2 ∨ j = 3 := by omega
    all_goals first | rfl | exact absurd rfl hn)
theorem itAt_set3 {w : World} {B : Nat} {k f t s : Int} (h : ItAt w B ⟨k, f, t, s⟩) (v : Int) : ItAt (w.setCell ⟨B, 3, none⟩ (.int .i64 v)) B ⟨k, f, t, v⟩ :=
  Arr.set h 3 (by decide) _ rfl (fun j hj hn => by
    obtain rfl | rfl | rfl | rfl : j = 0 ∨ j = 1 ∨ j = 2 ∨ j = 3 := by omega
    all_goals first | rfl | exact absurd rfl hn)
end Go.Proofs.YtgliminiiciflaaDoor
