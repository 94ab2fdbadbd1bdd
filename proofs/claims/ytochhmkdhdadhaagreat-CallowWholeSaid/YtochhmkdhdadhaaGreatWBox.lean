/- Words for results that lie in cells, and for blocks behind a reader's call. -/
import Derived.Test.YtochhmkdhdadhaaGreatRGoes
import Derived.Test.YtochhmkdhdadhaaGreatWArr
namespace Go.Proofs.YtochhmkdhdadhaaGreat
open Go.RowKit
set_option linter.unusedSimpArgs false
set_option linter.unusedVariables false

theorem Arr.chg {w w' : World} {b B m : Nat} {g : Nat → Value} (h : Arr w B m g) (hm : 0 < m) (hg : Chg b w w') (hne : B ≠ b) : Arr w' B m g :=
  ⟨fun j hj => hg.cell hne (h.1 j hj), fun j => hg.frozen hne (h.lt hm) (h.2 j)⟩
theorem results_cell2 {fn : Func} {p t u : Tmp} {ty : TypeId} (h : fn.results = #[.cell p ty, .tmp t, .tmp u]) (tmps : Array Value) (P : Program) (w : World) :
    (results fn tmps).run P w = ((asAddr (tmps.getD p undef)).run P w).andThen fun a w₁ => ((loadVar ty a).run P w₁).andThen fun v w₂ => .ok (.tuple #[v, tmps.getD t undef, tmps.getD u undef]) w₂ := by
  simp only [results, h]
  simp [Sem.run_bind, Result.andThen]
/-- An item's value. -/
abbrev itV (i : It) : Value := .agg #[.int .i64 i.k, .int .i64 i.f, .int .i64 i.t, .int .i64 i.s]
def itG (i : It) (j : Nat) : Value := .int .i64 (if j = 0 then i.k else if j = 1 then i.f else if j = 2 then i.t else i.s)
/-- An item in a block of its own. -/
abbrev ItAt (w : World) (B : Nat) (i : It) : Prop := Arr w B 4 (itG i)
theorem ItAt.cells {w : World} {B : Nat} {i : It} (h : ItAt w B i) : w.cell? ⟨B, 0, none⟩ = some (.int .i64 i.k) ∧ w.cell? ⟨B, 1, none⟩ = some (.int .i64 i.f) ∧ w.cell? ⟨B, 2, none⟩ = some (.int .i64 i.t) ∧ w.cell? ⟨B, 3, none⟩ = some (.int .i64 i.s) ∧ ∀ j, w.frozen? ⟨B, j, none⟩ = false :=
  ⟨h.1 0 (by decide), h.1 1 (by decide), h.1 2 (by decide), h.1 3 (by decide), h.2⟩
theorem itAt_new (w : World) (k f t s : Int) (ty : TypeId) : ItAt (w.alloc (.cells #[.int .i64 k, .int .i64 f, .int .i64 t, .int .i64 s] ty)) w.heap.size ⟨k, f, t, s⟩ :=
  arr_new w #[.int .i64 k, .int .i64 f, .int .i64 t, .int .i64 s] ty (itG ⟨k, f, t, s⟩) (by
    intro j hj
    obtain rfl | rfl | rfl | rfl : j = 0 ∨ j = 1 ∨ j = 2 ∨ j = 3 := by simp at hj; omega
    all_goals rfl)
theorem itAt_set0 {w : World} {B : Nat} {k f t s : Int} (h : ItAt w B ⟨k, f, t, s⟩) (v : Int) : ItAt (w.setCell ⟨B, 0, none⟩ (.int .i64 v)) B ⟨v, f, t, s⟩ :=
  Arr.set h 0 (by decide) _ rfl (fun j hj hn => by
    obtain rfl | rfl | rfl | rfl : j = 0 ∨ j = 1 ∨ j = 2 ∨ j = 3 := by omega
    all_goals first | rfl | exact absurd rfl hn)
theorem itAt_set2 {w : World} {B : Nat} {k f t s : Int} (h : ItAt w B ⟨k, f, t, s⟩) (v : Int) : ItAt (w.setCell ⟨B, 2, none⟩ (.int .i64 v)) B ⟨k, f, v, s⟩ :=
  Arr.set h 2 (by decide) _ rfl (fun j hj hn => by
    obtain rfl | rfl | rfl | rfl : j = 0 ∨ j = 1 ∨ j = 2 ∨ j = 3 := by omega
    all_goals first | rfl | exact absurd rfl hn)
theorem itAt_set3 {w : World} {B : Nat} {k f t s : Int} (h : ItAt w B ⟨k, f, t, s⟩) (v : Int) : ItAt (w.setCell ⟨B, 3, none⟩ (.int .i64 v)) B ⟨k, f, t, v⟩ :=
  Arr.set h 3 (by decide) _ rfl (fun j hj hn => by
    obtain rfl | rfl | rfl | rfl : j = 0 ∨ j = 1 ∨ j = 2 ∨ j = 3 := by omega
    all_goals first | rfl | exact absurd rfl hn)
theorem ItAt.alloc {w : World} {B : Nat} {i : It} (h : ItAt w B i) (o : Obj) : ItAt (w.alloc o) B i := Arr.alloc h (Arr.lt h (by decide)) o
theorem ItAt.chg {w w' : World} {B b : Nat} {i : It} (h : ItAt w B i) (hg : Chg b w w') (hne : ¬ B = b) : ItAt w' B i := Arr.chg h (by decide) hg hne
theorem RdP.set4 {w : World} {b R : Nat} {s : ByteArray} {σ : PS} (h : RdP w b s σ) (hR : R ≠ b) (v0 v1 v2 v3 : Value) : RdP ((((w.setCell ⟨R, 0, none⟩ v0).setCell ⟨R, 1, none⟩ v1).setCell ⟨R, 2, none⟩ v2).setCell ⟨R, 3, none⟩ v3) b s σ :=
  (((h.set hR v0).set hR v1).set hR v2).set hR v3
theorem Chg.set4 {w w' : World} {b R : Nat} (h : Chg b w w') (hR : w.heap.size ≤ R) (v0 v1 v2 v3 : Value) : Chg b w ((((w'.setCell ⟨R, 0, none⟩ v0).setCell ⟨R, 1, none⟩ v1).setCell ⟨R, 2, none⟩ v2).setCell ⟨R, 3, none⟩ v3) :=
  (((h.setNew hR).setNew hR).setNew hR).setNew hR
/-- A reader of an event's fields: its reader and its text. -/
abbrev kV (b : Nat) (s : ByteArray) : Value := .agg #[.pointer (some ⟨b, 0, none⟩), .string s]
/-- It lies in a block. -/
def KBox (w : World) (B b : Nat) (s : ByteArray) : Prop := w.cell? ⟨B, 0, none⟩ = some (.pointer (some ⟨b, 0, none⟩)) ∧ w.cell? ⟨B, 1, none⟩ = some (.string s)
section
variable {w w' : World} {B b : Nat} {s : ByteArray}
theorem KBox.lt (h : KBox w B b s) : B < w.heap.size := World.block_lt_of_cell? w _ h.1
theorem KBox.chg (h : KBox w B b s) (hg : Chg b w w') (hne : B ≠ b) : KBox w' B b s := ⟨hg.cell hne h.1, hg.cell hne h.2⟩
theorem KBox.below (h : KBox w B b s) (hb : Below w.heap.size w w') : KBox w' B b s := ⟨(hb.cell (p := ⟨B, 0, none⟩) h.lt).trans h.1, (hb.cell (p := ⟨B, 1, none⟩) h.lt).trans h.2⟩
theorem KBox.alloc (h : KBox w B b s) (o : Obj) : KBox (w.alloc o) B b s := h.below ((Below.refl _ _).alloc (Nat.le_refl _) _)
theorem KBox.set (h : KBox w B b s) {C o : Nat} (hne : C ≠ B) (v : Value) : KBox (w.setCell ⟨C, o, none⟩ v) B b s :=
  ⟨by rw [World.cell?_setCell_other _ _ _ _ (by intro e; injection e with e1; exact hne e1)]; exact h.1, by rw [World.cell?_setCell_other _ _ _ _ (by intro e; injection e with e1; exact hne e1)]; exact h.2⟩
theorem KBox.grown {row : Option Nat} (h : KBox w B b s) (hg : w.grownBy w' row) (hrow : row ≠ some B) : KBox w' B b s :=
  ⟨hg.cell h.1 (Ne.symm hrow), hg.cell h.2 (Ne.symm hrow)⟩
theorem kbox_new (w : World) (b : Nat) (s : ByteArray) (t : TypeId) : KBox (w.alloc (.cells #[.pointer (some ⟨b, 0, none⟩), .string s] t)) w.heap.size b s := ⟨cell_new rfl rfl, cell_new rfl rfl⟩
end
theorem ItAt.other3 {w : World} {B C o : Nat} {i : It} (h : ItAt w B i) (hne : ¬ C = B) (v : Value) : ItAt (w.setCell ⟨C, o, none⟩ v) B i := Arr.other h hne
theorem itAt_new2 (w : World) (b : Nat) (s : ByteArray) (t t' : TypeId) : ItAt ((w.alloc (.cells #[.pointer (some ⟨b, 0, none⟩), .string s] t)).alloc (.cells #[.int .i64 0, .int .i64 0, .int .i64 0, .int .i64 0] t')) (w.heap.size + 1) ⟨0, 0, 0, 0⟩ := by
  have := itAt_new (w.alloc (.cells #[.pointer (some ⟨b, 0, none⟩), .string s] t)) 0 0 0 0 t'
  simpa using this
theorem KBox.cells2 {w : World} {B b : Nat} {s : ByteArray} (h : KBox w B b s) : w.cell? ⟨B, 0, none⟩ = some (.pointer (some ⟨b, 0, none⟩)) ∧ w.cell? ⟨B, 1, none⟩ = some (.string s) := h
end Go.Proofs.YtochhmkdhdadhaaGreat
