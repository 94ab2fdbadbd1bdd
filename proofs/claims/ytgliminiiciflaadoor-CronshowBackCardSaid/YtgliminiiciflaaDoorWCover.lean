/- The walks of cover: may, first, Len, Of. -/
import Derived.Test.YtgliminiiciflaaDoorAid2
namespace Go.Proofs.YtgliminiiciflaaDoor
open Go.RowKit
set_option linter.unusedSimpArgs false
set_option linter.unusedVariables false

theorem wrap64_of {x : Int} (h0 : -9223372036854775808 ≤ x) (h1 : x ≤ 9223372036854775807) : IntKind.i64.wrap x = x := by
  simp [IntKind.wrap, IntKind.bits, IntKind.signed]; omega

/-- Numbers that may be told as pieces: each of 0 .. 9999, rising. -/
def mayC : Option Int → List Int → Bool
  | _, [] => true
  | p, x :: l => decide (0 ≤ x ∧ x ≤ 9999 ∧ ∀ y, p = some y → y < x) && mayC (some x) l
def prevC (l : List Int) : Nat → Option Int
  | 0 => none
  | k + 1 => l[k]?
theorem drop_at {α : Type} {l : List α} {k : Nat} {x : α} (h : l[k]? = some x) : l.drop k = x :: l.drop (k + 1) := by
  obtain ⟨h1, h2⟩ := List.getElem?_eq_some_iff.1 h
  rw [List.drop_eq_getElem_cons h1, h2]

/-- A piece. -/
structure Pc where
  f : Int
  t : Int
  s : Int
  deriving DecidableEq
def pcEnc (p : Pc) : List Value := [.int .i64 p.f, .int .i64 p.t, .int .i64 p.s]
theorem pcEnc_len (p : Pc) : (pcEnc p).length = 3 := rfl
abbrev pcV (p : Pc) : Value := .agg #[.int .i64 p.f, .int .i64 p.t, .int .i64 p.s]
abbrev RdPcs (w : World) (A : Option Addr) (n : Nat) (l : List Pc) : Prop := Rd 3 pcEnc w A n l
theorem RdPcs.at_ {w : World} {A : Option Addr} {n : Nat} {l : List Pc} (h : RdPcs w A n l) {i : Nat} (hi : i < n) :
    ∃ b o p, A = some ⟨b, o, none⟩ ∧ b < w.heap.size ∧ l[i]? = some p ∧ w.cell? ⟨b, o + i * 3, none⟩ = some (.int .i64 p.f) ∧ w.cell? ⟨b, o + i * 3 + 1, none⟩ = some (.int .i64 p.t) ∧
    w.cell? ⟨b, o + i * 3 + 2, none⟩ = some (.int .i64 p.s) := by
  obtain ⟨b, o, it, e, hlt, hl, hc⟩ := h.gen hi
  exact ⟨b, o, it, e, hlt, hl, hc 0 _ rfl, hc 1 _ rfl, hc 2 _ rfl⟩

/-- How many more follow, each s above the one ahead. -/
def runC (s : Int) : Int → List Int → Nat
  | _, [] => 0
  | a, b :: l => if b - a = s then runC s b l + 1 else 0
def stepC (a : Int) : List Int → Int
  | [] => 1
  | b :: _ => b - a
def manyC (a : Int) (l : List Int) : Nat := runC (stepC a l) a l + 1
theorem runC_le (s a : Int) (l : List Int) : runC s a l ≤ l.length := by
  induction l generalizing a with
  | nil => simp [runC]
  | cons b l ih => simp only [runC]; split <;> simp [ih]
/-- The first piece, and how many numbers it has. -/
def pieceC (a : Int) (l : List Int) : Pc × Nat := if manyC a l = 1 ∨ manyC a l = 2 ∧ 1 < stepC a l then (⟨a, a, 1⟩, 1) else (⟨a, (a :: l).getD (manyC a l - 1) 0, stepC a l⟩, manyC a l)

/-- The numbers of a list are of 0 .. 9999. -/
def InC (l : List Int) : Prop := ∀ (j : Nat) x, l[j]? = some x → 0 ≤ x ∧ x ≤ 9999

end Go.Proofs.YtgliminiiciflaaDoor
