/- Slices of numbers and of weekdays: ContainsFunc, Contains; what is wrong with a rule's lists. -/
import Derived.Test.YtochhmkdhdadhaaGreatWMoB
import Derived.Shelf.Abstract
import Derived.Deep.LoopGhost
namespace Go.Proofs.YtochhmkdhdadhaaGreat
open Go.RowKit
set_option linter.unusedSimpArgs false
set_option linter.unusedVariables false

def nthEnc (p : Int × Int) : List Value := [.int .i64 p.1, .int .i64 p.2]
theorem nthEnc_len (p : Int × Int) : (nthEnc p).length = 2 := rfl
/-- A slice of weekdays reads as a list. -/
abbrev RdNths (w : World) (A : Option Addr) (n : Nat) (l : List (Int × Int)) : Prop := Rd 2 nthEnc w A n l
theorem RdNths.at_ {w : World} {A : Option Addr} {n : Nat} {l : List (Int × Int)} (h : RdNths w A n l) {i : Nat} (hi : i < n) :
    ∃ b o x, A = some ⟨b, o, none⟩ ∧ b < w.heap.size ∧ l[i]? = some x ∧ w.cell? ⟨b, o + i * 2, none⟩ = some (.int .i64 x.1) ∧ w.cell? ⟨b, o + i * 2 + 1, none⟩ = some (.int .i64 x.2) := by
  obtain ⟨b, o, x, e, hlt, hl, hc⟩ := h.gen hi
  exact ⟨b, o, x, e, hlt, hl, hc 0 _ rfl, hc 1 _ rfl⟩
section
variable {α : Type} {p : α → Bool} {l : List α} {k : Nat} {x : α}
/-- The place of the first of which p holds; -1. -/
def idxG (p : α → Bool) (l : List α) : Int := match l.findIdx? p with | some i => i | none => -1
theorem idxG_hit (H : ∀ j it, j < k → l[j]? = some it → p it = false) (hx : l[k]? = some x) (h : p x = true) : idxG p l = k := by
  have hk := (List.getElem?_eq_some_iff.1 hx)
  have : l.findIdx? p = some k := by
    rw [List.findIdx?_eq_some_iff_getElem]
    refine ⟨hk.1, by rw [hk.2]; exact h, fun j hj => by
      rw [Bool.not_eq_true]
      exact H j _ hj (List.getElem?_eq_getElem (Nat.lt_trans hj hk.1))⟩
  simp [idxG, this]
theorem idxG_miss (H : ∀ j it, j < l.length → l[j]? = some it → p it = false) : idxG p l = -1 := by
  have : l.findIdx? p = none := by
    rw [List.findIdx?_eq_none_iff]
    intro x hx
    obtain ⟨j, hj⟩ := List.getElem?_of_mem hx
    exact H j x (List.getElem?_eq_some_iff.1 hj).1 hj
  simp [idxG, this]
theorem idxG_any (p : α → Bool) (l : List α) : decide (0 ≤ idxG p l) = l.any p := by
  unfold idxG
  cases h : l.findIdx? p with
  | none =>
    rw [List.findIdx?_eq_none_iff] at h
    have : l.any p = false := by rw [List.any_eq_false]; intro x hx; simp [h x hx]
    simp [this]
  | some i =>
    rw [List.findIdx?_eq_some_iff_getElem] at h
    obtain ⟨hi, hp, _⟩ := h
    have : l.any p = true := by rw [List.any_eq_true]; exact ⟨_, List.getElem_mem hi, hp⟩
    simp [this]
theorem allG_succ {b : Bool} (H : ∀ j it, j < k → l[j]? = some it → p it = b) (hx : l[k]? = some x) (h : p x = b) : ∀ j it, j < k + 1 → l[j]? = some it → p it = b := by
  intro j it hj hl
  rcases Nat.lt_or_ge j k with h1 | h1
  · exact H j it h1 hl
  · obtain rfl : j = k := by omega
    rw [hx] at hl; cases hl
    exact h
end

/-- A predicate's contract. -/
def PredI (g : Nat) (lb : Array Value) (p : Int → Bool) (w : World) : Prop :=
  ∀ (W : World) (x : Int), Below w.heap.size w W → Calls Tryz.prog g (#[.int .i64 x] ++ lb) W (Ret (.bool (p x)) W)
/-- A predicate's contract. -/
def PredN (g : Nat) (lb : Array Value) (p : Int × Int → Bool) (w : World) : Prop :=
  ∀ (W : World) (x : Int × Int), Below w.heap.size w W → Calls Tryz.prog g (#[.agg #[.int .i64 x.1, .int .i64 x.2]] ++ lb) W (Ret (.bool (p x)) W)
/-- Are numbers not all from lo to hi? -/
def outC (lo hi x : Int) : Bool := decide (x < lo ∨ hi < x)
/-- What is wrong with a list of numbers. -/
def listE (l : List Int) (lo hi : Int) : Int := if 64 < l.length then 5 else if l.any (outC lo hi) = true then 4 else 0
/-- How many numbers of a list are below, above, and nought. -/
def cntB (l : List Int) : Nat := l.countP fun x => decide (x < 0)
def cntA (l : List Int) : Nat := l.countP fun x => decide (0 < x)
def cntZ (l : List Int) : Nat := l.countP fun x => decide (x = 0)
def mixC (l : List Int) : Bool := (decide (0 < cntB l) && decide (0 < cntA l + cntZ l)) || (decide (0 < cntA l) && decide (0 < cntZ l))
theorem cnt_le (l : List Int) : cntB l ≤ l.length ∧ cntA l ≤ l.length ∧ cntZ l ≤ l.length := ⟨List.countP_le_length, List.countP_le_length, List.countP_le_length⟩
theorem cnt_take {p : Int → Bool} {l : List Int} {k : Nat} {x : Int} (hx : l[k]? = some x) : (l.take (k + 1)).countP p = (l.take k).countP p + if p x then 1 else 0 := by
  rw [List.take_add_one, hx, List.countP_append]
  simp [List.countP_cons]
end Go.Proofs.YtochhmkdhdadhaaGreat
