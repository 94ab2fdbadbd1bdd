/- The text of an item, a field and a line of a crontab: plain. -/
import Derived.Test.YtochhmkdhdadhaaGreatWArr
import Derived.Lib.ItoaLen
import Derived.Lib.Join
namespace Go.Proofs.YtochhmkdhdadhaaGreat
open Go.RowKit
set_option linter.unusedSimpArgs false
set_option linter.unusedVariables false
open Go.Proofs.YtochhmkdhdadhaaGreat

theorem itoa_le {n : Int} (h : -9223372036854775808 ≤ n ∧ n ≤ 9223372036854775807) : (Lib.itoa n).length ≤ 21 := Lib.itoa_length_le n h.1 h.2
def stT (s : Int) : List UInt8 := if s = 1 then [] else 47 :: Lib.itoa s
/-- An item's text. -/
def itemT (i : It) : List UInt8 := if i.k = 0 then 42 :: stT i.s else if i.k = 1 then Lib.itoa i.f else if i.k = 2 then Lib.itoa i.f ++ 45 :: (Lib.itoa i.t ++ stT i.s) else []
/-- The text of a field. -/
def fieldT (l : List It) : List UInt8 := Lib.join (l.map itemT) [44]
theorem fieldT_cons (i : It) (l : List It) : fieldT (i :: l) = itemT i ++ (if l = [] then [] else 44 :: fieldT l) := by
  unfold fieldT
  rw [List.map_cons, Lib.join_cons]
  cases l with
  | nil => rfl
  | cons j l =>
    rw [if_neg (by simp), List.map_cons, Lib.join_cons]
    simp [Lib.joinTail]
/-- The text of a line. -/
def lineT (r : List (List It)) : List UInt8 := Lib.join (r.map fieldT) [32]
theorem lineT_cons (is : List It) (r : List (List It)) : lineT (is :: r) = fieldT is ++ (if r = [] then [] else 32 :: lineT r) := by
  unfold lineT
  rw [List.map_cons, Lib.join_cons]
  cases r with
  | nil => rfl
  | cons j l =>
    rw [if_neg (by simp), List.map_cons, Lib.join_cons]
    simp [Lib.joinTail]
/-- Texts, one behind the other, a sign between each two: one more. -/
theorem join_snoc (l : List (List UInt8)) (x sep : List UInt8) : Lib.join (l ++ [x]) sep = if l = [] then x else Lib.join l sep ++ sep ++ x := by
  cases l with
  | nil => simp [Lib.join, List.intercalate]
  | cons a l =>
    rw [if_neg (by simp), List.cons_append, Lib.join_cons, Lib.join_cons]
    simp [Lib.joinTail, List.append_assoc]
theorem join_len (l : List (List UInt8)) (sep : List UInt8) (n : Nat) (h : ∀ x ∈ l, x.length ≤ n) : (Lib.join l sep).length ≤ l.length * (n + sep.length) := by
  cases l with
  | nil => simp [Lib.join, List.intercalate]
  | cons a l =>
    rw [Lib.join_cons]
    have ha := h a (by simp)
    have : (Lib.joinTail sep l).length ≤ l.length * (n + sep.length) := by
      have hl : ∀ x ∈ l, x.length ≤ n := fun x hx => h x (List.mem_cons_of_mem _ hx)
      clear h
      unfold Lib.joinTail
      induction l with
      | nil => simp
      | cons b l ih =>
        have := ih (fun x hx => hl x (List.mem_cons_of_mem _ hx))
        have hb := hl b (by simp)
        simp only [List.map_cons, List.flatten_cons, List.length_append, List.length_cons, Nat.succ_mul]
        omega
    simp only [List.length_append, List.length_cons, Nat.succ_mul]
    omega
/-- The five fields, one behind the other. -/
def rowsOf (l : Nat → List It) : List (List It) := (List.range 5).map l
theorem rowsOf_eq (l : Nat → List It) : rowsOf l = [l 0, l 1, l 2, l 3, l 4] := rfl
theorem lineT_take {l : Nat → List It} {k : Nat} (hk : k < 5) : lineT ((rowsOf l).take (k + 1)) = (if k = 0 then [] else lineT ((rowsOf l).take k) ++ [32]) ++ fieldT (l k) := by
  have hx : (rowsOf l)[k]? = some (l k) := by unfold rowsOf; rw [List.getElem?_map, List.getElem?_range hk]; rfl
  rw [List.take_add_one, hx]
  unfold lineT
  rw [show (some (l k)).toList = [l k] from rfl, List.map_append, List.map_cons, List.map_nil, join_snoc]
  by_cases h0 : k = 0
  · subst h0; simp
  · have hl : (rowsOf l).length = 5 := rfl
    rw [if_neg h0, if_neg (by intro h; rw [List.map_eq_nil_iff, List.take_eq_nil_iff] at h; rcases h with h | h; (· omega); rw [h] at hl; simp at hl)]
end Go.Proofs.YtochhmkdhdadhaaGreat
