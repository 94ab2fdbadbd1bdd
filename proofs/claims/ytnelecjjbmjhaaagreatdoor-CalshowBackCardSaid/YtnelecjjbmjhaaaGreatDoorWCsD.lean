/- The walks of feriaref28.Field, feriaref30.Field. -/
import Derived.Test.YtnelecjjbmjhaaaGreatDoorWCsC
import Derived.Test.YtnelecjjbmjhaaaGreatDoorWCalS
import Derived.Test.YtnelecjjbmjhaaaGreatDoorWShow6
namespace Go.Proofs.YtnelecjjbmjhaaaGreatDoor
open Go.RowKit
set_option linter.unusedSimpArgs false
set_option linter.unusedVariables false

/-- The text of a field's items. -/
def cfT (f : Int) (l : List It) : List UInt8 := Lib.join (l.map (citT f)) [44]
theorem cfT_take {f : Int} {l : List It} {k : Nat} {it : It} (hx : l[k]? = some it) : cfT f (l.take (k + 1)) = (if k = 0 then [] else cfT f (l.take k) ++ [44]) ++ citT f it := by
  have hkl : k < l.length := (List.getElem?_eq_some_iff.1 hx).1
  unfold cfT
  rw [List.take_add_one, hx, Option.toList_some, List.map_append, List.map_cons, List.map_nil, join_snoc]
  by_cases h0 : k = 0
  · subst h0; simp
  · have : (l.take k).map (citT f) ≠ [] := by
      intro e
      have := congrArg List.length e
      rw [List.length_map, List.length_take_of_le (by omega), List.length_nil] at this
      exact h0 this
    rw [if_neg this, if_neg h0]
theorem cfT_len {f : Int} {l : List It} (h : ∀ it ∈ l, it.wf) : (cfT f l).length ≤ l.length * 101 := by
  have := join_len (l.map (citT f)) [44] 100 (fun x hx => by
    obtain ⟨it, hi, rfl⟩ := List.mem_map.1 hx
    exact citT_len (h it hi))
  unfold cfT
  simpa using this
theorem cfT_take_len {f : Int} {l : List It} (h : ∀ it ∈ l, it.wf) (k : Nat) (hk : k ≤ l.length) (hl : l.length ≤ 1000) : (cfT f (l.take k)).length ≤ 101000 := by
  have := cfT_len (f := f) (l := l.take k) (fun it hi => h it (List.mem_of_mem_take hi))
  rw [List.length_take_of_le hk] at this
  omega
set_option maxHeartbeats 2000000 in
theorem rfield28_in (k : Nat) (hk : k < 7) (A : Nat → Option Addr) (n m : Nat → Nat) (bk : Bool) (w : World) : Calls Tryz.prog 53 #[evV A n m bk, .int .i64 k] w (Ret (.slice (A (kslot k)) (n (kslot k)) (m (kslot k))) w) := by
  unfold evV
  obtain rfl | rfl | rfl | rfl | rfl | rfl | rfl : k = 0 ∨ k = 1 ∨ k = 2 ∨ k = 3 ∨ k = 4 ∨ k = 5 ∨ k = 6 := by omega
  all_goals
    go_enter Tryz.func53, Tryz.ntmps53
    go_wp2
    go_ret
    exact ⟨rfl, by (repeat' (first | (with_reducible exact Below.refl _ _) | (with_reducible assumption) | (with_reducible refine below_drewN ?_ _) | (with_reducible refine Below.alloc ?_ ?_ _) | (with_reducible refine Below.drew ?_) | (with_reducible refine Below.setCell ?_ ?_ _) | go_size))⟩
end Go.Proofs.YtnelecjjbmjhaaaGreatDoor
