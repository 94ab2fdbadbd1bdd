/- The walks of Go's package slices at items. -/
import Derived.Test.YtpfcgjneeboamaaDoorRows
import Derived.Test.YtpfcgjneeboamaaDoorWArr
import Derived.Shelf.Abstract
namespace Go.Proofs.YtpfcgjneeboamaaDoor
open Go.RowKit
set_option linter.unusedSimpArgs false
set_option linter.unusedVariables false
def sameIts (l r : List It) : Bool := decide (l = r)
def itEq (a b : It) : Bool := decide (a = b)
def itNe (a b : It) : Bool := !itEq a b
theorem itEq_def (a b : It) : itEq a b = (decide (a.k = b.k) && (decide (a.f = b.f) && (decide (a.t = b.t) && decide (a.s = b.s)))) := by
  cases a; cases b
  simp [itEq]
theorem eql_it (a b : It) (w : World) : (binOp .eql 34 (.agg #[.int .i64 a.k, .int .i64 a.f, .int .i64 a.t, .int .i64 a.s]) (.agg #[.int .i64 b.k, .int .i64 b.f, .int .i64 b.t, .int .i64 b.s])).run Tryd.prog w = .ok (.bool (itEq a b)) w := by
  rw [run_eql_struct, itEq_def]
  by_cases h1 : a.k = b.k <;> by_cases h2 : a.f = b.f <;> by_cases h3 : a.t = b.t <;> by_cases h4 : a.s = b.s <;> simp [go_sem, h1, h2, h3, h4]
theorem neq_it (a b : It) (w : World) : (binOp .neq 34 (.agg #[.int .i64 a.k, .int .i64 a.f, .int .i64 a.t, .int .i64 a.s]) (.agg #[.int .i64 b.k, .int .i64 b.f, .int .i64 b.t, .int .i64 b.s])).run Tryd.prog w = .ok (.bool (itNe a b)) w := by
  rw [run_neq_struct, itNe, itEq_def]
  by_cases h1 : a.k = b.k <;> by_cases h2 : a.f = b.f <;> by_cases h3 : a.t = b.t <;> by_cases h4 : a.s = b.s <;> simp [go_sem, h1, h2, h3, h4]
theorem itNe_true {a b : It} (h : itNe a b = true) : a ≠ b := by simpa [itNe, itEq] using h
theorem itNe_false {a b : It} (h : itNe a b = false) : a = b := by simpa [itNe, itEq] using h

theorem sameIts_len {l r : List It} (h : l.length ≠ r.length) : sameIts l r = false := by
  simp only [sameIts, decide_eq_false_iff_not]; rintro rfl; exact h rfl
theorem sameIts_ne {l r : List It} {k : Nat} {a b : It} (ha : l[k]? = some a) (hb : r[k]? = some b) (h : a ≠ b) : sameIts l r = false := by
  simp only [sameIts, decide_eq_false_iff_not]; rintro rfl
  rw [ha] at hb; exact h (Option.some.inj hb)
theorem take_same {l r : List It} {k : Nat} {a b : It} (ht : l.take k = r.take k) (ha : l[k]? = some a) (hb : r[k]? = some b) (h : a = b) : l.take (k + 1) = r.take (k + 1) := by
  rw [List.take_add_one, List.take_add_one, ha, hb, ht, h]

set_option maxHeartbeats 400000 in
theorem rsame_any (A B : Option Addr) (n m c d : Nat) (l r : List It) (w : World) (hA : RdIts w A n l) (hB : RdIts w B m r) (hn : n ≤ 9223372036854775807) (hm : m ≤ 9223372036854775807) :
    Calls Tryd.prog 25 #[.slice A n c, .slice B m d] w (RetN (.bool (sameIts l r)) w) := by
  by_cases hnm : n = m
  · have HL : Hid (l.length = n) := hA.1
    have HR : Hid (r.length = n) := hnm ▸ hB.1
    subst hnm
    go_enter Tryd.func25, Tryd.ntmps25
    go_wp2
    go_loopw [5] (fun i wr => ∃ k j : Nat, k ≤ n ∧ i = .int .i64 k ∧ Hid (l.take k = r.take k) ∧ wr = w.drewN j) (fun i _ => n - (intOf i).toNat)
    case atStart => exact ⟨0, 0, Nat.zero_le _, rfl, by simp [Hid], rfl⟩
    case round =>
      obtain ⟨k, j, hk, rfl, htk, rfl⟩ := hrel
      by_cases hlt : k < n
      · obtain ⟨b, o, it, rfl, _, hi, c0, c1, c2, c3⟩ := RdIts.at_ hA hlt
        obtain ⟨b', o', it', rfl, _, hi', c0', c1', c2', c3'⟩ := RdIts.at_ hB hlt
        have Hi := Lib.hid hi
        have Hi' := Lib.hid hi'
        have hlt' : (k : Int) < (n : Int) := by omega
        have hne := neq_it it it'
        clear hi hi'
        go_wp2
        go_quiet (fail)
        go_wp2
        · go_ret
          have h : itNe it it' = true := by assumption
          exact ⟨ret_bool (sameIts_ne Hi.out Hi'.out (itNe_true h)).symm, _, World.drewN_drewN ..⟩
        · have h : itNe it it' = false := by assumption
          go_roundw
          case rel => exact ⟨k + 1, _, by omega, by go_num, take_same htk.out Hi.out Hi'.out (itNe_false h), rfl⟩
          case measure => simp [intOf]; omega
      · obtain rfl : k = n := by omega
        go_wp2
        go_ret
        refine ⟨ret_bool ?_, _, rfl⟩
        have h1 : l = r := by
          have := htk.out
          rwa [List.take_of_length_le (by have := HL.out; omega), List.take_of_length_le (by have := HR.out; omega)] at this
        simp [sameIts, h1]
  · have hne : ((n : Int) == (m : Int)) = false := by simp; omega
    have hne2 : ((n : Int) != (m : Int)) = true := by simp; omega
    have HS : Hid (sameIts l r = false) := sameIts_len (by rw [hA.1, hB.1]; exact hnm)
    go_enter Tryd.func25, Tryd.ntmps25
    go_wp2
    go_ret
    exact ⟨ret_bool HS.out.symm, 0, rfl⟩
end Go.Proofs.YtpfcgjneeboamaaDoor

namespace Go.Proofs.YtpfcgjneeboamaaDoor
open Go.RowKit
set_option linter.unusedSimpArgs false
set_option linter.unusedVariables false

/-- A predicate on items: whatever has been laid since, the call hands back p, and nothing that lay there has turned. -/
def PredIt (g : Nat) (lb : Array Value) (p : It → Bool) (w : World) : Prop :=
  ∀ (W : World) (x : It), Below w.heap.size w W → Calls Tryd.prog g (#[.agg #[.int .i64 x.k, .int .i64 x.f, .int .i64 x.t, .int .i64 x.s]] ++ lb) W (Ret (.bool (p x)) W)

/-- The place of the first of which p holds; -1. -/
def idxOf (p : It → Bool) (l : List It) : Int := match l.findIdx? p with | some i => i | none => -1
theorem idxOf_hit {p : It → Bool} {l : List It} {k : Nat} {x : It} (H : ∀ j it, j < k → l[j]? = some it → p it = false) (hx : l[k]? = some x) (h : p x = true) : idxOf p l = k := by
  have hk := (List.getElem?_eq_some_iff.1 hx)
  have : l.findIdx? p = some k := by
    rw [List.findIdx?_eq_some_iff_getElem]
    refine ⟨hk.1, by rw [hk.2]; exact h, fun j hj => by
      rw [Bool.not_eq_true]
      exact H j _ hj (List.getElem?_eq_getElem (Nat.lt_trans hj hk.1))⟩
  simp [idxOf, this]
theorem idxOf_miss {p : It → Bool} {l : List It} (H : ∀ j it, j < l.length → l[j]? = some it → p it = false) : idxOf p l = -1 := by
  have : l.findIdx? p = none := by
    rw [List.findIdx?_eq_none_iff]
    intro x hx
    obtain ⟨j, hj⟩ := List.getElem?_of_mem hx
    exact H j x (List.getElem?_eq_some_iff.1 hj).1 hj
  simp [idxOf, this]
theorem idxOf_any (p : It → Bool) (l : List It) : decide (0 ≤ idxOf p l) = l.any p := by
  unfold idxOf
  cases h : l.findIdx? p with
  | none =>
    rw [List.findIdx?_eq_none_iff] at h
    have : l.any p = false := by rw [List.any_eq_false]; intro x hx; simp [h x hx]
    simp [this]
  | some i =>
    rw [List.findIdx?_eq_some_iff_getElem] at h
    obtain ⟨hi, hp, _⟩ := h
    have : l.any p = true := by rw [List.any_eq_true]; exact ⟨_, List.getElem_mem hi, hp⟩
    simp [this]

end Go.Proofs.YtpfcgjneeboamaaDoor
