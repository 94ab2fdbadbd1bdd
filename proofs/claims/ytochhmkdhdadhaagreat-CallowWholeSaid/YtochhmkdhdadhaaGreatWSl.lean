/- The walks of Go's package slices at items. -/
import Derived.Test.YtochhmkdhdadhaaGreatRows
import Derived.Test.YtochhmkdhdadhaaGreatWArr
import Derived.Shelf.Abstract
namespace Go.Proofs.YtochhmkdhdadhaaGreat
open Go.RowKit
set_option linter.unusedSimpArgs false
set_option linter.unusedVariables false
def sameIts (l r : List It) : Bool := decide (l = r)
def itEq (a b : It) : Bool := decide (a = b)
def itNe (a b : It) : Bool := !itEq a b
theorem itEq_def (a b : It) : itEq a b = (decide (a.k = b.k) && (decide (a.f = b.f) && (decide (a.t = b.t) && decide (a.s = b.s)))) := by
  cases a; cases b
  simp [itEq]
theorem eql_it (a b : It) (w : World) : (binOp .eql 59 (.agg #[.int .i64 a.k, .int .i64 a.f, .int .i64 a.t, .int .i64 a.s]) (.agg #[.int .i64 b.k, .int .i64 b.f, .int .i64 b.t, .int .i64 b.s])).run Tryz.prog w = .ok (.bool (itEq a b)) w := by
  rw [run_eql_struct, itEq_def]
  by_cases h1 : a.k = b.k <;> by_cases h2 : a.f = b.f <;> by_cases h3 : a.t = b.t <;> by_cases h4 : a.s = b.s <;> simp [go_sem, h1, h2, h3, h4]
theorem neq_it (a b : It) (w : World) : (binOp .neq 59 (.agg #[.int .i64 a.k, .int .i64 a.f, .int .i64 a.t, .int .i64 a.s]) (.agg #[.int .i64 b.k, .int .i64 b.f, .int .i64 b.t, .int .i64 b.s])).run Tryz.prog w = .ok (.bool (itNe a b)) w := by
  rw [run_neq_struct, itNe, itEq_def]
  by_cases h1 : a.k = b.k <;> by_cases h2 : a.f = b.f <;> by_cases h3 : a.t = b.t <;> by_cases h4 : a.s = b.s <;> simp [go_sem, h1, h2, h3, h4]
theorem itNe_true {a b : It} (h : itNe a b = true) : a ≠ b := by simpa [itNe, itEq] using h
theorem itNe_false {a b : It} (h : itNe a b = false) : a = b := by simpa [itNe, itEq] using h

theorem sameIts_len {l r : List It} (h : l.length ≠ r.length) : sameIts l r = false := by
  simp only [sameIts, decide_eq_false_iff_not]; rintro rfl; exact h rfl
theorem sameIts_ne {l r : List It} {k : Nat} {a b : It} (ha : l[k]? = some a) (hb : r[k]? = some b) (h : a ≠ b) : sameIts l r = false := by
  simp only [sameIts, decide_eq_false_iff_not]; rintro rfl
  rw [ha] at hb; exact h (Option.some.inj hb)
theorem take_same {l r : List It} {k : Nat} {a b : It} (ht : l.take k = r.take k) (ha : l[k]? = some a) (hb : r[k]? = some b) (h : a = b) : l.take (k + 1) = r.take (k + 1) := by
  rw [List.take_add_one, List.take_add_one, ha, hb, ht, h]

end Go.Proofs.YtochhmkdhdadhaaGreat

namespace Go.Proofs.YtochhmkdhdadhaaGreat
open Go.RowKit
set_option linter.unusedSimpArgs false
set_option linter.unusedVariables false

/-- A predicate on items: whatever has been laid since, the call hands back p, and nothing that lay there has turned. -/
def PredIt (g : Nat) (lb : Array Value) (p : It → Bool) (w : World) : Prop :=
  ∀ (W : World) (x : It), Below w.heap.size w W → Calls Tryz.prog g (#[.agg #[.int .i64 x.k, .int .i64 x.f, .int .i64 x.t, .int .i64 x.s]] ++ lb) W (Ret (.bool (p x)) W)

/-- The place of the first of which p holds; -1. -/
def idxOf (p : It → Bool) (l : List It) : Int := match l.findIdx? p with | some i => i | none => -1
theorem idxOf_hit {p : It → Bool} {l : List It} {k : Nat} {x : It} (H : ∀ j it, j < k → l[j]? = some it → p it = false) (hx : l[k]? = some x) (h : p x = true) : idxOf p l = k := by
  have hk := (List.getElem?_eq_some_iff.1 hx)
  have : l.findIdx? p = some k := by
    rw [List.findIdx?_eq_some_iff_getElem]
    refine ⟨hk.1, by rw [hk.2]; exact h, fun j hj => by
      rw [Bool.not_eq_true]
      exact H j _ hj (List.getElem?_eq_getElem (Nat.lt_trans hj hk.1))⟩
  simp [idxOf, this]
theorem idxOf_miss {p : It → Bool} {l : List It} (H : ∀ j it, j < l.length → l[j]? = some it → p it = false) : idxOf p l = -1 := by
  have : l.findIdx? p = none := by
    rw [List.findIdx?_eq_none_iff]
    intro x hx
    obtain ⟨j, hj⟩ := List.getElem?_of_mem hx
    exact H j x (List.getElem?_eq_some_iff.1 hj).1 hj
  simp [idxOf, this]
theorem idxOf_any (p : It → Bool) (l : List It) : decide (0 ≤ idxOf p l) = l.any p := by
  unfold idxOf
  cases h : l.findIdx? p with
  | none =>
    rw [List.findIdx?_eq_none_iff] at h
    have : l.any p = false := by rw [List.any_eq_false]; intro x hx; simp [h x hx]
    simp [this]
  | some i =>
    rw [List.findIdx?_eq_some_iff_getElem] at h
    obtain ⟨hi, hp, _⟩ := h
    have : l.any p = true := by rw [List.any_eq_true]; exact ⟨_, List.getElem_mem hi, hp⟩
    simp [this]

set_option maxHeartbeats 400000 in
theorem indexFunc_any (A : Option Addr) (n c : Nat) (l : List It) (g : Nat) (lb : Array Value) (p : It → Bool) (w : World) (hA : RdIts w A n l) (hn : n ≤ 9223372036854775807)
    (eg : ∀ args w, (callFunc g args).run Tryz.prog w = .ok (.enter g args) w) (hp : PredIt g lb p w) :
    Calls Tryz.prog 118 #[.slice A n c, .func (.func g) #[] lb] w (Ret (.int .i64 (idxOf p l)) w) := by
  have HL : Hid (l.length = n) := hA.1
  go_enter Tryz.func118, Tryz.ntmps118
  go_wp2
  go_loopw [8] (fun i wr => ∃ k : Nat, k ≤ n ∧ i = .int .i64 k ∧ Hid (∀ j it, j < k → l[j]? = some it → p it = false) ∧ Below w.heap.size w wr) (fun i _ => n - (intOf i).toNat)
  case atStart => exact ⟨0, Nat.zero_le _, rfl, fun j _ h => absurd h (Nat.not_lt_zero _), Below.refl _ _⟩
  case round =>
    obtain ⟨k, hk, rfl, H, hb⟩ := hrel
    have hsz := hb.size
    by_cases hlt : k < n
    · obtain ⟨b, o, it, rfl, hbl, hx, c0, c1, c2, c3⟩ := RdIts.at_ (hA.below hb (Nat.le_refl _)) hlt
      have hlt' : (k : Int) < (n : Int) := by omega
      have Hx := Lib.hid hx
      clear hx
      have hcall := Lib.hid (hp wr it hb)
      clear hp
      cases hm : p it with
      | true =>
        have Hm := Lib.hid hm
        rw [hm] at hcall
        clear hm
        go_wp2_with (go_at_fn g; refine hcall.out.mono ?_; rintro e w1 ⟨rfl, hb1⟩)
        go_ret
        exact ⟨ret_int (idxOf_hit H.out Hx.out Hm.out).symm, bthen hb hb1 hsz⟩
      | false =>
        have Hm := Lib.hid hm
        rw [hm] at hcall
        clear hm
        go_wp2_with (go_at_fn g; refine hcall.out.mono ?_; rintro e w1 ⟨rfl, hb1⟩)
        go_roundw
        case rel => exact ⟨k + 1, by omega, by go_num, all_succ H.out Hx.out Hm.out, bthen hb hb1 hsz⟩
        case measure => simp [intOf]; omega
    · obtain rfl : k = n := by omega
      go_wp2
      go_ret
      exact ⟨ret_int (idxOf_miss (HL.out ▸ H.out)).symm, hb⟩

theorem containsFunc_any (A : Option Addr) (n c : Nat) (l : List It) (g : Nat) (lb : Array Value) (p : It → Bool) (w : World) (hA : RdIts w A n l) (hn : n ≤ 9223372036854775807)
    (eg : ∀ args w, (callFunc g args).run Tryz.prog w = .ok (.enter g args) w) (hp : PredIt g lb p w) :
    Calls Tryz.prog 85 #[.slice A n c, .func (.func g) #[] lb] w (Ret (.bool (l.any p)) w) := by
  have HC := Lib.hid (indexFunc_any A n c l g lb p w hA hn eg hp)
  rw [← idxOf_any]
  generalize idxOf p l = q at HC ⊢
  clear hp hA eg
  go_enter Tryz.func85, Tryz.ntmps85
  go_wp2_with (go_at_call 118; refine HC.out.mono ?_; rintro e w1 ⟨rfl, hb1⟩)
  go_ret
  exact ⟨rfl, hb1⟩

end Go.Proofs.YtochhmkdhdadhaaGreat
