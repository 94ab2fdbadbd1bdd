/- The walks of Go's package slices at items. -/
import Derived.Test.YthkleinjddkhoaaWSame
import Derived.Shelf.Abstract
namespace Go.Proofs.Ythkleinjddkhoaa
open Go.RowKit
set_option linter.unusedSimpArgs false
set_option linter.unusedVariables false

/-- A predicate on items: whatever has been laid since, the call hands back p, and nothing that lay there has turned. -/
def PredIt (g : Nat) (lb : Array Value) (p : It → Bool) (w : World) : Prop :=
  ∀ (W : World) (x : It), Below w.heap.size w W → Calls Try.prog g (#[.agg #[.int .i64 x.k, .int .i64 x.f, .int .i64 x.t, .int .i64 x.s]] ++ lb) W (Ret (.bool (p x)) W)

/-- The place of the first of which p holds; -1. -/
def idxOf (p : It → Bool) (l : List It) : Int := match l.findIdx? p with | some i => i | none => -1
theorem idxOf_hit {p : It → Bool} {l : List It} {k : Nat} {x : It} (H : ∀ j it, j < k → l[j]? = some it → p it = false) (hx : l[k]? = some x) (h : p x = true) : idxOf p l = k := by
  have hk := (List.getElem?_eq_some_iff.1 hx)
  have : l.findIdx? p = some k := by
    rw [List.findIdx?_eq_some_iff_getElem]
    refine ⟨hk.1, by rw [hk.2]; exact h, fun j hj => by
      rw [Bool.not_eq_true]
      exact H j _ hj (List.getElem?_eq_getElem (Nat.lt_trans hj hk.1))⟩
  simp [idxOf, this]
theorem idxOf_miss {p : It → Bool} {l : List It} (H : ∀ j it, j < l.length → l[j]? = some it → p it = false) : idxOf p l = -1 := by
  have : l.findIdx? p = none := by
    rw [List.findIdx?_eq_none_iff]
    intro x hx
    obtain ⟨j, hj⟩ := List.getElem?_of_mem hx
    exact H j x (List.getElem?_eq_some_iff.1 hj).1 hj
  simp [idxOf, this]
theorem idxOf_any (p : It → Bool) (l : List It) : decide (0 ≤ idxOf p l) = l.any p := by
  unfold idxOf
  cases h : l.findIdx? p with
  | none =>
    rw [List.findIdx?_eq_none_iff] at h
    have : l.any p = false := by rw [List.any_eq_false]; intro x hx; simp [h x hx]
    simp [this]
  | some i =>
    rw [List.findIdx?_eq_some_iff_getElem] at h
    obtain ⟨hi, hp, _⟩ := h
    have : l.any p = true := by rw [List.any_eq_true]; exact ⟨_, List.getElem_mem hi, hp⟩
    simp [this]

set_option maxHeartbeats 400000 in
theorem indexFunc_any (A : Option Addr) (n c : Nat) (l : List It) (g : Nat) (lb : Array Value) (p : It → Bool) (w : World) (hA : RdIts w A n l) (hn : n ≤ 9223372036854775807)
    (eg : ∀ args w, (callFunc g args).run Try.prog w = .ok (.enter g args) w) (hp : PredIt g lb p w) :
    Calls Try.prog 46 #[.slice A n c, .func (.func g) #[] lb] w (Ret (.int .i64 (idxOf p l)) w) := by
  have HL : Hid (l.length = n) := hA.1
  go_enter Try.func46, Try.ntmps46
  go_wp2
  go_loopw [8] (fun i wr => ∃ k : Nat, k ≤ n ∧ i = .int .i64 k ∧ Hid (∀ j it, j < k → l[j]? = some it → p it = false) ∧ Below w.heap.size w wr) (fun i _ => n - (intOf i).toNat)
  case atStart => exact ⟨0, Nat.zero_le _, rfl, fun j _ h => absurd h (Nat.not_lt_zero _), Below.refl _ _⟩
  case round =>
    obtain ⟨k, hk, rfl, H, hb⟩ := hrel
    have hsz := hb.size
    by_cases hlt : k < n
    · obtain ⟨b, o, it, rfl, hbl, hx, c0, c1, c2, c3⟩ := RdIts.at_ (hA.below hb (Nat.le_refl _)) hlt
      have hlt' : (k : Int) < (n : Int) := by omega
      have Hx := Lib.hid hx
      clear hx
      have hcall := Lib.hid (hp wr it hb)
      clear hp
      cases hm : p it with
      | true =>
        have Hm := Lib.hid hm
        rw [hm] at hcall
        clear hm
        go_wp2_with (go_at_fn g; refine hcall.out.mono ?_; rintro e w1 ⟨rfl, hb1⟩)
        go_ret
        exact ⟨ret_int (idxOf_hit H.out Hx.out Hm.out).symm, bthen hb hb1 hsz⟩
      | false =>
        have Hm := Lib.hid hm
        rw [hm] at hcall
        clear hm
        go_wp2_with (go_at_fn g; refine hcall.out.mono ?_; rintro e w1 ⟨rfl, hb1⟩)
        go_roundw
        case rel => exact ⟨k + 1, by omega, by go_num, all_succ H.out Hx.out Hm.out, bthen hb hb1 hsz⟩
        case measure => simp [intOf]; omega
    · obtain rfl : k = n := by omega
      go_wp2
      go_ret
      exact ⟨ret_int (idxOf_miss (HL.out ▸ H.out)).symm, hb⟩

theorem containsFunc_any (A : Option Addr) (n c : Nat) (l : List It) (g : Nat) (lb : Array Value) (p : It → Bool) (w : World) (hA : RdIts w A n l) (hn : n ≤ 9223372036854775807)
    (eg : ∀ args w, (callFunc g args).run Try.prog w = .ok (.enter g args) w) (hp : PredIt g lb p w) :
    Calls Try.prog 32 #[.slice A n c, .func (.func g) #[] lb] w (Ret (.bool (l.any p)) w) := by
  have HC := Lib.hid (indexFunc_any A n c l g lb p w hA hn eg hp)
  rw [← idxOf_any]
  generalize idxOf p l = q at HC ⊢
  clear hp hA eg
  go_enter Try.func32, Try.ntmps32
  go_wp2_with (go_at_call 46; refine HC.out.mono ?_; rintro e w1 ⟨rfl, hb1⟩)
  go_ret
  exact ⟨rfl, hb1⟩

end Go.Proofs.Ythkleinjddkhoaa
