/- What is wrong with a rule: the head, the days, the weekdays. -/
import Derived.Test.YtnelecjjbmjhaaaGreatWRuB
import Derived.Sort.OwnSortedInts
namespace Go.Proofs.YtnelecjjbmjhaaaGreat
open Go.RowKit
set_option linter.unusedSimpArgs false
set_option linter.unusedVariables false

set_option maxHeartbeats 400000 in
theorem index0_any (A : Option Addr) (n c : Nat) (l : List Int) (w : World) (hA : RdInts w A n l) (hn : n ≤ 9223372036854775807) :
    Calls Tryz.prog 98 #[.slice A n c, .int .i64 0] w (RetQ (.int .i64 (idxG (fun x => decide (x = 0)) l)) w) := by
  have HL : Hid (l.length = n) := hA.1
  go_enter Tryz.func98, Tryz.ntmps98
  go_wp2
  go_loop [5, 8] (fun _ i => ∃ k : Nat, k ≤ n ∧ i = .int .i64 k ∧ Hid (∀ j x, j < k → l[j]? = some x → decide (x = 0) = false)) (fun _ i => n - (intOf i).toNat)
  case atStart => exact ⟨0, Nat.zero_le _, rfl, fun j _ h => absurd h (Nat.not_lt_zero _)⟩
  case round =>
    obtain ⟨k, hk, rfl, H⟩ := hrel
    by_cases hlt : k < n
    · obtain ⟨b, o, x, rfl, hbl, hx, c0⟩ := RdInts.at_ hA hlt
      have hlt' : (k : Int) < (n : Int) := by omega
      have Hx := Lib.hid hx
      clear hx
      by_cases hm : x = 0
      · have Hm : Hid (idxG (fun x => decide (x = 0)) l = (k : Int)) := idxG_hit H.out Hx.out (by simpa using hm)
        have hm' : (0 == x) = true := by simp; omega
        clear hm
        go_wp2
        go_ret
        exact ⟨ret_int Hm.out.symm, rfl⟩
      · have Hm : Hid (decide (x = 0) = false) := by show _ = _; simpa using hm
        have hm' : (0 == x) = false := by simp; omega
        clear hm
        go_wp2
        go_round
        case rel => exact ⟨k + 1, by omega, by go_num, allG_succ (p := fun x => decide (x = 0)) H.out Hx.out Hm.out⟩
        case measure => simp [intOf]; omega
    · obtain rfl : k = n := by omega
      have Hm : Hid (idxG (fun x => decide (x = 0)) l = -1) := idxG_miss (HL.out ▸ H.out)
      go_wp2
      go_ret
      exact ⟨ret_int Hm.out.symm, rfl⟩
theorem contains0_any (A : Option Addr) (n c : Nat) (l : List Int) (w : World) (hA : RdInts w A n l) (hn : n ≤ 9223372036854775807) :
    Calls Tryz.prog 80 #[.slice A n c, .int .i64 0] w (RetQ (.bool (l.any fun x => decide (x = 0))) w) := by
  have HC := Lib.hid (index0_any A n c l w hA hn)
  rw [← idxG_any]
  generalize idxG (fun x => decide (x = 0)) l = q at HC ⊢
  clear hA
  go_enter Tryz.func80, Tryz.ntmps80
  go_wp2_with fail
  refine HC.out.mono ?_
  rintro e w1 ⟨rfl, rfl⟩
  go_wp2
  go_ret
  exact ⟨rfl, rfl⟩
section
variable {r : RuV} {A : Nat → Option Addr} {n c : Nat → Nat} {w : World} (hA : RdRu w A n r) (hn : ∀ k, n k ≤ 1000000)
include hA hn
set_option maxRecDepth 20000 in
set_option maxHeartbeats 2000000 in
theorem which_any : Calls Tryz.prog 82 #[ruV r A n c] w (RetOwn (nsC r) w) := by
  obtain ⟨i0, hi0, hz0, hz1, hz2⟩ := info_parts info_int
  have HI0 := Lib.hid hi0
  have HZ0 := Lib.hid hz0
  have HZ1 := Lib.hid hz1
  have HZ2 := Lib.hid hz2
  clear hi0 hz0 hz1 hz2
  have HW := Lib.hid hA.wk
  have HL : Hid (r.wk.length = n 7) := hA.wk.1
  have hn7 := hn 7
  clear hA hn
  unfold ruV
  go_enter Tryz.func82, Tryz.ntmps82
  go_wp2
  generalize hA7 : A 7 = A7 at *
  generalize hn7e : n 7 = m at *
  clear hA7 hn7e
  go_loopw [3, 9] (fun v i wr => ∃ (vo : Value) (k : Nat), vo = v ∧ k ≤ m ∧ i = .int .i64 k ∧ Hid (OwnInts wr w.heap.size vo ((r.wk.take k).map (·.1))) ∧ Below w.heap.size w wr) (fun _ i _ => m - (intOf i).toNat)
  case atStart => exact ⟨_, 0, rfl, Nat.zero_le _, rfl, World.ownsRow_nil _ _ _ _, by (repeat' (first | (with_reducible exact Below.refl _ _) | (with_reducible assumption) | (with_reducible refine below_drewN ?_ _) | (with_reducible refine Below.alloc ?_ ?_ _) | (with_reducible refine Below.drew ?_) | (with_reducible refine Below.setCell ?_ ?_ _) | go_size))⟩
  case round =>
    obtain ⟨vo, k, rfl, hk, rfl, HO, hb⟩ := hrel
    have hsz := hb.size
    by_cases hlt : k < m
    · obtain ⟨b, o, x, rfl, hbl, hx, c0, c1⟩ := RdNths.at_ (HW.out.below hb (Nat.le_refl _)) hlt
      have hlt' : (k : Int) < (m : Int) := by omega
      have HS1 : Hid ((r.wk.take (k + 1)).map (·.1) = (r.wk.take k).map (·.1) ++ [x.1]) := by
        show _ = _
        rw [List.take_add_one, hx]; simp
      have hkl : ((r.wk.take k).map (·.1)).length = k := by rw [List.length_map, List.length_take_of_le (by rw [HL.out]; exact hk)]
      clear hx
      obtain ⟨X0, hX0⟩ : ∃ X, X = (r.wk.take k).map (·.1) := ⟨_, rfl⟩
      obtain ⟨X1, hX1⟩ : ∃ X, X = (r.wk.take (k + 1)).map (·.1) := ⟨_, rfl⟩
      rw [← hX0] at HO HS1 hkl
      rw [← hX1] at HS1
      have HX1 := Lib.hid hX1
      have HKL := Lib.hid hkl
      clear hX0 hX1 hkl
      have hi0 := HI0.out
      have hz0 := HZ0.out
      have hz1 := HZ1.out
      have hz2 := HZ2.out
      go_wp2_with (at_builtin; refine wpList_append_own _ rfl _ _ 23 rfl w.heap.size 3 i0 (.int .i64 0) 1 8 Tryz.underlying23 hi0 hz0 hz1 hz2 rfl (by decide) _ X0.length _ rfl ((HO.out.alloc _).alloc _) ⟨wr.heap.size + 1, 0, none⟩ 1 1 [.int .i64 x.1] rfl rfl ?c1 ?c2 ?c3 ?c4 ?c5 ?c6)
      case c1 =>
        intro j' u hu
        rcases j' with _ | j'
        · simp at hu; subst hu
          exact cell_new (by simp) rfl
        · simp at hu
      case c2 => intro u hu; simp at hu; subst hu; rfl
      case c3 => rw [HKL.out]; simp only [maxLen]; omega
      case c4 => rw [HKL.out]; omega
      case c5 => simp; omega
      case c6 =>
        intro v' w' hown hg _
        have HV : Hid (OwnInts w' w.heap.size v' X1) := by
          show World.ownsRow _ _ _ _ _ _ _
          rw [HS1.out, List.length_append, List.map_append]
          exact hown
        have hbn : Below w.heap.size w w' := by
          refine Below.grown ((hb.alloc hsz _).alloc (by simp; omega) _) hg (by simp; omega) ?_
          intro b hb'
          rcases own_some HO.out with ⟨h1, _⟩ | ⟨g, cap, h1, h2, h3⟩
          · rw [h1] at hb'; simp [Value.ownBlock] at hb'
          · rw [h1] at hb'; simp [Value.ownBlock] at hb'; subst hb'; exact h2
        clear hown hg hi0 hz0 hz1 hz2
        go_wp2
        go_roundw
        case rel => exact ⟨_, k + 1, rfl, by omega, by go_num, by rw [← HX1.out]; exact HV.out, hbn⟩
        case measure => simp [intOf]; omega
    · obtain rfl : k = m := by omega
      have HE : Hid ((r.wk.take k).map (·.1) = nsC r) := by show _ = _; rw [List.take_of_length_le (by rw [HL.out]; exact Nat.le_refl _)]; rfl
      go_wp2
      go_ret
      exact ⟨_, rfl, by rw [← HE.out]; exact HO.out, hb⟩
omit hn in
theorem nsC_len : (nsC r).length = n 7 := by unfold nsC; rw [List.length_map]; exact hA.wk.1
set_option maxHeartbeats 1000000 in
theorem plain_any : Calls Tryz.prog 85 #[ruV r A n c] w (Ret (.bool (!(nsC r).any (outC 0 0))) w) := by
  have HW := Lib.hid (fun W (hb : Below w.heap.size w W) => which_any (c := c) (hA.below hb) hn)
  have HLn : Hid ((nsC r).length ≤ 1000000) := by show _ ≤ _; rw [nsC_len hA]; exact hn 7
  have HO := Lib.hid (fun A' n' c' W (h : RdInts W A' n' (nsC r)) (hn' : n' ≤ 1000000) => outside_any A' n' c' (nsC r) 0 0 W h (by omega))
  clear hA hn
  generalize nsC r = ns at *
  generalize ns.any (outC 0 0) = q at *
  unfold ruV at *
  go_enter Tryz.func85, Tryz.ntmps85
  go_wp2_with fail
  refine (HW.out _ (by (repeat' (first | (with_reducible exact Below.refl _ _) | (with_reducible assumption) | (with_reducible refine below_drewN ?_ _) | (with_reducible refine Below.alloc ?_ ?_ _) | (with_reducible refine Below.drew ?_) | (with_reducible refine Below.setCell ?_ ?_ _) | go_size)))).mono ?_
  rintro e w1 ⟨v, rfl, hv, hb1⟩
  obtain ⟨A', c', rfl, _, _, hr, _⟩ := hv.rd
  have hb2 : Below w.heap.size w w1 := ((Below.refl _ w).alloc (Nat.le_refl _) _).trans (hb1.mono (by simp))
  clear hb1 hv
  go_wp2_with fail
  refine (HO.out _ _ _ _ hr HLn.out).mono ?_
  rintro e w2 ⟨rfl, hb3⟩
  go_wp2
  go_ret
  exact ⟨rfl, bthen hb2 hb3 hb2.size⟩
end
end Go.Proofs.YtnelecjjbmjhaaaGreat
