/- What is wrong with a rule: the days, the weekdays, the head; Check. -/
import Derived.Test.YtnelecjjbmjhaaaGreatDoorWRuB
import Derived.Sort.OwnSortedInts
/- What is wrong with a rule: the head, the days, the weekdays. -/
namespace Go.Proofs.YtnelecjjbmjhaaaGreatDoor
open Go.RowKit
set_option linter.unusedSimpArgs false
set_option linter.unusedVariables false

set_option maxHeartbeats 400000 in
theorem index0_any (A : Option Addr) (n c : Nat) (l : List Int) (w : World) (hA : RdInts w A n l) (hn : n ≤ 9223372036854775807) :
    Calls Tryz.prog 195 #[.slice A n c, .int .i64 0] w (RetQ (.int .i64 (idxG (fun x => decide (x = 0)) l)) w) := by
  have HL : Hid (l.length = n) := hA.1
  go_enter Tryz.func195, Tryz.ntmps195
  go_wp2
  go_loop [5, 8] (fun _ i => ∃ k : Nat, k ≤ n ∧ i = .int .i64 k ∧ Hid (∀ j x, j < k → l[j]? = some x → decide (x = 0) = false)) (fun _ i => n - (intOf i).toNat)
  case atStart => exact ⟨0, Nat.zero_le _, rfl, fun j _ h => absurd h (Nat.not_lt_zero _)⟩
  case round =>
    obtain ⟨k, hk, rfl, H⟩ := hrel
    by_cases hlt : k < n
    · obtain ⟨b, o, x, rfl, hbl, hx, c0⟩ := RdInts.at_ hA hlt
      have hlt' : (k : Int) < (n : Int) := by omega
      have Hx := Lib.hid hx
      clear hx
      by_cases hm : x = 0
      · have Hm : Hid (idxG (fun x => decide (x = 0)) l = (k : Int)) := idxG_hit H.out Hx.out (by simpa using hm)
        have hm' : (0 == x) = true := by simp; omega
        clear hm
        go_wp2
        go_ret
        exact ⟨ret_int Hm.out.symm, rfl⟩
      · have Hm : Hid (decide (x = 0) = false) := by show _ = _; simpa using hm
        have hm' : (0 == x) = false := by simp; omega
        clear hm
        go_wp2
        go_round
        case rel => exact ⟨k + 1, by omega, by go_num, allG_succ (p := fun x => decide (x = 0)) H.out Hx.out Hm.out⟩
        case measure => simp [intOf]; omega
    · obtain rfl : k = n := by omega
      have Hm : Hid (idxG (fun x => decide (x = 0)) l = -1) := idxG_miss (HL.out ▸ H.out)
      go_wp2
      go_ret
      exact ⟨ret_int Hm.out.symm, rfl⟩
theorem contains0_any (A : Option Addr) (n c : Nat) (l : List Int) (w : World) (hA : RdInts w A n l) (hn : n ≤ 9223372036854775807) :
    Calls Tryz.prog 157 #[.slice A n c, .int .i64 0] w (RetQ (.bool (l.any fun x => decide (x = 0))) w) := by
  have HC := Lib.hid (index0_any A n c l w hA hn)
  rw [← idxG_any]
  generalize idxG (fun x => decide (x = 0)) l = q at HC ⊢
  clear hA
  go_enter Tryz.func157, Tryz.ntmps157
  go_wp2_with fail
  refine HC.out.mono ?_
  rintro e w1 ⟨rfl, rfl⟩
  go_wp2
  go_ret
  exact ⟨rfl, rfl⟩
section
variable {r : RuV} {A : Nat → Option Addr} {n c : Nat → Nat} {w : World} (hA : RdRu w A n r) (hn : ∀ k, n k ≤ 1000000)
include hA hn
set_option maxRecDepth 20000 in
set_option maxHeartbeats 2000000 in
theorem which_any : Calls Tryz.prog 159 #[ruV r A n c] w (RetOwn (nsC r) w) := by
  obtain ⟨i0, hi0, hz0, hz1, hz2⟩ := info_parts info_int
  have HI0 := Lib.hid hi0
  have HZ0 := Lib.hid hz0
  have HZ1 := Lib.hid hz1
  have HZ2 := Lib.hid hz2
  clear hi0 hz0 hz1 hz2
  have HW := Lib.hid hA.wk
  have HL : Hid (r.wk.length = n 7) := hA.wk.1
  have hn7 := hn 7
  clear hA hn
  unfold ruV
  go_enter Tryz.func159, Tryz.ntmps159
  go_wp2
  generalize hA7 : A 7 = A7 at *
  generalize hn7e : n 7 = m at *
  clear hA7 hn7e
  go_loopw [3, 9] (fun v i wr => ∃ (vo : Value) (k : Nat), vo = v ∧ k ≤ m ∧ i = .int .i64 k ∧ Hid (OwnInts wr w.heap.size vo ((r.wk.take k).map (·.1))) ∧ Below w.heap.size w wr) (fun _ i _ => m - (intOf i).toNat)
  case atStart => exact ⟨_, 0, rfl, Nat.zero_le _, rfl, World.ownsRow_nil _ _ _ _, by (repeat' (first | (with_reducible exact Below.refl _ _) | (with_reducible assumption) | (with_reducible refine below_drewN ?_ _) | (with_reducible refine Below.alloc ?_ ?_ _) | (with_reducible refine Below.drew ?_) | (with_reducible refine Below.setCell ?_ ?_ _) | go_size))⟩
  case round =>
    obtain ⟨vo, k, rfl, hk, rfl, HO, hb⟩ := hrel
    have hsz := hb.size
    by_cases hlt : k < m
    · obtain ⟨b, o, x, rfl, hbl, hx, c0, c1⟩ := RdNths.at_ (HW.out.below hb (Nat.le_refl _)) hlt
      have hlt' : (k : Int) < (m : Int) := by omega
      have HS1 : Hid ((r.wk.take (k + 1)).map (·.1) = (r.wk.take k).map (·.1) ++ [x.1]) := by
        show _ = _
        rw [List.take_add_one, hx]; simp
      have hkl : ((r.wk.take k).map (·.1)).length = k := by rw [List.length_map, List.length_take_of_le (by rw [HL.out]; exact hk)]
      clear hx
      obtain ⟨X0, hX0⟩ : ∃ X, X = (r.wk.take k).map (·.1) := ⟨_, rfl⟩
      obtain ⟨X1, hX1⟩ : ∃ X, X = (r.wk.take (k + 1)).map (·.1) := ⟨_, rfl⟩
      rw [← hX0] at HO HS1 hkl
      rw [← hX1] at HS1
      have HX1 := Lib.hid hX1
      have HKL := Lib.hid hkl
      clear hX0 hX1 hkl
      have hi0 := HI0.out
      have hz0 := HZ0.out
      have hz1 := HZ1.out
      have hz2 := HZ2.out
      go_wp2_with (at_builtin; refine wpList_append_own _ rfl _ _ 22 rfl w.heap.size 3 i0 (.int .i64 0) 1 8 Tryz.underlying22 hi0 hz0 hz1 hz2 rfl (by decide) _ X0.length _ rfl ((HO.out.alloc _).alloc _) ⟨wr.heap.size + 1, 0, none⟩ 1 1 [.int .i64 x.1] rfl rfl ?c1 ?c2 ?c3 ?c4 ?c5 ?c6)
      case c1 =>
        intro j' u hu
        rcases j' with _ | j'
        · simp at hu; subst hu
          exact cell_new (by simp) rfl
        · simp at hu
      case c2 => intro u hu; simp at hu; subst hu; rfl
      case c3 => rw [HKL.out]; simp only [maxLen]; omega
      case c4 => rw [HKL.out]; omega
      case c5 => simp; omega
      case c6 =>
        intro v' w' hown hg _
        have HV : Hid (OwnInts w' w.heap.size v' X1) := by
          show World.ownsRow _ _ _ _ _ _ _
          rw [HS1.out, List.length_append, List.map_append]
          exact hown
        have hbn : Below w.heap.size w w' := by
          refine Below.grown ((hb.alloc hsz _).alloc (by simp; omega) _) hg (by simp; omega) ?_
          intro b hb'
          rcases own_some HO.out with ⟨h1, _⟩ | ⟨g, cap, h1, h2, h3⟩
          · rw [h1] at hb'; simp [Value.ownBlock] at hb'
          · rw [h1] at hb'; simp [Value.ownBlock] at hb'; subst hb'; exact h2
        clear hown hg hi0 hz0 hz1 hz2
        go_wp2
        go_roundw
        case rel => exact ⟨_, k + 1, rfl, by omega, by go_num, by rw [← HX1.out]; exact HV.out, hbn⟩
        case measure => simp [intOf]; omega
    · obtain rfl : k = m := by omega
      have HE : Hid ((r.wk.take k).map (·.1) = nsC r) := by show _ = _; rw [List.take_of_length_le (by rw [HL.out]; exact Nat.le_refl _)]; rfl
      go_wp2
      go_ret
      exact ⟨_, rfl, by rw [← HE.out]; exact HO.out, hb⟩
omit hn in
theorem nsC_len : (nsC r).length = n 7 := by unfold nsC; rw [List.length_map]; exact hA.wk.1
set_option maxHeartbeats 1000000 in
theorem plain_any : Calls Tryz.prog 162 #[ruV r A n c] w (Ret (.bool (!(nsC r).any (outC 0 0))) w) := by
  have HW := Lib.hid (fun W (hb : Below w.heap.size w W) => which_any (c := c) (hA.below hb) hn)
  have HLn : Hid ((nsC r).length ≤ 1000000) := by show _ ≤ _; rw [nsC_len hA]; exact hn 7
  have HO := Lib.hid (fun A' n' c' W (h : RdInts W A' n' (nsC r)) (hn' : n' ≤ 1000000) => outside_any A' n' c' (nsC r) 0 0 W h (by omega))
  clear hA hn
  generalize nsC r = ns at *
  generalize ns.any (outC 0 0) = q at *
  unfold ruV at *
  go_enter Tryz.func162, Tryz.ntmps162
  go_wp2_with fail
  refine (HW.out _ (by (repeat' (first | (with_reducible exact Below.refl _ _) | (with_reducible assumption) | (with_reducible refine below_drewN ?_ _) | (with_reducible refine Below.alloc ?_ ?_ _) | (with_reducible refine Below.drew ?_) | (with_reducible refine Below.setCell ?_ ?_ _) | go_size)))).mono ?_
  rintro e w1 ⟨v, rfl, hv, hb1⟩
  obtain ⟨A', c', rfl, _, _, hr, _⟩ := hv.rd
  have hb2 : Below w.heap.size w w1 := ((Below.refl _ w).alloc (Nat.le_refl _) _).trans (hb1.mono (by simp))
  clear hb1 hv
  go_wp2_with fail
  refine (HO.out _ _ _ _ hr HLn.out).mono ?_
  rintro e w2 ⟨rfl, hb3⟩
  go_wp2
  go_ret
  exact ⟨rfl, bthen hb2 hb3 hb2.size⟩
end
end Go.Proofs.YtnelecjjbmjhaaaGreatDoor

namespace Go.Proofs.YtnelecjjbmjhaaaGreatDoor
open Go.RowKit
set_option linter.unusedSimpArgs false
set_option linter.unusedVariables false

theorem weeks1_any (w : World) : PredN 161 #[] badDay w := by
  intro W x hB
  generalize hq : badDay x = q
  have HQ := Lib.hid hq
  clear hq hB
  obtain ⟨xn, xd⟩ := x
  go_enter Tryz.func161, Tryz.ntmps161
  go_wp2
  all_goals go_ret
  all_goals (refine ⟨ret_bool ?_, by (repeat' (first | (with_reducible exact Below.refl _ _) | (with_reducible assumption) | (with_reducible refine below_drewN ?_ _) | (with_reducible refine Below.alloc ?_ ?_ _) | (with_reducible refine Below.drew ?_) | (with_reducible refine Below.setCell ?_ ?_ _) | go_size))⟩; rw [← HQ.out]; ((try simp only [beq_iff_eq, beq_eq_false_iff_ne, bne_iff_ne, ne_eq, badDay, decide_eq_true_eq, decide_eq_false_iff_not, Bool.and_eq_true, Bool.or_eq_true, Bool.not_eq_true', Bool.not_eq_false', Bool.and_eq_false_iff, Bool.or_eq_false_iff] at *)
                                                                                                                                                                                                                                                                                                                                          rw [Bool.eq_iff_iff]
                                                                                                                                                                                                                                                                                                                                          (try simp only [badDay, decide_eq_true_eq, beq_iff_eq, bne_iff_ne, ne_eq, Bool.and_eq_true, Bool.or_eq_true, Bool.not_eq_true', Bool.not_eq_false', beq_eq_false_iff_ne, decide_eq_false_iff_not, iff_true, true_iff, Bool.false_eq_true, false_iff, iff_false, reduceCtorEq])
                                                                                                                                                                                                                                                                                                                                          (first | done | omega)))
section
variable {r : RuV} {A : Nat → Option Addr} {n c : Nat → Nat} {w : World} (hA : RdRu w A n r) (hn : ∀ k, n k ≤ 1000000)
include hA hn
set_option maxHeartbeats 2000000 in
theorem days_any : Calls Tryz.prog 117 #[ruV r A n c] w (Ret (.int .i64 (daysE r)) w) := by
  have HL := Lib.hid (fun W (hb : Below w.heap.size w W) => rlist_any (A 6) (n 6) (c 6) r.da (-31) 31 W (hA.da.below hb (Nat.le_refl _)) (by have := hn 6; omega))
  have HC := Lib.hid (fun W (hb : Below w.heap.size w W) => contains0_any (A 6) (n 6) (c 6) r.da W (hA.da.below hb (Nat.le_refl _)) (by have := hn 6; omega))
  have HM := Lib.hid (fun W (hb : Below w.heap.size w W) => mixed_any (A 6) (n 6) (c 6) r.da W (hA.da.below hb (Nat.le_refl _)) (hn 6))
  have HLen : Hid (r.da.length = n 6) := hA.da.1
  have HV : Hid (daysE r = if listE r.da (-31) 31 ≠ 0 then listE r.da (-31) 31 else if r.da.any (fun x => decide (x = 0)) = true then 4 else if (0 < r.da.length ∧ r.fr = 4) ∨ mixC r.da = true then 12 else 0) := rfl
  rw [HLen.out] at HV
  have HE := Lib.hid (ruAt_new w r A n c 25)
  clear hA hn HLen
  generalize daysE r = R at *
  generalize listE r.da (-31) 31 = le at *
  generalize (r.da.any fun x => decide (x = 0)) = cq at *
  generalize mixC r.da = mq at *
  by_cases h0 : le = 0
  · have h0' : (le != 0) = false := by simpa using h0
    cases cq with
    | true =>
      have HR : Hid (R = 4) := by show _ = _; rw [HV.out, if_neg (by simpa using h0)]; rfl
      clear h0 HV
      unfold ruV at *
      go_enter Tryz.func117, Tryz.ntmps117
      go_wp2_with fail
      refine (HL.out _ (by (repeat' (first | (with_reducible exact Below.refl _ _) | (with_reducible assumption) | (with_reducible refine below_drewN ?_ _) | (with_reducible refine Below.alloc ?_ ?_ _) | (with_reducible refine Below.drew ?_) | (with_reducible refine Below.setCell ?_ ?_ _) | go_size)))).mono ?_
      rintro e w1 ⟨rfl, hb1⟩
      have hbw : Below w.heap.size w w1 := ((Below.refl _ w).alloc (Nat.le_refl _) _).trans (hb1.mono (by simp))
      have HE1 := Lib.hid (HE.out.below hb1)
      clear hb1 HE
      obtain ⟨x0, x1, x2, x3, x4, x5, x6, x7, x8, x9, x10⟩ := HE1.out
      go_wp2_with fail
      refine (HC.out _ hbw).mono ?_
      rintro e w2 ⟨rfl, rfl⟩
      go_wp2
      go_ret
      exact ⟨ret_int HR.out.symm, hbw⟩
    | false =>
      by_cases h4 : 0 < n 6 ∧ r.fr = 4
      · have HR : Hid (R = 12) := by show _ = _; rw [HV.out, if_neg (by simpa using h0), if_neg (by decide), if_pos (.inl h4)]
        have h6 : (0 : Int) < ((n 6 : Nat) : Int) := by omega
        have h4' : (r.fr == 4) = true := by simpa using h4.2
        clear h0 HV h4
        unfold ruV at *
        go_enter Tryz.func117, Tryz.ntmps117
        go_wp2_with fail
        refine (HL.out _ (by (repeat' (first | (with_reducible exact Below.refl _ _) | (with_reducible assumption) | (with_reducible refine below_drewN ?_ _) | (with_reducible refine Below.alloc ?_ ?_ _) | (with_reducible refine Below.drew ?_) | (with_reducible refine Below.setCell ?_ ?_ _) | go_size)))).mono ?_
        rintro e w1 ⟨rfl, hb1⟩
        have hbw : Below w.heap.size w w1 := ((Below.refl _ w).alloc (Nat.le_refl _) _).trans (hb1.mono (by simp))
        have HE1 := Lib.hid (HE.out.below hb1)
        clear hb1 HE
        obtain ⟨x0, x1, x2, x3, x4, x5, x6, x7, x8, x9, x10⟩ := HE1.out
        go_wp2_with fail
        refine (HC.out _ hbw).mono ?_
        rintro e w2 ⟨rfl, rfl⟩
        go_wp2
        go_ret
        exact ⟨ret_int HR.out.symm, hbw⟩
      · have HR : Hid (R = if mq = true then 12 else 0) := by
          show _ = _
          rw [HV.out, if_neg (by simpa using h0), if_neg (by decide)]
          cases mq
          · rw [if_neg (by simp; intro h; exact fun h2 => h4 ⟨h, h2⟩)]; rfl
          · rw [if_pos (.inr rfl)]; rfl
        clear h0 HV
        by_cases h6 : 0 < n 6
        · have h6' : (0 : Int) < ((n 6 : Nat) : Int) := by omega
          have h4' : (r.fr == 4) = false := by simp; intro h; exact h4 ⟨h6, h⟩
          clear h4
          cases mq with
          | true => unfold ruV at *
                    go_enter Tryz.func117, Tryz.ntmps117
                    go_wp2_with fail
                    refine (HL.out _ (by (repeat' (first | (with_reducible exact Below.refl _ _) | (with_reducible assumption) | (with_reducible refine below_drewN ?_ _) | (with_reducible refine Below.alloc ?_ ?_ _) | (with_reducible refine Below.drew ?_) | (with_reducible refine Below.setCell ?_ ?_ _) | go_size)))).mono ?_
                    rintro e w1 ⟨rfl, hb1⟩
                    have hbw : Below w.heap.size w w1 := ((Below.refl _ w).alloc (Nat.le_refl _) _).trans (hb1.mono (by simp))
                    have HE1 := Lib.hid (HE.out.below hb1)
                    clear hb1 HE
                    obtain ⟨x0, x1, x2, x3, x4, x5, x6, x7, x8, x9, x10⟩ := HE1.out
                    go_wp2_with fail
                    refine (HC.out _ hbw).mono ?_
                    rintro e w2 ⟨rfl, rfl⟩
                    go_wp2_with fail
                    refine (HM.out _ hbw).mono ?_
                    rintro e w2 ⟨rfl, hb2⟩
                    go_wp2
                    go_ret
                    exact ⟨ret_int HR.out.symm, bthen hbw hb2 hbw.size⟩
          | false => unfold ruV at *
                     go_enter Tryz.func117, Tryz.ntmps117
                     go_wp2_with fail
                     refine (HL.out _ (by (repeat' (first | (with_reducible exact Below.refl _ _) | (with_reducible assumption) | (with_reducible refine below_drewN ?_ _) | (with_reducible refine Below.alloc ?_ ?_ _) | (with_reducible refine Below.drew ?_) | (with_reducible refine Below.setCell ?_ ?_ _) | go_size)))).mono ?_
                     rintro e w1 ⟨rfl, hb1⟩
                     have hbw : Below w.heap.size w w1 := ((Below.refl _ w).alloc (Nat.le_refl _) _).trans (hb1.mono (by simp))
                     have HE1 := Lib.hid (HE.out.below hb1)
                     clear hb1 HE
                     obtain ⟨x0, x1, x2, x3, x4, x5, x6, x7, x8, x9, x10⟩ := HE1.out
                     go_wp2_with fail
                     refine (HC.out _ hbw).mono ?_
                     rintro e w2 ⟨rfl, rfl⟩
                     go_wp2_with fail
                     refine (HM.out _ hbw).mono ?_
                     rintro e w2 ⟨rfl, hb2⟩
                     go_wp2
                     go_ret
                     exact ⟨ret_int HR.out.symm, bthen hbw hb2 hbw.size⟩
        · have h6' : ¬ (0 : Int) < ((n 6 : Nat) : Int) := by omega
          clear h4
          cases mq with
          | true => unfold ruV at *
                    go_enter Tryz.func117, Tryz.ntmps117
                    go_wp2_with fail
                    refine (HL.out _ (by (repeat' (first | (with_reducible exact Below.refl _ _) | (with_reducible assumption) | (with_reducible refine below_drewN ?_ _) | (with_reducible refine Below.alloc ?_ ?_ _) | (with_reducible refine Below.drew ?_) | (with_reducible refine Below.setCell ?_ ?_ _) | go_size)))).mono ?_
                    rintro e w1 ⟨rfl, hb1⟩
                    have hbw : Below w.heap.size w w1 := ((Below.refl _ w).alloc (Nat.le_refl _) _).trans (hb1.mono (by simp))
                    have HE1 := Lib.hid (HE.out.below hb1)
                    clear hb1 HE
                    obtain ⟨x0, x1, x2, x3, x4, x5, x6, x7, x8, x9, x10⟩ := HE1.out
                    go_wp2_with fail
                    refine (HC.out _ hbw).mono ?_
                    rintro e w2 ⟨rfl, rfl⟩
                    go_wp2_with fail
                    refine (HM.out _ hbw).mono ?_
                    rintro e w2 ⟨rfl, hb2⟩
                    go_wp2
                    go_ret
                    exact ⟨ret_int HR.out.symm, bthen hbw hb2 hbw.size⟩
          | false => unfold ruV at *
                     go_enter Tryz.func117, Tryz.ntmps117
                     go_wp2_with fail
                     refine (HL.out _ (by (repeat' (first | (with_reducible exact Below.refl _ _) | (with_reducible assumption) | (with_reducible refine below_drewN ?_ _) | (with_reducible refine Below.alloc ?_ ?_ _) | (with_reducible refine Below.drew ?_) | (with_reducible refine Below.setCell ?_ ?_ _) | go_size)))).mono ?_
                     rintro e w1 ⟨rfl, hb1⟩
                     have hbw : Below w.heap.size w w1 := ((Below.refl _ w).alloc (Nat.le_refl _) _).trans (hb1.mono (by simp))
                     have HE1 := Lib.hid (HE.out.below hb1)
                     clear hb1 HE
                     obtain ⟨x0, x1, x2, x3, x4, x5, x6, x7, x8, x9, x10⟩ := HE1.out
                     go_wp2_with fail
                     refine (HC.out _ hbw).mono ?_
                     rintro e w2 ⟨rfl, rfl⟩
                     go_wp2_with fail
                     refine (HM.out _ hbw).mono ?_
                     rintro e w2 ⟨rfl, hb2⟩
                     go_wp2
                     go_ret
                     exact ⟨ret_int HR.out.symm, bthen hbw hb2 hbw.size⟩
  · have HR : Hid (R = le) := by show _ = _; rw [HV.out, if_pos h0]
    have h0' : (le != 0) = true := by simpa using h0
    clear h0 HV
    unfold ruV at *
    go_enter Tryz.func117, Tryz.ntmps117
    go_wp2_with fail
    refine (HL.out _ (by (repeat' (first | (with_reducible exact Below.refl _ _) | (with_reducible assumption) | (with_reducible refine below_drewN ?_ _) | (with_reducible refine Below.alloc ?_ ?_ _) | (with_reducible refine Below.drew ?_) | (with_reducible refine Below.setCell ?_ ?_ _) | go_size)))).mono ?_
    rintro e w1 ⟨rfl, hb1⟩
    have hbw : Below w.heap.size w w1 := ((Below.refl _ w).alloc (Nat.le_refl _) _).trans (hb1.mono (by simp))
    have HE1 := Lib.hid (HE.out.below hb1)
    clear hb1 HE
    obtain ⟨x0, x1, x2, x3, x4, x5, x6, x7, x8, x9, x10⟩ := HE1.out
    go_wp2
    go_ret
    exact ⟨ret_int HR.out.symm, hbw⟩
end
end Go.Proofs.YtnelecjjbmjhaaaGreatDoor
