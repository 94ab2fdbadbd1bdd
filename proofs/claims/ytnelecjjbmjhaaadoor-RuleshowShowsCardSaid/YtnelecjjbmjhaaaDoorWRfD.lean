/- The walks of the references of rules: Ns, days, weeks. -/
import Derived.Test.YtnelecjjbmjhaaaDoorWRfC
namespace Go.Proofs.YtnelecjjbmjhaaaDoor
open Go.RowKit
set_option linter.unusedSimpArgs false
set_option linter.unusedVariables false

set_option maxRecDepth 20000 in
set_option maxHeartbeats 2000000 in
theorem ns32_any (A : Option Addr) (n c : Nat) (l : List (Int × Int)) (w : World) (hA : RdNths w A n l) (hn : n ≤ 1000000) :
    Calls Tryd.prog 71 #[.slice A n c] w (RetOwn (l.map (·.1)) w) := by
  obtain ⟨i0, hi0, hz0, hz1, hz2⟩ := info_parts info_int
  have HI0 := Lib.hid hi0
  have HZ0 := Lib.hid hz0
  have HZ1 := Lib.hid hz1
  have HZ2 := Lib.hid hz2
  clear hi0 hz0 hz1 hz2
  have HW := Lib.hid hA
  have HL : Hid (l.length = n) := hA.1
  clear hA
  go_enter Tryd.func71, Tryd.ntmps71
  go_wp2
  go_loopw [3, 4] (fun v i wr => ∃ (vo : Value) (k : Nat), vo = v ∧ k ≤ n ∧ i = .int .i64 k ∧ Hid (OwnInts wr w.heap.size vo ((l.take k).map (·.1))) ∧ Below w.heap.size w wr) (fun _ i _ => n - (intOf i).toNat)
  case atStart => exact ⟨_, 0, rfl, Nat.zero_le _, rfl, World.ownsRow_nil _ _ _ _, Below.refl _ _⟩
  case round =>
    obtain ⟨vo, k, rfl, hk, rfl, HO, hb⟩ := hrel
    have hsz := hb.size
    by_cases hlt : k < n
    · obtain ⟨b, o, x, rfl, hbl, hx, c0, c1⟩ := RdNths.at_ (HW.out.below hb (Nat.le_refl _)) hlt
      have hlt' : (k : Int) < (n : Int) := by omega
      have HS1 : Hid ((l.take (k + 1)).map (·.1) = (l.take k).map (·.1) ++ [x.1]) := by
        show _ = _
        rw [List.take_add_one, hx]; simp
      have hkl : ((l.take k).map (·.1)).length = k := by rw [List.length_map, List.length_take_of_le (by rw [HL.out]; exact hk)]
      clear hx
      obtain ⟨X0, hX0⟩ : ∃ X, X = (l.take k).map (·.1) := ⟨_, rfl⟩
      obtain ⟨X1, hX1⟩ : ∃ X, X = (l.take (k + 1)).map (·.1) := ⟨_, rfl⟩
      rw [← hX0] at HO HS1 hkl
      rw [← hX1] at HS1
      have HX1 := Lib.hid hX1
      have HKL := Lib.hid hkl
      clear hX0 hX1 hkl
      have hi0 := HI0.out
      have hz0 := HZ0.out
      have hz1 := HZ1.out
      have hz2 := HZ2.out
      go_wp2_with (at_builtin; refine wpList_append_own _ rfl _ _ 33 rfl w.heap.size 3 i0 (.int .i64 0) 1 8 Tryd.underlying33 hi0 hz0 hz1 hz2 rfl (by decide) _ X0.length _ rfl (HO.out.alloc _) ⟨wr.heap.size, 0, none⟩ 1 1 [.int .i64 x.1] rfl rfl ?c1 ?c2 ?c3 ?c4 ?c5 ?c6)
      case c1 =>
        intro j' u hu
        rcases j' with _ | j'
        · simp at hu; subst hu
          exact cell_new rfl rfl
        · simp at hu
      case c2 => intro u hu; simp at hu; subst hu; rfl
      case c3 => rw [HKL.out]; simp only [maxLen]; omega
      case c4 => rw [HKL.out]; omega
      case c5 => simp; omega
      case c6 =>
        intro v' w' hown hg _
        have HV : Hid (OwnInts w' w.heap.size v' X1) := by
          show World.ownsRow _ _ _ _ _ _ _
          rw [HS1.out, List.length_append, List.map_append]
          exact hown
        have hbn : Below w.heap.size w w' := by
          refine Below.grown (hb.alloc hsz _) hg (by simp; omega) ?_
          intro b hb'
          rcases own_some HO.out with ⟨h1, _⟩ | ⟨g, cap, h1, h2, h3⟩
          · rw [h1] at hb'; simp [Value.ownBlock] at hb'
          · rw [h1] at hb'; simp [Value.ownBlock] at hb'; subst hb'; exact h2
        clear hown hg hi0 hz0 hz1 hz2
        go_wp2
        go_roundw
        case rel => exact ⟨_, k + 1, rfl, by omega, by go_num, by rw [← HX1.out]; exact HV.out, hbn⟩
        case measure => simp [intOf]; omega
    · obtain rfl : k = n := by omega
      have HE : Hid ((l.take k).map (·.1) = l.map (·.1)) := by show _ = _; rw [List.take_of_length_le (by rw [HL.out]; exact Nat.le_refl _)]
      go_wp2
      go_ret
      exact ⟨_, rfl, by rw [← HE.out]; exact HO.out, hb⟩
section
variable {r : RuV} {A : Nat → Option Addr} {n c : Nat → Nat} {w : World} (hA : RdRu w A n r) (hn : ∀ k, n k ≤ 1000000)
include hA hn
set_option maxRecDepth 20000 in
set_option maxHeartbeats 4000000 in
theorem days32_any : Calls Tryd.prog 47 #[ruV r A n c] w (Ret (.int .i64 (daysE r)) w) := by
  have HL := Lib.hid (fun W (hb : Below w.heap.size w W) => list32_any (A 6) (n 6) (c 6) r.da (-31) 31 W (hA.da.below hb (Nat.le_refl _)) (by have := hn 6; omega))
  have HM := Lib.hid (fun W (hb : Below w.heap.size w W) => signs32_any (A 6) (n 6) (c 6) r.da W (hA.da.below hb (Nat.le_refl _)) (by have := hn 6; omega))
  have HLen : Hid (r.da.length = n 6) := hA.da.1
  have HV : Hid (daysE r = if listE r.da (-31) 31 ≠ 0 then listE r.da (-31) 31 else if r.da.any (fun x => decide (x = 0)) = true then 4 else if (0 < r.da.length ∧ r.fr = 4) ∨ mixC r.da = true then 12 else 0) := rfl
  have hn6 := hn 6
  have HE := Lib.hid (ruAt_new w r A n c 36)
  have HRd := Lib.hid (fun W (hb : Below w.heap.size w W) => (hA.da.below hb (Nat.le_refl _) : RdInts W (A 6) (n 6) r.da))
  clear hA hn
  generalize daysE r = R at *
  generalize listE r.da (-31) 31 = le at *
  generalize mixC r.da = mq at *
  unfold ruV at *
  go_enter Tryd.func47, Tryd.ntmps47
  go_wp2_with fail
  refine (HL.out _ (by (repeat' (first | (with_reducible exact Below.refl _ _) | (with_reducible assumption) | (with_reducible refine below_drewN ?_ _) | (with_reducible refine Below.alloc ?_ ?_ _) | (with_reducible refine Below.drew ?_) | (with_reducible refine Below.setCell ?_ ?_ _) | go_size)))).mono ?_
  rintro e w1 ⟨rfl, rfl⟩
  by_cases h0 : le = 0
  · have h0' : (le != 0) = false := by simpa using h0
    have HV2 := HV.out
    rw [if_neg (by simpa using h0)] at HV2
    replace HV2 := Lib.hid HV2
    clear h0 HV
    go_wp2
    generalize hW : World.alloc w _ = W1
    have hbW : Below w.heap.size w W1 := by rw [← hW]; exact (Below.refl _ w).alloc (Nat.le_refl _) _
    have HEw : Hid (RuAt W1 w.heap.size r A n c) := by rw [← hW]; exact HE.out
    have HR1 := Lib.hid (HRd.out W1 hbW)
    clear hW HE HRd
    obtain ⟨x0, x1, x2, x3, x4, x5, x6, x7, x8, x9, x10⟩ := HEw.out
    go_loop [4] (fun i => ∃ k : Nat, k ≤ n 6 ∧ i = .int .i64 k ∧ Hid (∀ j x, j < k → r.da[j]? = some x → decide (x = 0) = false)) (fun i => n 6 - (intOf i).toNat)
    case atStart => exact ⟨0, Nat.zero_le _, rfl, fun j _ h => absurd h (Nat.not_lt_zero _)⟩
    case round =>
      obtain ⟨k, hk, rfl, H⟩ := hrel
      by_cases hlt : k < n 6
      · obtain ⟨b, o, x, hA6, hbl, hx, c0⟩ := RdInts.at_ HR1.out hlt
        have hlt' : (k : Int) < ((n 6 : Nat) : Int) := by omega
        have Hx := Lib.hid hx
        rw [hA6] at x6
        clear hx hA6
        by_cases hm : x = 0
        · have HR : Hid (R = 4) := by
            show _ = _
            rw [HV2.out, if_pos]
            rw [List.any_eq_true]
            exact ⟨x, List.mem_of_getElem? Hx.out, by simpa using hm⟩
          have hm' : (x == 0) = true := by simpa using hm
          clear hm HV2
          go_wp2
          go_ret
          exact ⟨ret_int HR.out.symm, hbW⟩
        · have Hm : Hid (decide (x = 0) = false) := by show _ = _; simpa using hm
          have hm' : (x == 0) = false := by simpa using hm
          clear hm
          go_wp2
          go_round
          case rel => exact ⟨k + 1, by omega, by go_num, allG_succ (p := fun x => decide (x = 0)) H.out Hx.out Hm.out⟩
          case measure => simp [intOf]; omega
      · have hlt' : ¬ (k : Int) < ((n 6 : Nat) : Int) := by omega
        have HV3 := HV2.out
        rw [if_neg (by
          rw [Bool.not_eq_true, List.any_eq_false]
          intro x hx
          obtain ⟨j, hj⟩ := List.getElem?_of_mem hx
          have hjl := (List.getElem?_eq_some_iff.1 hj).1
          rw [HLen.out] at hjl
          have := H.out j x (by omega) hj
          simpa using this), HLen.out] at HV3
        replace HV3 := Lib.hid HV3
        have HMw := Lib.hid (HM.out W1 hbW)
        clear HV2 HM HL
        by_cases h6 : 0 < n 6
        · have h6' : (0 : Int) < ((n 6 : Nat) : Int) := by omega
          by_cases h4 : r.fr = 4
          · have h4' : (r.fr == 4) = true := by simpa using h4
            have HR : Hid (R = 12) := by show _ = _; rw [HV3.out, if_pos (.inl ⟨h6, h4⟩)]
            clear HV3 h4
            go_wp2
            go_ret
            exact ⟨ret_int HR.out.symm, hbW⟩
          · have h4' : (r.fr == 4) = false := by simpa using h4
            have HR : Hid (R = if mq = true then 12 else 0) := by show _ = _; rw [HV3.out]; simp [h4]
            clear HV3 h4
            cases mq with
            | true => go_wp2_with fail
                      refine HMw.out.mono ?_
                      rintro e w2 ⟨rfl, hb2⟩
                      go_wp2
                      go_ret
                      exact ⟨ret_int HR.out.symm, bthen hbW hb2 hbW.size⟩
            | false => go_wp2_with fail
                       refine HMw.out.mono ?_
                       rintro e w2 ⟨rfl, hb2⟩
                       go_wp2
                       go_ret
                       exact ⟨ret_int HR.out.symm, bthen hbW hb2 hbW.size⟩
        · have h6' : ¬ (0 : Int) < ((n 6 : Nat) : Int) := by omega
          have HR : Hid (R = if mq = true then 12 else 0) := by show _ = _; rw [HV3.out]; simp [h6]
          clear HV3
          cases mq with
          | true => go_wp2_with fail
                    refine HMw.out.mono ?_
                    rintro e w2 ⟨rfl, hb2⟩
                    go_wp2
                    go_ret
                    exact ⟨ret_int HR.out.symm, bthen hbW hb2 hbW.size⟩
          | false => go_wp2_with fail
                     refine HMw.out.mono ?_
                     rintro e w2 ⟨rfl, hb2⟩
                     go_wp2
                     go_ret
                     exact ⟨ret_int HR.out.symm, bthen hbW hb2 hbW.size⟩
  · have HR : Hid (R = le) := by show _ = _; rw [HV.out, if_pos h0]
    have h0' : (le != 0) = true := by simpa using h0
    clear h0 HV
    go_wp2
    go_ret
    exact ⟨ret_int HR.out.symm, by (repeat' (first | (with_reducible exact Below.refl _ _) | (with_reducible assumption) | (with_reducible refine below_drewN ?_ _) | (with_reducible refine Below.alloc ?_ ?_ _) | (with_reducible refine Below.drew ?_) | (with_reducible refine Below.setCell ?_ ?_ _) | go_size))⟩
end
end Go.Proofs.YtnelecjjbmjhaaaDoor
