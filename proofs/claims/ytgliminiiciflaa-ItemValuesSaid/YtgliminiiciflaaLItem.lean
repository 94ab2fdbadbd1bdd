/- The laws of layer 12: lives, ItemMay. -/
import Derived.Test.YtgliminiiciflaaWVal2
import Derived.Test.YtgliminiiciflaaWItemOf
import Derived.Test.YtgliminiiciflaaWCron
import Derived.Test.YtgliminiiciflaaWRef12
import Derived.Deep.RegionHeld3
namespace Go.Proofs.Ytgliminiiciflaa
open Go.RowKit
set_option linter.unusedSimpArgs false
set_option linter.unusedVariables false

theorem imask_any (lo hi : Int) (A : Option Addr) (n c : Nat) (l : List It) (w : World) (hA : RdIts w A n l) (hn : n ≤ 100000) :
    Calls Try.prog 48 #[.int .i64 lo, .int .i64 hi, .slice A n c] w (Ret (.int .u64 (maskL (refVal l lo hi))) w) := by
  have HV := Lib.hid (values_any lo hi A n c l w hA hn)
  have hlen : (valL lo hi l).length ≤ 1000000000 := by
    have h1 := rawL_len lo hi l
    have h2 := compact_len ((rawL lo hi l).mergeSort fun x y => decide (x ≤ y))
    rw [sortL_len] at h2
    have h3 : l.length = n := hA.1
    unfold valL
    omega
  rw [← val_eq]
  generalize valL lo hi l = V at *
  clear hA
  go_enter Try.func48, Try.ntmps48
  go_wp2_with fail
  refine HV.out.mono ?_
  rintro e w1 ⟨v, rfl, hown, hb⟩
  obtain ⟨A', c', rfl, _, _, hrd, _⟩ := OwnInts.rd hown
  have HM := Lib.hid (maskOf_any A' V.length c' V w1 hrd (by omega))
  clear hown hrd
  go_wp2_with fail
  refine HM.out.mono ?_
  rintro e w2 ⟨rfl, rfl⟩
  go_wp2
  go_ret
  exact ⟨rfl, hb⟩

theorem livesOf : itemsOf 0 59 [0, 30] true = [⟨1, 0, 0, 0⟩, ⟨1, 30, 0, 0⟩] := by decide +kernel
theorem livesMask : maskL (refVal [⟨0, 0, 0, 15⟩] 0 59) = 35185445863425 := by decide +kernel

set_option maxHeartbeats 1000000 in
theorem lives12_any (w : World) : Calls Try.prog 41 #[] w (Ret (.bool true) w) := by
  have HO := Lib.hid (fun b W h => itemOf_any 0 59 (some ⟨b, 0, none⟩) 2 2 [0, 30] true W h (by decide) (by decide) (by decide))
  rw [livesOf] at HO
  have HM := Lib.hid (fun b W h => imask_any 0 59 (some ⟨b, 0, none⟩) 1 1 [⟨0, 0, 0, 15⟩] W h (by decide))
  rw [livesMask] at HM
  go_enter Try.func41, Try.ntmps41
  go_wp2_with fail
  refine (HO.out _ _ ?_).mono ?_
  · exact rdInts_two _ _ 0 30 (by simp) (by simp [go_sem]) (by simp [go_sem])
  rintro e w1 ⟨v, rfl, hown, hb⟩
  obtain ⟨A', c', rfl, hc1, hc2, hrd, -⟩ := Rd.of_own itEnc_len hown rfl
  have hb1 : Below w.heap.size w w1 := by exact ((Below.refl _ w).alloc (Nat.le_refl _) _).trans (hb.mono (by simp))
  obtain ⟨b, o, it, rfl, hbl, hx, c0, c1', c2, c3⟩ := RdIts.at_ hrd (i := 0) (by decide)
  obtain rfl : it = ⟨1, 0, 0, 0⟩ := by simpa using hx.symm
  rw [Nat.zero_mul, Nat.add_zero] at c0 c1' c2 c3
  have hsz := hb1.size
  have he := fun W => eql_it ⟨1, 0, 0, 0⟩ ⟨1, 0, 0, 0⟩ W
  have hee : itEq ⟨1, 0, 0, 0⟩ ⟨1, 0, 0, 0⟩ = true := by simp [itEq]
  rw [hee] at he
  clear hown hrd hb hx hee
  go_wp2_with fail
  refine (HM.out _ _ ?_).mono ?_
  · exact rdIts_one _ _ ⟨0, 0, 0, 15⟩ (by simp) (by simp [go_sem]) (by simp [go_sem]) (by simp [go_sem]) (by simp [go_sem])
  rintro e w2 ⟨rfl, hb2⟩
  have hb3 : Below w1.heap.size w1 w2 := by exact ((Below.refl _ w1).alloc (Nat.le_refl _) _).trans (hb2.mono (by simp))
  obtain ⟨hq1, hq2⟩ := bcell hb3
  clear hb2
  go_wp2
  go_ret
  exact ⟨rfl, bthen hb1 hb3 hsz⟩

set_option maxHeartbeats 4000000 in
theorem itemMay_any (A : Option Addr) (n c : Nat) (l : List It) (x0 x1 x2 : Int) (w : World) (hA : RdIts w A n l) (hn : n ≤ 9223372036854775807) :
    Calls Try.prog 8 #[.slice A n c, .agg #[.int .i64 x0, .int .i64 x1, .int .i64 x2]] w (Ret (.bool true) w) := by
  have HV := Lib.hid (fun W => lives12_any W)
  have HA := Lib.hid hA
  clear hA
  by_cases hbig : 500 < n
  · have hbig' : (500 : Int) < (n : Int) := by omega
    go_enter Try.func8, Try.ntmps8
    go_wp2_with fail
    refine (HV.out _).mono ?_
    rintro e w1 ⟨rfl, hb1⟩
    go_wp2
    go_ret
    exact ⟨rfl, ((Below.refl _ w).alloc (Nat.le_refl _) _).trans (hb1.mono (by simp))⟩
  · have hbig' : ¬ (500 : Int) < (n : Int) := by omega
    have HM1 := Lib.hid (fun i W => may_any i x0 x1 W)
    have HM2 := Lib.hid (fun i W => rmay_any i x0 x1 W)
    have HR1 := Lib.hid (fun W (hW : Below w.heap.size w W) => right_any A n c l x0 x1 x2 W (HA.out.below hW (Nat.le_refl _)) (by omega))
    have HR2 := Lib.hid (fun W (hW : Below w.heap.size w W) => rright_any A n c l x0 x1 x2 W (HA.out.below hW (Nat.le_refl _)) (by omega))
    generalize rightB x0 x1 x2 l = rb at *
    go_enter Try.func8, Try.ntmps8
    go_wp2
    go_loopw [5] (fun i wr => ∃ k : Nat, k ≤ n ∧ i = .int .i64 k ∧ (wr.cell? ⟨w.heap.size, 0, none⟩ = some (.int .i64 x0) ∧ wr.cell? ⟨w.heap.size, 1, none⟩ = some (.int .i64 x1) ∧ wr.cell? ⟨w.heap.size, 2, none⟩ = some (.int .i64 x2)) ∧ w.heap.size < wr.heap.size ∧ Below w.heap.size w wr) (fun i _ => n - (intOf i).toNat)
    case atStart => exact ⟨0, Nat.zero_le _, by go_num, ⟨by simp [go_sem], by simp [go_sem], by simp [go_sem]⟩, by simp, by (repeat' (first | (with_reducible exact Below.refl _ _) | (with_reducible assumption) | (with_reducible refine below_drewN ?_ _) | (with_reducible refine Below.alloc ?_ ?_ _) | (with_reducible refine Below.drew ?_) | (with_reducible refine Below.setCell ?_ ?_ _) | go_size))⟩
    case round =>
      obtain ⟨k, hk, rfl, ⟨g0, g1, g2⟩, hgs, hb⟩ := hrel
      have hsz := hb.size
      by_cases hlt : k < n
      · obtain ⟨b, o, it, rfl, hbl, hx, c0, c1, c2, c3⟩ := RdIts.at_ (HA.out.below hb (Nat.le_refl _)) hlt
        have hlt' : (k : Int) < (n : Int) := by omega
        have HS : Hid (∀ w', Below wr.heap.size wr w' → Below wr.heap.size wr w' ∧ w'.cell? ⟨w.heap.size, 0, none⟩ = some (.int .i64 x0) ∧ w'.cell? ⟨w.heap.size, 1, none⟩ = some (.int .i64 x1) ∧ w'.cell? ⟨b, o + k * 4, none⟩ = some (.int .i64 it.k) ∧ w'.cell? ⟨b, o + k * 4 + 1, none⟩ = some (.int .i64 it.f) ∧ w'.cell? ⟨b, o + k * 4 + 2, none⟩ = some (.int .i64 it.t) ∧ w'.cell? ⟨b, o + k * 4 + 3, none⟩ = some (.int .i64 it.s)) := by
          intro w' hW
          have e1 : ∀ o, w'.cell? ⟨w.heap.size, o, none⟩ = wr.cell? ⟨w.heap.size, o, none⟩ := fun o => hW.cell (p := ⟨_, o, none⟩) hgs
          have e2 : ∀ o, w'.cell? ⟨b, o, none⟩ = wr.cell? ⟨b, o, none⟩ := fun o => hW.cell (p := ⟨_, o, none⟩) hbl
          simp only [e1, e2]
          exact ⟨hW, g0, g1, c0, c1, c2, c3⟩
        have HM1' := Lib.hid (fun W => HM1.out it W)
        have HM2' := Lib.hid (fun W => HM2.out it W)
        generalize mayIt it x0 x1 = mb at HM1' HM2'
        clear hx
        go_wp2_with fail
        go_region_held3 (fun w' => Below wr.heap.size wr w' ∧ w'.cell? ⟨w.heap.size, 0, none⟩ = some (.int .i64 x0) ∧ w'.cell? ⟨w.heap.size, 1, none⟩ = some (.int .i64 x1) ∧ w'.cell? ⟨b, o + k * 4, none⟩ = some (.int .i64 it.k) ∧ w'.cell? ⟨b, o + k * 4 + 1, none⟩ = some (.int .i64 it.f) ∧ w'.cell? ⟨b, o + k * 4 + 2, none⟩ = some (.int .i64 it.t) ∧ w'.cell? ⟨b, o + k * 4 + 3, none⟩ = some (.int .i64 it.s))
          (first | (go_split_ands; refine HS.out _ (bthen ?_ hb1 ?_); assumption; exact Below.size (by assumption)) | (refine HS.out _ ?_; exact Below.drew (Below.refl _ _)) | (refine HS.out _ ?_; exact below_drewN (Below.refl _ _) _))
          (first | (go_at_call 42; (with_reducible refine (HM1'.out _).mono ?_); rintro e w1 ⟨rfl, hb1⟩) | (go_at_call 43; (with_reducible refine (HM2'.out _).mono ?_); rintro e w1 ⟨rfl, hb1⟩))
        have hbf : Below wr.heap.size wr w1 := by go_split_ands; assumption
        clear hb1
        go_wp2
        go_roundw
        case rel => exact ⟨k + 1, by omega, by go_num, ⟨(hbf.cell (p := ⟨_, 0, none⟩) hgs).trans g0, (hbf.cell (p := ⟨_, 1, none⟩) hgs).trans g1, (hbf.cell (p := ⟨_, 2, none⟩) hgs).trans g2⟩, Nat.lt_of_lt_of_le hgs hbf.size, bthen hb hbf hsz⟩
        case measure => simp [intOf]; omega
      · obtain rfl : k = n := by omega
        have HS : Hid (∀ w', Below wr.heap.size wr w' → Below wr.heap.size wr w' ∧ w'.cell? ⟨w.heap.size, 0, none⟩ = some (.int .i64 x0) ∧ w'.cell? ⟨w.heap.size, 1, none⟩ = some (.int .i64 x1) ∧ w'.cell? ⟨w.heap.size, 2, none⟩ = some (.int .i64 x2)) := by
          intro w' hW
          have e1 : ∀ o, w'.cell? ⟨w.heap.size, o, none⟩ = wr.cell? ⟨w.heap.size, o, none⟩ := fun o => hW.cell (p := ⟨_, o, none⟩) hgs
          simp only [e1]
          exact ⟨hW, g0, g1, g2⟩
        cases rb with
        | false =>
          go_wp2_with fail
          go_region_held3 (fun w' => Below wr.heap.size wr w' ∧ w'.cell? ⟨w.heap.size, 0, none⟩ = some (.int .i64 x0) ∧ w'.cell? ⟨w.heap.size, 1, none⟩ = some (.int .i64 x1) ∧ w'.cell? ⟨w.heap.size, 2, none⟩ = some (.int .i64 x2))
            (first | (go_split_ands; refine HS.out _ (bthen ?_ hb1 ?_); assumption; exact Below.size (by assumption)) | (refine HS.out _ ?_; exact Below.drew (Below.refl _ _)) | (refine HS.out _ ?_; exact below_drewN (Below.refl _ _) _))
            (first | (go_at_call 44; (with_reducible refine (HR1.out _ ?_).mono ?_); (focus (go_split_ands; exact bthen hb (by assumption) hsz)); rintro e w1 ⟨rfl, hb1⟩) | (go_at_call 40; (with_reducible refine (HR2.out _ ?_).mono ?_); (focus (go_split_ands; exact bthen hb (by assumption) hsz)); rintro e w1 ⟨rfl, hb1⟩) | (go_at_call 41; (with_reducible refine (HV.out _).mono ?_); rintro e w1 ⟨rfl, hb1⟩))
          have hbf : Below wr.heap.size wr w1 := by go_split_ands; assumption
          clear hb1
          go_wp2
          go_ret
          exact ⟨rfl, bthen hb hbf hsz⟩
        | true =>
          go_wp2_with fail
          go_region_held3 (fun w' => Below wr.heap.size wr w' ∧ w'.cell? ⟨w.heap.size, 0, none⟩ = some (.int .i64 x0) ∧ w'.cell? ⟨w.heap.size, 1, none⟩ = some (.int .i64 x1) ∧ w'.cell? ⟨w.heap.size, 2, none⟩ = some (.int .i64 x2))
            (first | (go_split_ands; refine HS.out _ (bthen ?_ hb1 ?_); assumption; exact Below.size (by assumption)) | (refine HS.out _ ?_; exact Below.drew (Below.refl _ _)) | (refine HS.out _ ?_; exact below_drewN (Below.refl _ _) _))
            (first | (go_at_call 44; (with_reducible refine (HR1.out _ ?_).mono ?_); (focus (go_split_ands; exact bthen hb (by assumption) hsz)); rintro e w1 ⟨rfl, hb1⟩) | (go_at_call 40; (with_reducible refine (HR2.out _ ?_).mono ?_); (focus (go_split_ands; exact bthen hb (by assumption) hsz)); rintro e w1 ⟨rfl, hb1⟩) | (go_at_call 41; (with_reducible refine (HV.out _).mono ?_); rintro e w1 ⟨rfl, hb1⟩))
          have hbf : Below wr.heap.size wr w1 := by go_split_ands; assumption
          clear hb1
          go_wp2
          go_ret
          exact ⟨rfl, bthen hb hbf hsz⟩
end Go.Proofs.Ytgliminiiciflaa
