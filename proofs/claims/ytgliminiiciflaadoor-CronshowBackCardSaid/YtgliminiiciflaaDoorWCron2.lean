/- The walks of package cron, on: the fields of a line, and whether two are the same. -/
import Derived.Test.YtgliminiiciflaaDoorWCron
import Derived.Test.YtgliminiiciflaaDoorWClone
import Derived.Test.YtgliminiiciflaaDoorWRef24
namespace Go.Proofs.YtgliminiiciflaaDoor
open Go.RowKit
set_option linter.unusedSimpArgs false
set_option linter.unusedVariables false

def eitherB (l : Nat → List It) : Bool := !starB (l 2) && !starB (l 4)
theorem field_in (k : Nat) (hk : k < 5) (A : Nat → Option Addr) (n c : Nat → Nat) (l : Nat → List It) (w : World) (hA : RdLine w A n l) (hn : n k ≤ 4294967296) (hnil : A k = none → n k = 0) :
    Calls Tryd.prog 29 #[crV A n c, .int .i64 k] w (RetIts (n k) (l k) w) := by
  have HLs := Lib.hid (fun W b (h : LineAt W b 0 A n c) => list_in k hk b A n c W h)
  have HCl := Lib.hid (fun W (hb : Below w.heap.size w W) => clone_any (A k) (n k) (c k) (l k) W ((hA k hk).below hb (Nat.le_refl _)) hn hnil)
  clear hA hn hnil
  go_enter Tryd.func29, Tryd.ntmps29
  go_wp2_with fail
  refine (HLs.out _ _ ⟨by simp [go_sem], by simp [go_sem], by simp [go_sem], by simp [go_sem], by simp [go_sem]⟩).mono ?_
  rintro e w1 ⟨rfl, q, rfl⟩
  go_wp2_with fail
  refine (HCl.out _ (by (repeat' (first | (with_reducible exact Below.refl _ _) | (with_reducible assumption) | (with_reducible refine below_drewN ?_ _) | (with_reducible refine Below.alloc ?_ ?_ _) | (with_reducible refine Below.drew ?_) | (with_reducible refine Below.setCell ?_ ?_ _) | go_size)))).mono ?_
  rintro e w1 ⟨A', c', rfl, hr, hb1⟩
  go_wp2
  go_ret
  exact ⟨A', c', rfl, hr, (below_drewN ((Below.refl _ w).alloc (Nat.le_refl _) _) q).trans (hb1.mono (by simp))⟩
theorem field_out (f : Int) (hf : f < 0 ∨ 5 ≤ f) (A : Nat → Option Addr) (n c : Nat → Nat) (w : World) :
    Calls Tryd.prog 29 #[crV A n c, .int .i64 f] w (RetIts 0 [] w) := by
  have HLs := Lib.hid (fun W p => list_out f hf p W)
  have HCl := Lib.hid (fun W => clone_any none 0 0 [] W Rd.nil (by decide) (fun _ => rfl))
  clear hf
  go_enter Tryd.func29, Tryd.ntmps29
  go_wp2_with fail
  refine (HLs.out _ _).mono ?_
  rintro e w1 ⟨rfl, rfl⟩
  go_wp2_with fail
  refine (HCl.out _).mono ?_
  rintro e w1 ⟨A', c', rfl, hr, hb1⟩
  go_wp2
  go_ret
  exact ⟨A', c', rfl, hr, ((Below.refl _ w).alloc (Nat.le_refl _) _).trans (hb1.mono (by simp))⟩

set_option maxHeartbeats 400000 in
theorem equal_any (A B : Option Addr) (n m c d : Nat) (l r : List It) (w : World) (hA : RdIts w A n l) (hB : RdIts w B m r) (hn : n ≤ 9223372036854775807) (hm : m ≤ 9223372036854775807) :
    Calls Tryd.prog 50 #[.slice A n c, .slice B m d] w (RetN (.bool (sameIts l r)) w) := by
  by_cases hnm : n = m
  · have HL : Hid (l.length = n) := hA.1
    have HR : Hid (r.length = n) := hnm ▸ hB.1
    subst hnm
    go_enter Tryd.func50, Tryd.ntmps50
    go_wp2
    go_loopw [13] (fun i wr => ∃ k j : Nat, k ≤ n ∧ i = .int .i64 k ∧ Hid (l.take k = r.take k) ∧ wr = w.drewN j) (fun i _ => n - (intOf i).toNat)
    case atStart => exact ⟨0, 0, Nat.zero_le _, rfl, by simp [Hid], rfl⟩
    case round =>
      obtain ⟨k, j, hk, rfl, htk, rfl⟩ := hrel
      by_cases hlt : k < n
      · obtain ⟨b, o, it, rfl, _, hi, c0, c1, c2, c3⟩ := RdIts.at_ hA hlt
        obtain ⟨b', o', it', rfl, _, hi', c0', c1', c2', c3'⟩ := RdIts.at_ hB hlt
        have Hi := Lib.hid hi
        have Hi' := Lib.hid hi'
        have hlt' : (k : Int) < (n : Int) := by omega
        have hne := neq_it it it'
        clear hi hi'
        go_wp2
        go_quiet (fail)
        go_wp2
        · go_ret
          have h : itNe it it' = true := by assumption
          exact ⟨ret_bool (sameIts_ne Hi.out Hi'.out (itNe_true h)).symm, _, World.drewN_drewN ..⟩
        · have h : itNe it it' = false := by assumption
          go_roundw
          case rel => exact ⟨k + 1, _, by omega, by go_num, take_same htk.out Hi.out Hi'.out (itNe_false h), rfl⟩
          case measure => simp [intOf]; omega
      · obtain rfl : k = n := by omega
        go_wp2
        go_ret
        refine ⟨ret_bool ?_, _, rfl⟩
        have h1 : l = r := by
          have := htk.out
          rwa [List.take_of_length_le (by have := HL.out; omega), List.take_of_length_le (by have := HR.out; omega)] at this
        simp [sameIts, h1]
  · have hne : ((n : Int) == (m : Int)) = false := by simp; omega
    have hne2 : ((n : Int) != (m : Int)) = true := by simp; omega
    have HS : Hid (sameIts l r = false) := sameIts_len (by rw [hA.1, hB.1]; exact hnm)
    go_enter Tryd.func50, Tryd.ntmps50
    go_wp2
    go_ret
    exact ⟨ret_bool HS.out.symm, 0, rfl⟩

/-- Are two lines the same? -/
def sameLine (l r : Nat → List It) : Bool := (List.range 5).all fun k => sameIts (l k) (r k)
theorem sameLine_no {l r : Nat → List It} {k : Nat} (hk : k < 5) (h : sameIts (l k) (r k) = false) : sameLine l r = false := by
  rw [sameLine, List.all_eq_false]
  exact ⟨k, List.mem_range.2 hk, by simp [h]⟩
theorem sameLine_yes {l r : Nat → List It} (H : ∀ k, k < 5 → sameIts (l k) (r k) = true) : sameLine l r = true := by
  rw [sameLine, List.all_eq_true]
  exact fun k hk => H k (List.mem_range.1 hk)
theorem sameLine_self (l : Nat → List It) : sameLine l l = true := sameLine_yes fun k _ => by simp [sameIts]

set_option maxHeartbeats 1000000 in
theorem same_any (A B : Nat → Option Addr) (n c m d : Nat → Nat) (l r : Nat → List It) (w : World) (hA : RdLine w A n l) (hB : RdLine w B m r) (hn : ∀ k, n k ≤ 9223372036854775807) (hm : ∀ k, m k ≤ 9223372036854775807) :
    Calls Tryd.prog 23 #[crV A n c, crV B m d] w (Ret (.bool (sameLine l r)) w) := by
  have HA := Lib.hid hA
  have HB := Lib.hid hB
  have HN := Lib.hid hn
  have HM := Lib.hid hm
  clear hA hB hn hm
  go_enter Tryd.func23, Tryd.ntmps23
  go_wp2
  go_loopw [6] (fun i wr => ∃ k : Nat, k ≤ 5 ∧ i = .int .i64 k ∧ Hid (∀ j, j < k → sameIts (l j) (r j) = true) ∧ Hid (LineAt wr w.heap.size 0 A n c) ∧ Hid (LineAt wr (w.heap.size + 1) 0 B m d) ∧ w.heap.size + 1 < wr.heap.size ∧ Below w.heap.size w wr) (fun i _ => 5 - (intOf i).toNat)
  case atStart =>
    exact ⟨0, by omega, rfl, fun j h => absurd h (Nat.not_lt_zero _), ⟨by simp [go_sem], by simp [go_sem], by simp [go_sem], by simp [go_sem], by simp [go_sem]⟩, ⟨by simp [go_sem], by simp [go_sem], by simp [go_sem], by simp [go_sem], by simp [go_sem]⟩, by (first | (simp; done) | (simp; omega)), by (repeat' (first | (with_reducible exact Below.refl _ _) | (with_reducible assumption) | (with_reducible refine below_drewN ?_ _) | (with_reducible refine Below.alloc ?_ ?_ _) | (with_reducible refine Below.drew ?_) | (with_reducible refine Below.setCell ?_ ?_ _) | go_size))⟩
  case round =>
    obtain ⟨k, hk, rfl, H, HC, HD, hlt, hb⟩ := hrel
    have hsz := hb.size
    by_cases h5 : k < 5
    · have h5' : (k : Int) < 5 := by omega
      have HL := Lib.hid (list_in k h5 w.heap.size A n c wr HC.out)
      have HR := Lib.hid (fun q => list_in k h5 (w.heap.size + 1) B m d (wr.drewN q) HD.out)
      have HE := Lib.hid (fun q => equal_any (A k) (B k) (n k) (m k) (c k) (d k) (l k) (r k) (wr.drewN q) ((HA.out k h5).below (below_drewN hb q) (Nat.le_refl _)) ((HB.out k h5).below (below_drewN hb q) (Nat.le_refl _)) (HN.out k) (HM.out k))
      cases hf : sameIts (l k) (r k) with
      | true =>
        have Hf := Lib.hid hf
        rw [hf] at HE
        clear hf
        go_wp2_with fail
        refine HL.out.mono ?_
        rintro e w1 ⟨rfl, q, rfl⟩
        go_wp2_with fail
        refine (HR.out _).mono ?_
        rintro e w1 ⟨rfl, q', rfl⟩
        go_wp2_with fail
        refine (HE.out _).mono ?_
        rintro e w1 ⟨rfl, q2, rfl⟩
        go_wp2
        go_roundw
        case rel => exact ⟨k + 1, by omega, by go_num, upto_succ H.out Hf.out, HC.out, HD.out, hlt, below_drewN hb _⟩
        case measure => simp [intOf]; omega
      | false =>
        have HK : Hid (sameLine l r = false) := sameLine_no h5 hf
        rw [hf] at HE
        clear hf
        go_wp2_with fail
        refine HL.out.mono ?_
        rintro e w1 ⟨rfl, q, rfl⟩
        go_wp2_with fail
        refine (HR.out _).mono ?_
        rintro e w1 ⟨rfl, q', rfl⟩
        go_wp2_with fail
        refine (HE.out _).mono ?_
        rintro e w1 ⟨rfl, q2, rfl⟩
        go_wp2
        go_ret
        exact ⟨ret_bool HK.out.symm, below_drewN hb _⟩
    · obtain rfl : k = 5 := by omega
      have HK : Hid (sameLine l r = true) := sameLine_yes H.out
      go_wp2
      go_ret
      exact ⟨ret_bool HK.out.symm, hb⟩
end Go.Proofs.YtgliminiiciflaaDoor
