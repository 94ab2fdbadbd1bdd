/- The walks of feriaref28: Bounds, Most, Great, Check. -/
import Derived.Test.YtnelecjjbmjhaaaGreatDoorWCsD
import Derived.Test.YtnelecjjbmjhaaaGreatDoorWRef12
namespace Go.Proofs.YtnelecjjbmjhaaaGreatDoor
open Go.RowKit
set_option linter.unusedSimpArgs false
set_option linter.unusedVariables false

set_option maxHeartbeats 2000000 in
theorem rbounds28 (k : Nat) (hk : k < 7) (w : World) : Calls Tryz.prog 55 #[.int .i64 (k : Int)] w (RetQ (.tuple #[.int .i64 (kLo k), .int .i64 (kHi k)]) w) := by
  obtain rfl | rfl | rfl | rfl | rfl | rfl | rfl : k = 0 ∨ k = 1 ∨ k = 2 ∨ k = 3 ∨ k = 4 ∨ k = 5 ∨ k = 6 := by omega
  all_goals
    go_enter Tryz.func55, Tryz.ntmps55
    go_wp2
    go_ret2
    exact ⟨rfl, rfl⟩
theorem rmost28 (k : Nat) (w : World) : Calls Tryz.prog 56 #[.int .i64 (k : Int)] w (RetQ (.int .i64 (kMost k)) w) := by
  by_cases h : k = 1
  · subst h
    go_enter Tryz.func56, Tryz.ntmps56
    go_wp2
    go_ret
    exact ⟨rfl, rfl⟩
  · have h' : ((k : Int) == 1) = false := by simp; omega
    have HR : Hid (((kMost k : Nat) : Int) = 64) := by show _ = _; unfold kMost; rw [if_neg (by omega)]; rfl
    clear h
    go_enter Tryz.func56, Tryz.ntmps56
    go_wp2
    go_ret
    exact ⟨ret_int HR.out.symm, rfl⟩
/-- Is an event more than is gone through? -/
def kgreat (n : Nat → Nat) : Bool := (List.range 7).any fun k => decide (500 < n (kslot k))
theorem kgreat_yes {n : Nat → Nat} {k : Nat} (hk : k < 7) (h : 500 < n (kslot k)) : kgreat n = true := by
  unfold kgreat
  rw [List.any_eq_true]
  exact ⟨k, List.mem_range.2 hk, decide_eq_true h⟩
theorem kgreat_no {n : Nat → Nat} (H : ∀ k, k < 7 → n (kslot k) ≤ 500) : kgreat n = false := by
  unfold kgreat
  rw [List.any_eq_false]
  intro k hk
  have := H k (List.mem_range.1 hk)
  simp; omega
theorem kgreat_le {n : Nat → Nat} (h : kgreat n = false) : ∀ j, j < 8 → j ≠ 4 → n j ≤ 500 := by
  have key : ∀ k, k < 7 → n (kslot k) ≤ 500 := by
    intro k hk
    rcases Nat.lt_or_ge 500 (n (kslot k)) with h1 | h1
    · rw [kgreat_yes hk h1] at h; cases h
    · exact h1
  intro j hj h4
  by_cases h5 : j < 4
  · have := key j (by omega)
    unfold kslot at this
    rwa [if_pos h5] at this
  · have := key (j - 1) (by omega)
    unfold kslot at this
    rw [if_neg (by omega)] at this
    rwa [show j - 1 + 1 = j by omega] at this
set_option maxRecDepth 10000 in
set_option maxHeartbeats 1000000 in
theorem kgreat_any (A : Nat → Option Addr) (n m : Nat → Nat) (bk : Bool) (w : World) : Calls Tryz.prog 17 #[evV A n m bk] w (Ret (.bool (kgreat n)) w) := by
  have HE0 := Lib.hid (evAt_new w A n m bk 40)
  have HF := Lib.hid (fun (k : Nat) (hk : k < 7) W => rfield28_in k hk A n m bk W)
  unfold evV at *
  go_enter Tryz.func17, Tryz.ntmps17
  go_wp2
  go_loopw [3] (fun i wr => ∃ k : Nat, k ≤ 7 ∧ i = .int .i64 k ∧ Hid (∀ j, j < k → n (kslot j) ≤ 500) ∧ Hid (EvAt wr w.heap.size A n m bk) ∧ w.heap.size < wr.heap.size ∧ Below w.heap.size w wr) (fun i _ => 7 - (intOf i).toNat)
  case atStart => exact ⟨0, by omega, rfl, fun j h => absurd h (Nat.not_lt_zero _), HE0, by (first | (simp; done) | (simp; omega)), by (repeat' (first | (with_reducible exact Below.refl _ _) | (with_reducible assumption) | (with_reducible refine below_drewN ?_ _) | (with_reducible refine Below.alloc ?_ ?_ _) | (with_reducible refine Below.drew ?_) | (with_reducible refine Below.setCell ?_ ?_ _) | go_size))⟩
  case round =>
    obtain ⟨k, hk, rfl, H, HC, hlt, hb⟩ := hrel
    have hsz := hb.size
    by_cases h5 : k < 7
    · have h5' : (k : Int) < 7 := by omega
      obtain ⟨l0, l1, l2, l3, l4, l5, l6, l7⟩ := HC.out
      by_cases hf : 500 < n (kslot k)
      · have HK : Hid (kgreat n = true) := kgreat_yes h5 hf
        have hf' : (500 : Int) < ((n (kslot k) : Nat) : Int) := by omega
        go_wp2_with fail
        refine (HF.out k h5 _).mono ?_
        rintro e w1 ⟨rfl, hb1⟩
        go_wp2
        go_ret
        exact ⟨ret_bool HK.out.symm, bthen hb hb1 hsz⟩
      · have Hf : Hid (n (kslot k) ≤ 500) := Nat.le_of_not_lt hf
        have hf' : ¬ (500 : Int) < ((n (kslot k) : Nat) : Int) := by omega
        clear hf
        go_wp2_with fail
        refine (HF.out k h5 _).mono ?_
        rintro e w1 ⟨rfl, hb1⟩
        go_wp2
        go_roundw
        case rel => exact ⟨k + 1, by omega, by go_num, upto_succ H.out Hf.out, HC.out.below hb1, Nat.lt_of_lt_of_le hlt hb1.size, bthen hb hb1 hsz⟩
        case measure => simp [intOf]; omega
    · obtain rfl : k = 7 := by omega
      have HK : Hid (kgreat n = false) := kgreat_no H.out
      go_wp2
      go_ret
      exact ⟨ret_bool HK.out.symm, hb⟩
theorem kfault_bad {f : Int} {l : List It} {j : Nat} {it : It} (h0 : ¬ l.length = 0) (h1 : ¬ kMost f < l.length) (hx : l[j]? = some it) (h : (kOdd f (l.length : Int) it || !mayIt it (kLo f) (kHi f)) = true) : kfault f l = 1 := by
  unfold kfault
  rw [if_neg h0, if_neg h1, if_pos]
  rw [List.any_eq_true]
  exact ⟨it, List.mem_of_getElem? hx, h⟩
theorem kfault_good {f : Int} {l : List It} (h0 : ¬ l.length = 0) (h1 : ¬ kMost f < l.length) (H : ∀ j it, j < l.length → l[j]? = some it → (kOdd f (l.length : Int) it || !mayIt it (kLo f) (kHi f)) = false) : kfault f l = 0 := by
  unfold kfault
  rw [if_neg h0, if_neg h1, if_neg]
  rw [Bool.not_eq_true, List.any_eq_false]
  intro x hx
  obtain ⟨j, hj⟩ := List.getElem?_of_mem hx
  rw [H j x (List.getElem?_eq_some_iff.1 hj).1 hj]; simp
/-- An item is wrong in a field: the test of the reference. -/
def rOdd (k n : Nat) (it : It) : Bool := if k = 0 then it.k == 0 || it.k == 3 || decide (1 < it.s) else it.k == 0 && (decide (1 < (n : Int)) || it.s != 1)
theorem rOdd_eq (k n : Nat) (it : It) : (rOdd k n it || !mayIt it (kLo k) (kHi k)) = (kOdd k n it || !mayIt it (kLo k) (kHi k)) := by
  unfold rOdd kOdd
  by_cases hk : k = 0
  · subst hk
    rw [if_pos rfl, if_pos (by rfl)]
    congr 1
    rw [Bool.eq_iff_iff]; simp [or_assoc]
  · rw [if_neg hk, if_neg (by omega)]
    by_cases hm : MayP it (kLo k) (kHi k)
    · have e : mayIt it (kLo k) (kHi k) = true := decide_eq_true hm
      rw [e]
      simp only [Bool.not_true, Bool.or_false]
      rw [Bool.eq_iff_iff]
      simp only [Bool.and_eq_true, Bool.or_eq_true, beq_iff_eq, bne_iff_ne, ne_eq, decide_eq_true_eq]
      obtain ⟨_, _, _, h⟩ := hm
      constructor
      · rintro ⟨h0, h1⟩; refine ⟨h0, ?_⟩; omega
      · rintro ⟨h0, h1⟩; refine ⟨h0, ?_⟩; omega
    · have e : mayIt it (kLo k) (kHi k) = false := decide_eq_false hm
      rw [e]; simp
set_option maxRecDepth 20000 in
set_option maxHeartbeats 4000000 in
theorem rcheck28_any (A : Nat → Option Addr) (n m : Nat → Nat) (c : CalV) (bk : Bool) (w : World) (hA : RdEv w A n c) (hn : ∀ k, k < 7 → n (kslot k) ≤ 9223372036854775807) :
    Calls Tryz.prog 19 #[evV A n m bk] w (Ret (.tuple #[.int .i64 (kchk c).1, .int .i64 (kchk c).2]) w) := by
  have HA := Lib.hid hA
  have HN := Lib.hid hn
  clear hA hn
  have HE0 := Lib.hid (evAt_new w A n m bk 40)
  have HF := Lib.hid (fun (k : Nat) (hk : k < 7) W => rfield28_in k hk A n m bk W)
  unfold evV at *
  go_enter Tryz.func19, Tryz.ntmps19
  go_wp2
  go_loopw [4] (fun i wr => ∃ k : Nat, k ≤ 7 ∧ i = .int .i64 k ∧ Hid (∀ j : Nat, j < k → kfault j (kget c j) = 0) ∧ Hid (EvAt wr w.heap.size A n m bk) ∧ w.heap.size < wr.heap.size ∧ Below w.heap.size w wr) (fun i _ => 7 - (intOf i).toNat)
  case atStart => exact ⟨0, by omega, rfl, fun j h => absurd h (Nat.not_lt_zero _), HE0, by (first | (simp; done) | (simp; omega)), by (repeat' (first | (with_reducible exact Below.refl _ _) | (with_reducible assumption) | (with_reducible refine below_drewN ?_ _) | (with_reducible refine Below.alloc ?_ ?_ _) | (with_reducible refine Below.drew ?_) | (with_reducible refine Below.setCell ?_ ?_ _) | go_size))⟩
  case round =>
    obtain ⟨k, hk, rfl, H, HC, hlt, hb⟩ := hrel
    have hsz := hb.size
    by_cases h5 : k < 7
    · have h5' : (k : Int) < 7 := by omega
      have HFk := Lib.hid (HF.out k h5 wr)
      have HB := Lib.hid (fun W => rbounds28 k h5 W)
      have HMo := Lib.hid (fun W => rmost28 k W)
      have HR := Lib.hid (HA.out.slot h5)
      have HRL : Hid ((kget c k).length = n (kslot k)) := (HA.out.slot h5).1
      have hnk := HN.out k h5
      obtain ⟨l0, l1, l2, l3, l4, l5, l6, l7⟩ := HC.out
      clear HF
      by_cases h00 : n (kslot k) = 0 ∧ 0 < k
      · have hf : kfault k (kget c k) = 11 := by rw [kfault_nil (by rw [HRL.out, h00.1]), if_neg (by omega)]
        have HK : Hid (kchk c = ((k : Int), 11)) := by rw [← hf]; exact kchk_at h5 H.out (by rw [hf]; decide)
        have h0' : (((n (kslot k) : Nat) : Int) == 0) = true := by simp; omega
        have hk0' : (0 : Int) < (k : Int) := by omega
        clear hf h00
        go_wp2_with fail
        refine HFk.out.mono ?_
        rintro e w1 ⟨rfl, hb1⟩
        go_wp2_with fail
        refine (HB.out _).mono ?_
        rintro e w2 ⟨rfl, rfl⟩
        go_wp2
        go_ret2
        exact ⟨by rw [HK.out]; rfl, bthen hb hb1 hsz⟩
      have HRm := Lib.hid (fun w1 (hb1 : Below w.heap.size w w1) => HR.out.below hb1 (Nat.le_refl _))
      by_cases h64 : kMost k < n (kslot k)
      · have hf : kfault k (kget c k) = 5 := kfault_long (by rw [HRL.out]; exact h64)
        have HK : Hid (kchk c = ((k : Int), 5)) := by rw [← hf]; exact kchk_at h5 H.out (by rw [hf]; decide)
        have h64' : ((kMost k : Nat) : Int) < ((n (kslot k) : Nat) : Int) := by omega
        have h0' : (((n (kslot k) : Nat) : Int) == 0) = false := by simp; omega
        generalize ((kMost k : Nat) : Int) = mo at *
        clear hf h64
        go_wp2_with fail
        refine HFk.out.mono ?_
        rintro e w1 ⟨rfl, hb1⟩
        go_wp2_with fail
        refine (HB.out _).mono ?_
        rintro e w2 ⟨rfl, rfl⟩
        go_wp2_with fail
        refine (HMo.out _).mono ?_
        rintro e w2 ⟨rfl, rfl⟩
        go_wp2
        go_ret2
        exact ⟨by rw [HK.out]; rfl, bthen hb hb1 hsz⟩
      have h64' : ¬ ((kMost k : Nat) : Int) < ((n (kslot k) : Nat) : Int) := by omega
      have H64 := Lib.hid h64
      have HNil : Hid (n (kslot k) = 0 → kfault k (kget c k) = 0) := fun e => by
        rw [kfault_nil (by rw [HRL.out, e]), if_pos (by omega)]
      have HTest : Hid ((((n (kslot k) : Nat) : Int) == 0) = false ∨ (((n (kslot k) : Nat) : Int) == 0) = true ∧ ¬ (0 : Int) < (k : Int)) := by
        by_cases e : n (kslot k) = 0
        · right; exact ⟨by simp; exact e, by omega⟩
        · left; simp; exact e
      generalize ((kMost k : Nat) : Int) = mo at *
      clear h64 h00
      generalize hnq : n (kslot k) = nk at *
      clear hnq
      generalize hcq : m (kslot k) = ck at *
      clear hcq
      obtain ⟨wo, rfl⟩ : ∃ wo : World, wo = wr := ⟨_, rfl⟩
      rcases HTest.out with h0' | ⟨h0', hk0'⟩
      · clear HTest
        go_wp2_with fail
        refine HFk.out.mono ?_
        rintro e w1 ⟨rfl, hb1⟩
        go_wp2_with fail
        refine (HB.out _).mono ?_
        rintro e w2 ⟨rfl, rfl⟩
        go_wp2_with fail
        refine (HMo.out _).mono ?_
        rintro e w2 ⟨rfl, rfl⟩
        have hb01 : Below w.heap.size w w1 := bthen hb hb1 hsz
        have hlt1 : w.heap.size < w1.heap.size := Nat.lt_of_lt_of_le hlt hb1.size
        have HC1 : Hid (EvAt w1 w.heap.size A n m bk) := HC.out.below hb1
        clear l0 l1 l2 l3 l4 l5 l6 l7 HFk HC h0'
        go_wp2
        go_loopw [8] (fun i wq => ∃ j : Nat, j ≤ nk ∧ i = .int .i64 j ∧ Hid (∀ q it, q < j → (kget c k)[q]? = some it → (kOdd k nk it || !mayIt it (kLo k) (kHi k)) = false) ∧ Below w1.heap.size w1 wq) (fun i _ => nk - (intOf i).toNat)
        case atStart => exact ⟨0, Nat.zero_le _, rfl, fun j _ h => absurd h (Nat.not_lt_zero _), Below.refl _ _⟩
        case round =>
          obtain ⟨j, hj, rfl, HI, hbq⟩ := hrel
          have hb0q : Below w.heap.size w wr := bthen hb01 hbq hb01.size
          have hszq := hbq.size
          by_cases hlj : j < nk
          · obtain ⟨b, o, it, e1, hbl, hx, c0, c1, c2, c3⟩ := RdIts.at_ (HRm.out _ hb0q) hlj
            rw [e1]
            have hlj' : (j : Int) < (nk : Int) := by omega
            have Hx := Lib.hid hx
            have HO := Lib.hid (rOdd_eq k nk it)
            have HBad : Hid (rOdd k nk it = true ∨ mayIt it (kLo k) (kHi k) = false → kchk c = ((k : Int), 1)) := by
              intro hh
              have hq : (kOdd k nk it || !mayIt it (kLo k) (kHi k)) = true := by
                rw [← HO.out]; rcases hh with hh | hh <;> simp [hh]
              have hf : kfault k (kget c k) = 1 := kfault_bad (j := j) (it := it) (by rw [HRL.out]; omega) (by rw [HRL.out]; exact H64.out) Hx.out (by rw [HRL.out]; exact hq)
              rw [← hf]; exact kchk_at h5 H.out (by rw [hf]; decide)
            clear hx
            by_cases q0 : it.k = 0
            · have q0' : (it.k == 0) = true := by simpa using q0
              have q3' : (it.k == 3) = false := by simp; omega
              by_cases k0 : k = 0
              · have k0' : ((k : Int) == 0) = true := by simp; omega
                have HK : Hid (kchk c = ((k : Int), 1)) := HBad.out (.inl (by unfold rOdd; rw [if_pos k0]; simp [q0]))
                clear q0 k0 HBad HO
                by_cases hm : 1 < (nk : Int)
                · go_wp2
                  go_ret2
                  exact ⟨by rw [HK.out]; rfl, hb0q⟩
                · by_cases s1 : it.s = 1
                  · have s1' : (it.s != 1) = false := by simpa using s1
                    clear s1
                    go_wp2
                    go_ret2
                    exact ⟨by rw [HK.out]; rfl, hb0q⟩
                  · have s1' : (it.s != 1) = true := by simpa using s1
                    clear s1
                    go_wp2
                    go_ret2
                    exact ⟨by rw [HK.out]; rfl, hb0q⟩
              · have k0' : ((k : Int) == 0) = false := by simp; omega
                by_cases hm : 1 < (nk : Int)
                · have HK : Hid (kchk c = ((k : Int), 1)) := HBad.out (.inl (by unfold rOdd; rw [if_neg k0]; simp [q0]; omega))
                  clear q0 k0 HBad HO
                  go_wp2
                  go_ret2
                  exact ⟨by rw [HK.out]; rfl, hb0q⟩
                · by_cases s1 : it.s = 1
                  · have s1' : (it.s != 1) = false := by simpa using s1
                    have HOf : Hid (rOdd k nk it = false) := by show _ = _; unfold rOdd; rw [if_neg k0]; simp [q0, s1]; omega
                    clear q0 k0 s1
                    have HBad2 : Hid (mayIt it (kLo k) (kHi k) = false → kchk c = ((k : Int), 1)) := fun h => HBad.out (.inr h)
                    clear HBad
                    cases hm : mayIt it (kLo k) (kHi k) with
                    | false =>
                      have HK : Hid (kchk c = ((k : Int), 1)) := HBad2.out hm
                      clear HBad2 HO
                      go_wp2_with fail
                      refine (rmay_any it _ _ _).mono ?_
                      rintro e w3 ⟨rfl, hb3⟩
                      simp only [hm]
                      go_wp2
                      go_ret2
                      exact ⟨by rw [HK.out]; rfl, bthen hb0q hb3 hb0q.size⟩
                    | true =>
                      have Hm : Hid ((kOdd k nk it || !mayIt it (kLo k) (kHi k)) = false) := by
                        show _ = false
                        rw [← HO.out, HOf.out, hm]; rfl
                      clear HBad2 HO
                      go_wp2_with fail
                      refine (rmay_any it _ _ _).mono ?_
                      rintro e w3 ⟨rfl, hb3⟩
                      simp only [hm]
                      go_wp2
                      go_roundw
                      case rel => exact ⟨j + 1, by omega, by go_num, all_succ (p := fun (it : It) => kOdd k nk it || !mayIt it (kLo k) (kHi k)) HI.out Hx.out Hm.out, bthen hbq hb3 hszq⟩
                      case measure => simp [intOf]; omega
                  · have s1' : (it.s != 1) = true := by simpa using s1
                    have HK : Hid (kchk c = ((k : Int), 1)) := HBad.out (.inl (by unfold rOdd; rw [if_neg k0]; simp [q0, s1]))
                    clear q0 k0 HBad HO s1
                    go_wp2
                    go_ret2
                    exact ⟨by rw [HK.out]; rfl, hb0q⟩
            · have q0' : (it.k == 0) = false := by simpa using q0
              by_cases k0 : k = 0
              · have k0' : ((k : Int) == 0) = true := by simp; omega
                by_cases q3 : it.k = 3
                · have q3' : (it.k == 3) = true := by simpa using q3
                  have HK : Hid (kchk c = ((k : Int), 1)) := HBad.out (.inl (by unfold rOdd; rw [if_pos k0]; simp [q3]))
                  clear q0 k0 HBad HO q3
                  go_wp2
                  go_ret2
                  exact ⟨by rw [HK.out]; rfl, hb0q⟩
                · have q3' : (it.k == 3) = false := by simpa using q3
                  by_cases s1 : 1 < it.s
                  · have HK : Hid (kchk c = ((k : Int), 1)) := HBad.out (.inl (by unfold rOdd; rw [if_pos k0]; simp [s1]))
                    clear q0 k0 HBad HO q3
                    go_wp2
                    go_ret2
                    exact ⟨by rw [HK.out]; rfl, hb0q⟩
                  · have HOf : Hid (rOdd k nk it = false) := by show _ = _; unfold rOdd; rw [if_pos k0]; simp [q0, q3]; omega
                    clear q0 k0 q3
                    have HBad2 : Hid (mayIt it (kLo k) (kHi k) = false → kchk c = ((k : Int), 1)) := fun h => HBad.out (.inr h)
                    clear HBad
                    cases hm : mayIt it (kLo k) (kHi k) with
                    | false =>
                      have HK : Hid (kchk c = ((k : Int), 1)) := HBad2.out hm
                      clear HBad2 HO
                      go_wp2_with fail
                      refine (rmay_any it _ _ _).mono ?_
                      rintro e w3 ⟨rfl, hb3⟩
                      simp only [hm]
                      go_wp2
                      go_ret2
                      exact ⟨by rw [HK.out]; rfl, bthen hb0q hb3 hb0q.size⟩
                    | true =>
                      have Hm : Hid ((kOdd k nk it || !mayIt it (kLo k) (kHi k)) = false) := by
                        show _ = false
                        rw [← HO.out, HOf.out, hm]; rfl
                      clear HBad2 HO
                      go_wp2_with fail
                      refine (rmay_any it _ _ _).mono ?_
                      rintro e w3 ⟨rfl, hb3⟩
                      simp only [hm]
                      go_wp2
                      go_roundw
                      case rel => exact ⟨j + 1, by omega, by go_num, all_succ (p := fun (it : It) => kOdd k nk it || !mayIt it (kLo k) (kHi k)) HI.out Hx.out Hm.out, bthen hbq hb3 hszq⟩
                      case measure => simp [intOf]; omega
              · have k0' : ((k : Int) == 0) = false := by simp; omega
                have HOf : Hid (rOdd k nk it = false) := by show _ = _; unfold rOdd; rw [if_neg k0]; simp [q0]
                clear q0 k0
                have HBad2 : Hid (mayIt it (kLo k) (kHi k) = false → kchk c = ((k : Int), 1)) := fun h => HBad.out (.inr h)
                clear HBad
                cases hm : mayIt it (kLo k) (kHi k) with
                | false =>
                  have HK : Hid (kchk c = ((k : Int), 1)) := HBad2.out hm
                  clear HBad2 HO
                  go_wp2_with fail
                  refine (rmay_any it _ _ _).mono ?_
                  rintro e w3 ⟨rfl, hb3⟩
                  simp only [hm]
                  go_wp2
                  go_ret2
                  exact ⟨by rw [HK.out]; rfl, bthen hb0q hb3 hb0q.size⟩
                | true =>
                  have Hm : Hid ((kOdd k nk it || !mayIt it (kLo k) (kHi k)) = false) := by
                    show _ = false
                    rw [← HO.out, HOf.out, hm]; rfl
                  clear HBad2 HO
                  go_wp2_with fail
                  refine (rmay_any it _ _ _).mono ?_
                  rintro e w3 ⟨rfl, hb3⟩
                  simp only [hm]
                  go_wp2
                  go_roundw
                  case rel => exact ⟨j + 1, by omega, by go_num, all_succ (p := fun (it : It) => kOdd k nk it || !mayIt it (kLo k) (kHi k)) HI.out Hx.out Hm.out, bthen hbq hb3 hszq⟩
                  case measure => simp [intOf]; omega
          · obtain rfl : j = nk := by omega
            have Hf : Hid (kfault k (kget c k) = 0) := by
              by_cases e : j = 0
              · exact HNil.out e
              · exact kfault_good (by rw [HRL.out]; exact e) (by rw [HRL.out]; exact H64.out) (by rw [HRL.out]; exact HI.out)
            go_wp2
            go_roundw
            case rel => exact ⟨k + 1, by omega, by go_num, upto_succ H.out Hf.out, HC1.out.below hbq, Nat.lt_of_lt_of_le hlt1 hszq, hb0q⟩
            case measure => simp [intOf]; omega
      · clear HTest
        go_wp2_with fail
        refine HFk.out.mono ?_
        rintro e w1 ⟨rfl, hb1⟩
        go_wp2_with fail
        refine (HB.out _).mono ?_
        rintro e w2 ⟨rfl, rfl⟩
        go_wp2_with fail
        refine (HMo.out _).mono ?_
        rintro e w2 ⟨rfl, rfl⟩
        have hb01 : Below w.heap.size w w1 := bthen hb hb1 hsz
        have hlt1 : w.heap.size < w1.heap.size := Nat.lt_of_lt_of_le hlt hb1.size
        have HC1 : Hid (EvAt w1 w.heap.size A n m bk) := HC.out.below hb1
        clear l0 l1 l2 l3 l4 l5 l6 l7 HFk HC h0'
        go_wp2
        go_loopw [8] (fun i wq => ∃ j : Nat, j ≤ nk ∧ i = .int .i64 j ∧ Hid (∀ q it, q < j → (kget c k)[q]? = some it → (kOdd k nk it || !mayIt it (kLo k) (kHi k)) = false) ∧ Below w1.heap.size w1 wq) (fun i _ => nk - (intOf i).toNat)
        case atStart => exact ⟨0, Nat.zero_le _, rfl, fun j _ h => absurd h (Nat.not_lt_zero _), Below.refl _ _⟩
        case round =>
          obtain ⟨j, hj, rfl, HI, hbq⟩ := hrel
          have hb0q : Below w.heap.size w wr := bthen hb01 hbq hb01.size
          have hszq := hbq.size
          by_cases hlj : j < nk
          · obtain ⟨b, o, it, e1, hbl, hx, c0, c1, c2, c3⟩ := RdIts.at_ (HRm.out _ hb0q) hlj
            rw [e1]
            have hlj' : (j : Int) < (nk : Int) := by omega
            have Hx := Lib.hid hx
            have HO := Lib.hid (rOdd_eq k nk it)
            have HBad : Hid (rOdd k nk it = true ∨ mayIt it (kLo k) (kHi k) = false → kchk c = ((k : Int), 1)) := by
              intro hh
              have hq : (kOdd k nk it || !mayIt it (kLo k) (kHi k)) = true := by
                rw [← HO.out]; rcases hh with hh | hh <;> simp [hh]
              have hf : kfault k (kget c k) = 1 := kfault_bad (j := j) (it := it) (by rw [HRL.out]; omega) (by rw [HRL.out]; exact H64.out) Hx.out (by rw [HRL.out]; exact hq)
              rw [← hf]; exact kchk_at h5 H.out (by rw [hf]; decide)
            clear hx
            by_cases q0 : it.k = 0
            · have q0' : (it.k == 0) = true := by simpa using q0
              have q3' : (it.k == 3) = false := by simp; omega
              by_cases k0 : k = 0
              · have k0' : ((k : Int) == 0) = true := by simp; omega
                have HK : Hid (kchk c = ((k : Int), 1)) := HBad.out (.inl (by unfold rOdd; rw [if_pos k0]; simp [q0]))
                clear q0 k0 HBad HO
                by_cases hm : 1 < (nk : Int)
                · go_wp2
                  go_ret2
                  exact ⟨by rw [HK.out]; rfl, hb0q⟩
                · by_cases s1 : it.s = 1
                  · have s1' : (it.s != 1) = false := by simpa using s1
                    clear s1
                    go_wp2
                    go_ret2
                    exact ⟨by rw [HK.out]; rfl, hb0q⟩
                  · have s1' : (it.s != 1) = true := by simpa using s1
                    clear s1
                    go_wp2
                    go_ret2
                    exact ⟨by rw [HK.out]; rfl, hb0q⟩
              · have k0' : ((k : Int) == 0) = false := by simp; omega
                by_cases hm : 1 < (nk : Int)
                · have HK : Hid (kchk c = ((k : Int), 1)) := HBad.out (.inl (by unfold rOdd; rw [if_neg k0]; simp [q0]; omega))
                  clear q0 k0 HBad HO
                  go_wp2
                  go_ret2
                  exact ⟨by rw [HK.out]; rfl, hb0q⟩
                · by_cases s1 : it.s = 1
                  · have s1' : (it.s != 1) = false := by simpa using s1
                    have HOf : Hid (rOdd k nk it = false) := by show _ = _; unfold rOdd; rw [if_neg k0]; simp [q0, s1]; omega
                    clear q0 k0 s1
                    have HBad2 : Hid (mayIt it (kLo k) (kHi k) = false → kchk c = ((k : Int), 1)) := fun h => HBad.out (.inr h)
                    clear HBad
                    cases hm : mayIt it (kLo k) (kHi k) with
                    | false =>
                      have HK : Hid (kchk c = ((k : Int), 1)) := HBad2.out hm
                      clear HBad2 HO
                      go_wp2_with fail
                      refine (rmay_any it _ _ _).mono ?_
                      rintro e w3 ⟨rfl, hb3⟩
                      simp only [hm]
                      go_wp2
                      go_ret2
                      exact ⟨by rw [HK.out]; rfl, bthen hb0q hb3 hb0q.size⟩
                    | true =>
                      have Hm : Hid ((kOdd k nk it || !mayIt it (kLo k) (kHi k)) = false) := by
                        show _ = false
                        rw [← HO.out, HOf.out, hm]; rfl
                      clear HBad2 HO
                      go_wp2_with fail
                      refine (rmay_any it _ _ _).mono ?_
                      rintro e w3 ⟨rfl, hb3⟩
                      simp only [hm]
                      go_wp2
                      go_roundw
                      case rel => exact ⟨j + 1, by omega, by go_num, all_succ (p := fun (it : It) => kOdd k nk it || !mayIt it (kLo k) (kHi k)) HI.out Hx.out Hm.out, bthen hbq hb3 hszq⟩
                      case measure => simp [intOf]; omega
                  · have s1' : (it.s != 1) = true := by simpa using s1
                    have HK : Hid (kchk c = ((k : Int), 1)) := HBad.out (.inl (by unfold rOdd; rw [if_neg k0]; simp [q0, s1]))
                    clear q0 k0 HBad HO s1
                    go_wp2
                    go_ret2
                    exact ⟨by rw [HK.out]; rfl, hb0q⟩
            · have q0' : (it.k == 0) = false := by simpa using q0
              by_cases k0 : k = 0
              · have k0' : ((k : Int) == 0) = true := by simp; omega
                by_cases q3 : it.k = 3
                · have q3' : (it.k == 3) = true := by simpa using q3
                  have HK : Hid (kchk c = ((k : Int), 1)) := HBad.out (.inl (by unfold rOdd; rw [if_pos k0]; simp [q3]))
                  clear q0 k0 HBad HO q3
                  go_wp2
                  go_ret2
                  exact ⟨by rw [HK.out]; rfl, hb0q⟩
                · have q3' : (it.k == 3) = false := by simpa using q3
                  by_cases s1 : 1 < it.s
                  · have HK : Hid (kchk c = ((k : Int), 1)) := HBad.out (.inl (by unfold rOdd; rw [if_pos k0]; simp [s1]))
                    clear q0 k0 HBad HO q3
                    go_wp2
                    go_ret2
                    exact ⟨by rw [HK.out]; rfl, hb0q⟩
                  · have HOf : Hid (rOdd k nk it = false) := by show _ = _; unfold rOdd; rw [if_pos k0]; simp [q0, q3]; omega
                    clear q0 k0 q3
                    have HBad2 : Hid (mayIt it (kLo k) (kHi k) = false → kchk c = ((k : Int), 1)) := fun h => HBad.out (.inr h)
                    clear HBad
                    cases hm : mayIt it (kLo k) (kHi k) with
                    | false =>
                      have HK : Hid (kchk c = ((k : Int), 1)) := HBad2.out hm
                      clear HBad2 HO
                      go_wp2_with fail
                      refine (rmay_any it _ _ _).mono ?_
                      rintro e w3 ⟨rfl, hb3⟩
                      simp only [hm]
                      go_wp2
                      go_ret2
                      exact ⟨by rw [HK.out]; rfl, bthen hb0q hb3 hb0q.size⟩
                    | true =>
                      have Hm : Hid ((kOdd k nk it || !mayIt it (kLo k) (kHi k)) = false) := by
                        show _ = false
                        rw [← HO.out, HOf.out, hm]; rfl
                      clear HBad2 HO
                      go_wp2_with fail
                      refine (rmay_any it _ _ _).mono ?_
                      rintro e w3 ⟨rfl, hb3⟩
                      simp only [hm]
                      go_wp2
                      go_roundw
                      case rel => exact ⟨j + 1, by omega, by go_num, all_succ (p := fun (it : It) => kOdd k nk it || !mayIt it (kLo k) (kHi k)) HI.out Hx.out Hm.out, bthen hbq hb3 hszq⟩
                      case measure => simp [intOf]; omega
              · have k0' : ((k : Int) == 0) = false := by simp; omega
                have HOf : Hid (rOdd k nk it = false) := by show _ = _; unfold rOdd; rw [if_neg k0]; simp [q0]
                clear q0 k0
                have HBad2 : Hid (mayIt it (kLo k) (kHi k) = false → kchk c = ((k : Int), 1)) := fun h => HBad.out (.inr h)
                clear HBad
                cases hm : mayIt it (kLo k) (kHi k) with
                | false =>
                  have HK : Hid (kchk c = ((k : Int), 1)) := HBad2.out hm
                  clear HBad2 HO
                  go_wp2_with fail
                  refine (rmay_any it _ _ _).mono ?_
                  rintro e w3 ⟨rfl, hb3⟩
                  simp only [hm]
                  go_wp2
                  go_ret2
                  exact ⟨by rw [HK.out]; rfl, bthen hb0q hb3 hb0q.size⟩
                | true =>
                  have Hm : Hid ((kOdd k nk it || !mayIt it (kLo k) (kHi k)) = false) := by
                    show _ = false
                    rw [← HO.out, HOf.out, hm]; rfl
                  clear HBad2 HO
                  go_wp2_with fail
                  refine (rmay_any it _ _ _).mono ?_
                  rintro e w3 ⟨rfl, hb3⟩
                  simp only [hm]
                  go_wp2
                  go_roundw
                  case rel => exact ⟨j + 1, by omega, by go_num, all_succ (p := fun (it : It) => kOdd k nk it || !mayIt it (kLo k) (kHi k)) HI.out Hx.out Hm.out, bthen hbq hb3 hszq⟩
                  case measure => simp [intOf]; omega
          · obtain rfl : j = nk := by omega
            have Hf : Hid (kfault k (kget c k) = 0) := by
              by_cases e : j = 0
              · exact HNil.out e
              · exact kfault_good (by rw [HRL.out]; exact e) (by rw [HRL.out]; exact H64.out) (by rw [HRL.out]; exact HI.out)
            go_wp2
            go_roundw
            case rel => exact ⟨k + 1, by omega, by go_num, upto_succ H.out Hf.out, HC1.out.below hbq, Nat.lt_of_lt_of_le hlt1 hszq, hb0q⟩
            case measure => simp [intOf]; omega
    · obtain rfl : k = 7 := by omega
      have HK : Hid (kchk c = (7, 0)) := kchk_all H.out
      go_wp2
      go_ret2
      exact ⟨by rw [HK.out]; rfl, hb⟩
end Go.Proofs.YtnelecjjbmjhaaaGreatDoor
