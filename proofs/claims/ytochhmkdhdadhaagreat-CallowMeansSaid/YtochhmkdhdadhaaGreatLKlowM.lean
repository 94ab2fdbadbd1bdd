/- For the claim of CallowMeans: WCsG, OpenEv and LKlow3 in one text. -/
import Derived.Test.YtochhmkdhdadhaaGreatWCalS
import Derived.Test.YtochhmkdhdadhaaGreatWRef12
import Derived.Test.YtochhmkdhdadhaaGreatOpen
import Derived.Test.YtochhmkdhdadhaaGreatLKlow
import Derived.Test.YtochhmkdhdadhaaGreatWKlD
namespace Go.Proofs.YtochhmkdhdadhaaGreat
open Go.RowKit
set_option linter.unusedSimpArgs false
set_option linter.unusedVariables false

set_option maxHeartbeats 2000000 in
theorem rbounds28 (k : Nat) (hk : k < 7) (w : World) : Calls Tryz.prog 24 #[.int .i64 (k : Int)] w (RetQ (.tuple #[.int .i64 (kLo k), .int .i64 (kHi k)]) w) := by
  obtain rfl | rfl | rfl | rfl | rfl | rfl | rfl : k = 0 ∨ k = 1 ∨ k = 2 ∨ k = 3 ∨ k = 4 ∨ k = 5 ∨ k = 6 := by omega
  all_goals
    go_enter Tryz.func24, Tryz.ntmps24
    go_wp2
    go_ret2
    exact ⟨rfl, rfl⟩
theorem rmost28 (k : Nat) (w : World) : Calls Tryz.prog 25 #[.int .i64 (k : Int)] w (RetQ (.int .i64 (kMost k)) w) := by
  by_cases h : k = 1
  · subst h
    go_enter Tryz.func25, Tryz.ntmps25
    go_wp2
    go_ret
    exact ⟨rfl, rfl⟩
  · have h' : ((k : Int) == 1) = false := by simp; omega
    have HR : Hid (((kMost k : Nat) : Int) = 64) := by show _ = _; unfold kMost; rw [if_neg (by omega)]; rfl
    clear h
    go_enter Tryz.func25, Tryz.ntmps25
    go_wp2
    go_ret
    exact ⟨ret_int HR.out.symm, rfl⟩
/-- Is an event more than is gone through? -/
def kgreat (n : Nat → Nat) : Bool := (List.range 7).any fun k => decide (500 < n (kslot k))
theorem kgreat_yes {n : Nat → Nat} {k : Nat} (hk : k < 7) (h : 500 < n (kslot k)) : kgreat n = true := by
  unfold kgreat
  rw [List.any_eq_true]
  exact ⟨k, List.mem_range.2 hk, decide_eq_true h⟩
theorem kgreat_no {n : Nat → Nat} (H : ∀ k, k < 7 → n (kslot k) ≤ 500) : kgreat n = false := by
  unfold kgreat
  rw [List.any_eq_false]
  intro k hk
  have := H k (List.mem_range.1 hk)
  simp; omega
theorem kgreat_le {n : Nat → Nat} (h : kgreat n = false) : ∀ j, j < 8 → j ≠ 4 → n j ≤ 500 := by
  have key : ∀ k, k < 7 → n (kslot k) ≤ 500 := by
    intro k hk
    rcases Nat.lt_or_ge 500 (n (kslot k)) with h1 | h1
    · rw [kgreat_yes hk h1] at h; cases h
    · exact h1
  intro j hj h4
  by_cases h5 : j < 4
  · have := key j (by omega)
    unfold kslot at this
    rwa [if_pos h5] at this
  · have := key (j - 1) (by omega)
    unfold kslot at this
    rw [if_neg (by omega)] at this
    rwa [show j - 1 + 1 = j by omega] at this
set_option maxRecDepth 10000 in
set_option maxHeartbeats 1000000 in
theorem kgreat_any (A : Nat → Option Addr) (n m : Nat → Nat) (bk : Bool) (w : World) : Calls Tryz.prog 6 #[evV A n m bk] w (Ret (.bool (kgreat n)) w) := by
  have HE0 := Lib.hid (evAt_new w A n m bk 24)
  have HF := Lib.hid (fun (k : Nat) (hk : k < 7) W => rfield28_in k hk A n m bk W)
  unfold evV at *
  go_enter Tryz.func6, Tryz.ntmps6
  go_wp2
  go_loopw [3] (fun i wr => ∃ k : Nat, k ≤ 7 ∧ i = .int .i64 k ∧ Hid (∀ j, j < k → n (kslot j) ≤ 500) ∧ Hid (EvAt wr w.heap.size A n m bk) ∧ w.heap.size < wr.heap.size ∧ Below w.heap.size w wr) (fun i _ => 7 - (intOf i).toNat)
  case atStart => exact ⟨0, by omega, rfl, fun j h => absurd h (Nat.not_lt_zero _), HE0, by (first | (simp; done) | (simp; omega)), by (repeat' (first | (with_reducible exact Below.refl _ _) | (with_reducible assumption) | (with_reducible refine below_drewN ?_ _) | (with_reducible refine Below.alloc ?_ ?_ _) | (with_reducible refine Below.drew ?_) | (with_reducible refine Below.setCell ?_ ?_ _) | go_size))⟩
  case round =>
    obtain ⟨k, hk, rfl, H, HC, hlt, hb⟩ := hrel
    have hsz := hb.size
    by_cases h5 : k < 7
    · have h5' : (k : Int) < 7 := by omega
      obtain ⟨l0, l1, l2, l3, l4, l5, l6, l7⟩ := HC.out
      by_cases hf : 500 < n (kslot k)
      · have HK : Hid (kgreat n = true) := kgreat_yes h5 hf
        have hf' : (500 : Int) < ((n (kslot k) : Nat) : Int) := by omega
        go_wp2_with fail
        refine (HF.out k h5 _).mono ?_
        rintro e w1 ⟨rfl, hb1⟩
        go_wp2
        go_ret
        exact ⟨ret_bool HK.out.symm, bthen hb hb1 hsz⟩
      · have Hf : Hid (n (kslot k) ≤ 500) := Nat.le_of_not_lt hf
        have hf' : ¬ (500 : Int) < ((n (kslot k) : Nat) : Int) := by omega
        clear hf
        go_wp2_with fail
        refine (HF.out k h5 _).mono ?_
        rintro e w1 ⟨rfl, hb1⟩
        go_wp2
        go_roundw
        case rel => exact ⟨k + 1, by omega, by go_num, upto_succ H.out Hf.out, HC.out.below hb1, Nat.lt_of_lt_of_le hlt hb1.size, bthen hb hb1 hsz⟩
        case measure => simp [intOf]; omega
    · obtain rfl : k = 7 := by omega
      have HK : Hid (kgreat n = false) := kgreat_no H.out
      go_wp2
      go_ret
      exact ⟨ret_bool HK.out.symm, hb⟩
theorem kfault_bad {f : Int} {l : List It} {j : Nat} {it : It} (h0 : ¬ l.length = 0) (h1 : ¬ kMost f < l.length) (hx : l[j]? = some it) (h : (kOdd f (l.length : Int) it || !mayIt it (kLo f) (kHi f)) = true) : kfault f l = 1 := by
  unfold kfault
  rw [if_neg h0, if_neg h1, if_pos]
  rw [List.any_eq_true]
  exact ⟨it, List.mem_of_getElem? hx, h⟩
theorem kfault_good {f : Int} {l : List It} (h0 : ¬ l.length = 0) (h1 : ¬ kMost f < l.length) (H : ∀ j it, j < l.length → l[j]? = some it → (kOdd f (l.length : Int) it || !mayIt it (kLo f) (kHi f)) = false) : kfault f l = 0 := by
  unfold kfault
  rw [if_neg h0, if_neg h1, if_neg]
  rw [Bool.not_eq_true, List.any_eq_false]
  intro x hx
  obtain ⟨j, hj⟩ := List.getElem?_of_mem hx
  rw [H j x (List.getElem?_eq_some_iff.1 hj).1 hj]; simp
/-- An item is wrong in a field: the test of the reference. -/
def rOdd (k n : Nat) (it : It) : Bool := if k = 0 then it.k == 0 || it.k == 3 || decide (1 < it.s) else it.k == 0 && (decide (1 < (n : Int)) || it.s != 1)
theorem rOdd_eq (k n : Nat) (it : It) : (rOdd k n it || !mayIt it (kLo k) (kHi k)) = (kOdd k n it || !mayIt it (kLo k) (kHi k)) := by
  unfold rOdd kOdd
  by_cases hk : k = 0
  · subst hk
    rw [if_pos rfl, if_pos (by rfl)]
    congr 1
    rw [Bool.eq_iff_iff]; simp [or_assoc]
  · rw [if_neg hk, if_neg (by omega)]
    by_cases hm : MayP it (kLo k) (kHi k)
    · have e : mayIt it (kLo k) (kHi k) = true := decide_eq_true hm
      rw [e]
      simp only [Bool.not_true, Bool.or_false]
      rw [Bool.eq_iff_iff]
      simp only [Bool.and_eq_true, Bool.or_eq_true, beq_iff_eq, bne_iff_ne, ne_eq, decide_eq_true_eq]
      obtain ⟨_, _, _, h⟩ := hm
      constructor
      · rintro ⟨h0, h1⟩; refine ⟨h0, ?_⟩; omega
      · rintro ⟨h0, h1⟩; refine ⟨h0, ?_⟩; omega
    · have e : mayIt it (kLo k) (kHi k) = false := decide_eq_false hm
      rw [e]; simp
set_option maxRecDepth 20000 in
set_option maxHeartbeats 4000000 in
theorem rcheck28_any (A : Nat → Option Addr) (n m : Nat → Nat) (c : CalV) (bk : Bool) (w : World) (hA : RdEv w A n c) (hn : ∀ k, k < 7 → n (kslot k) ≤ 9223372036854775807) :
    Calls Tryz.prog 10 #[evV A n m bk] w (Ret (.tuple #[.int .i64 (kchk c).1, .int .i64 (kchk c).2]) w) := by
  have HA := Lib.hid hA
  have HN := Lib.hid hn
  clear hA hn
  have HE0 := Lib.hid (evAt_new w A n m bk 24)
  have HF := Lib.hid (fun (k : Nat) (hk : k < 7) W => rfield28_in k hk A n m bk W)
  unfold evV at *
  go_enter Tryz.func10, Tryz.ntmps10
  go_wp2
  go_loopw [4] (fun i wr => ∃ k : Nat, k ≤ 7 ∧ i = .int .i64 k ∧ Hid (∀ j : Nat, j < k → kfault j (kget c j) = 0) ∧ Hid (EvAt wr w.heap.size A n m bk) ∧ w.heap.size < wr.heap.size ∧ Below w.heap.size w wr) (fun i _ => 7 - (intOf i).toNat)
  case atStart => exact ⟨0, by omega, rfl, fun j h => absurd h (Nat.not_lt_zero _), HE0, by (first | (simp; done) | (simp; omega)), by (repeat' (first | (with_reducible exact Below.refl _ _) | (with_reducible assumption) | (with_reducible refine below_drewN ?_ _) | (with_reducible refine Below.alloc ?_ ?_ _) | (with_reducible refine Below.drew ?_) | (with_reducible refine Below.setCell ?_ ?_ _) | go_size))⟩
  case round =>
    obtain ⟨k, hk, rfl, H, HC, hlt, hb⟩ := hrel
    have hsz := hb.size
    by_cases h5 : k < 7
    · have h5' : (k : Int) < 7 := by omega
      have HFk := Lib.hid (HF.out k h5 wr)
      have HB := Lib.hid (fun W => rbounds28 k h5 W)
      have HMo := Lib.hid (fun W => rmost28 k W)
      have HR := Lib.hid (HA.out.slot h5)
      have HRL : Hid ((kget c k).length = n (kslot k)) := (HA.out.slot h5).1
      have hnk := HN.out k h5
      obtain ⟨l0, l1, l2, l3, l4, l5, l6, l7⟩ := HC.out
      clear HF
      by_cases h00 : n (kslot k) = 0 ∧ 0 < k
      · have hf : kfault k (kget c k) = 11 := by rw [kfault_nil (by rw [HRL.out, h00.1]), if_neg (by omega)]
        have HK : Hid (kchk c = ((k : Int), 11)) := by rw [← hf]; exact kchk_at h5 H.out (by rw [hf]; decide)
        have h0' : (((n (kslot k) : Nat) : Int) == 0) = true := by simp; omega
        have hk0' : (0 : Int) < (k : Int) := by omega
        clear hf h00
        go_wp2_with fail
        refine HFk.out.mono ?_
        rintro e w1 ⟨rfl, hb1⟩
        go_wp2_with fail
        refine (HB.out _).mono ?_
        rintro e w2 ⟨rfl, rfl⟩
        go_wp2
        go_ret2
        exact ⟨by rw [HK.out]; rfl, bthen hb hb1 hsz⟩
      have HRm := Lib.hid (fun w1 (hb1 : Below w.heap.size w w1) => HR.out.below hb1 (Nat.le_refl _))
      by_cases h64 : kMost k < n (kslot k)
      · have hf : kfault k (kget c k) = 5 := kfault_long (by rw [HRL.out]; exact h64)
        have HK : Hid (kchk c = ((k : Int), 5)) := by rw [← hf]; exact kchk_at h5 H.out (by rw [hf]; decide)
        have h64' : ((kMost k : Nat) : Int) < ((n (kslot k) : Nat) : Int) := by omega
        have h0' : (((n (kslot k) : Nat) : Int) == 0) = false := by simp; omega
        generalize ((kMost k : Nat) : Int) = mo at *
        clear hf h64
        go_wp2_with fail
        refine HFk.out.mono ?_
        rintro e w1 ⟨rfl, hb1⟩
        go_wp2_with fail
        refine (HB.out _).mono ?_
        rintro e w2 ⟨rfl, rfl⟩
        go_wp2_with fail
        refine (HMo.out _).mono ?_
        rintro e w2 ⟨rfl, rfl⟩
        go_wp2
        go_ret2
        exact ⟨by rw [HK.out]; rfl, bthen hb hb1 hsz⟩
      have h64' : ¬ ((kMost k : Nat) : Int) < ((n (kslot k) : Nat) : Int) := by omega
      have H64 := Lib.hid h64
      have HNil : Hid (n (kslot k) = 0 → kfault k (kget c k) = 0) := fun e => by
        rw [kfault_nil (by rw [HRL.out, e]), if_pos (by omega)]
      have HTest : Hid ((((n (kslot k) : Nat) : Int) == 0) = false ∨ (((n (kslot k) : Nat) : Int) == 0) = true ∧ ¬ (0 : Int) < (k : Int)) := by
        by_cases e : n (kslot k) = 0
        · right; exact ⟨by simp; exact e, by omega⟩
        · left; simp; exact e
      generalize ((kMost k : Nat) : Int) = mo at *
      clear h64 h00
      generalize hnq : n (kslot k) = nk at *
      clear hnq
      generalize hcq : m (kslot k) = ck at *
      clear hcq
      obtain ⟨wo, rfl⟩ : ∃ wo : World, wo = wr := ⟨_, rfl⟩
      rcases HTest.out with h0' | ⟨h0', hk0'⟩
      · clear HTest
        go_wp2_with fail
        refine HFk.out.mono ?_
        rintro e w1 ⟨rfl, hb1⟩
        go_wp2_with fail
        refine (HB.out _).mono ?_
        rintro e w2 ⟨rfl, rfl⟩
        go_wp2_with fail
        refine (HMo.out _).mono ?_
        rintro e w2 ⟨rfl, rfl⟩
        have hb01 : Below w.heap.size w w1 := bthen hb hb1 hsz
        have hlt1 : w.heap.size < w1.heap.size := Nat.lt_of_lt_of_le hlt hb1.size
        have HC1 : Hid (EvAt w1 w.heap.size A n m bk) := HC.out.below hb1
        clear l0 l1 l2 l3 l4 l5 l6 l7 HFk HC h0'
        go_wp2
        go_loopw [8] (fun i wq => ∃ j : Nat, j ≤ nk ∧ i = .int .i64 j ∧ Hid (∀ q it, q < j → (kget c k)[q]? = some it → (kOdd k nk it || !mayIt it (kLo k) (kHi k)) = false) ∧ Below w1.heap.size w1 wq) (fun i _ => nk - (intOf i).toNat)
        case atStart => exact ⟨0, Nat.zero_le _, rfl, fun j _ h => absurd h (Nat.not_lt_zero _), Below.refl _ _⟩
        case round =>
          obtain ⟨j, hj, rfl, HI, hbq⟩ := hrel
          have hb0q : Below w.heap.size w wr := bthen hb01 hbq hb01.size
          have hszq := hbq.size
          by_cases hlj : j < nk
          · obtain ⟨b, o, it, e1, hbl, hx, c0, c1, c2, c3⟩ := RdIts.at_ (HRm.out _ hb0q) hlj
            rw [e1]
            have hlj' : (j : Int) < (nk : Int) := by omega
            have Hx := Lib.hid hx
            have HO := Lib.hid (rOdd_eq k nk it)
            have HBad : Hid (rOdd k nk it = true ∨ mayIt it (kLo k) (kHi k) = false → kchk c = ((k : Int), 1)) := by
              intro hh
              have hq : (kOdd k nk it || !mayIt it (kLo k) (kHi k)) = true := by
                rw [← HO.out]; rcases hh with hh | hh <;> simp [hh]
              have hf : kfault k (kget c k) = 1 := kfault_bad (j := j) (it := it) (by rw [HRL.out]; omega) (by rw [HRL.out]; exact H64.out) Hx.out (by rw [HRL.out]; exact hq)
              rw [← hf]; exact kchk_at h5 H.out (by rw [hf]; decide)
            clear hx
            by_cases q0 : it.k = 0
            · have q0' : (it.k == 0) = true := by simpa using q0
              have q3' : (it.k == 3) = false := by simp; omega
              by_cases k0 : k = 0
              · have k0' : ((k : Int) == 0) = true := by simp; omega
                have HK : Hid (kchk c = ((k : Int), 1)) := HBad.out (.inl (by unfold rOdd; rw [if_pos k0]; simp [q0]))
                clear q0 k0 HBad HO
                by_cases hm : 1 < (nk : Int)
                · go_wp2
                  go_ret2
                  exact ⟨by rw [HK.out]; rfl, hb0q⟩
                · by_cases s1 : it.s = 1
                  · have s1' : (it.s != 1) = false := by simpa using s1
                    clear s1
                    go_wp2
                    go_ret2
                    exact ⟨by rw [HK.out]; rfl, hb0q⟩
                  · have s1' : (it.s != 1) = true := by simpa using s1
                    clear s1
                    go_wp2
                    go_ret2
                    exact ⟨by rw [HK.out]; rfl, hb0q⟩
              · have k0' : ((k : Int) == 0) = false := by simp; omega
                by_cases hm : 1 < (nk : Int)
                · have HK : Hid (kchk c = ((k : Int), 1)) := HBad.out (.inl (by unfold rOdd; rw [if_neg k0]; simp [q0]; omega))
                  clear q0 k0 HBad HO
                  go_wp2
                  go_ret2
                  exact ⟨by rw [HK.out]; rfl, hb0q⟩
                · by_cases s1 : it.s = 1
                  · have s1' : (it.s != 1) = false := by simpa using s1
                    have HOf : Hid (rOdd k nk it = false) := by show _ = _; unfold rOdd; rw [if_neg k0]; simp [q0, s1]; omega
                    clear q0 k0 s1
                    have HBad2 : Hid (mayIt it (kLo k) (kHi k) = false → kchk c = ((k : Int), 1)) := fun h => HBad.out (.inr h)
                    clear HBad
                    cases hm : mayIt it (kLo k) (kHi k) with
                    | false =>
                      have HK : Hid (kchk c = ((k : Int), 1)) := HBad2.out hm
                      clear HBad2 HO
                      go_wp2_with fail
                      refine (rmay_any it _ _ _).mono ?_
                      rintro e w3 ⟨rfl, hb3⟩
                      simp only [hm]
                      go_wp2
                      go_ret2
                      exact ⟨by rw [HK.out]; rfl, bthen hb0q hb3 hb0q.size⟩
                    | true =>
                      have Hm : Hid ((kOdd k nk it || !mayIt it (kLo k) (kHi k)) = false) := by
                        show _ = false
                        rw [← HO.out, HOf.out, hm]; rfl
                      clear HBad2 HO
                      go_wp2_with fail
                      refine (rmay_any it _ _ _).mono ?_
                      rintro e w3 ⟨rfl, hb3⟩
                      simp only [hm]
                      go_wp2
                      go_roundw
                      case rel => exact ⟨j + 1, by omega, by go_num, all_succ (p := fun (it : It) => kOdd k nk it || !mayIt it (kLo k) (kHi k)) HI.out Hx.out Hm.out, bthen hbq hb3 hszq⟩
                      case measure => simp [intOf]; omega
                  · have s1' : (it.s != 1) = true := by simpa using s1
                    have HK : Hid (kchk c = ((k : Int), 1)) := HBad.out (.inl (by unfold rOdd; rw [if_neg k0]; simp [q0, s1]))
                    clear q0 k0 HBad HO s1
                    go_wp2
                    go_ret2
                    exact ⟨by rw [HK.out]; rfl, hb0q⟩
            · have q0' : (it.k == 0) = false := by simpa using q0
              by_cases k0 : k = 0
              · have k0' : ((k : Int) == 0) = true := by simp; omega
                by_cases q3 : it.k = 3
                · have q3' : (it.k == 3) = true := by simpa using q3
                  have HK : Hid (kchk c = ((k : Int), 1)) := HBad.out (.inl (by unfold rOdd; rw [if_pos k0]; simp [q3]))
                  clear q0 k0 HBad HO q3
                  go_wp2
                  go_ret2
                  exact ⟨by rw [HK.out]; rfl, hb0q⟩
                · have q3' : (it.k == 3) = false := by simpa using q3
                  by_cases s1 : 1 < it.s
                  · have HK : Hid (kchk c = ((k : Int), 1)) := HBad.out (.inl (by unfold rOdd; rw [if_pos k0]; simp [s1]))
                    clear q0 k0 HBad HO q3
                    go_wp2
                    go_ret2
                    exact ⟨by rw [HK.out]; rfl, hb0q⟩
                  · have HOf : Hid (rOdd k nk it = false) := by show _ = _; unfold rOdd; rw [if_pos k0]; simp [q0, q3]; omega
                    clear q0 k0 q3
                    have HBad2 : Hid (mayIt it (kLo k) (kHi k) = false → kchk c = ((k : Int), 1)) := fun h => HBad.out (.inr h)
                    clear HBad
                    cases hm : mayIt it (kLo k) (kHi k) with
                    | false =>
                      have HK : Hid (kchk c = ((k : Int), 1)) := HBad2.out hm
                      clear HBad2 HO
                      go_wp2_with fail
                      refine (rmay_any it _ _ _).mono ?_
                      rintro e w3 ⟨rfl, hb3⟩
                      simp only [hm]
                      go_wp2
                      go_ret2
                      exact ⟨by rw [HK.out]; rfl, bthen hb0q hb3 hb0q.size⟩
                    | true =>
                      have Hm : Hid ((kOdd k nk it || !mayIt it (kLo k) (kHi k)) = false) := by
                        show _ = false
                        rw [← HO.out, HOf.out, hm]; rfl
                      clear HBad2 HO
                      go_wp2_with fail
                      refine (rmay_any it _ _ _).mono ?_
                      rintro e w3 ⟨rfl, hb3⟩
                      simp only [hm]
                      go_wp2
                      go_roundw
                      case rel => exact ⟨j + 1, by omega, by go_num, all_succ (p := fun (it : It) => kOdd k nk it || !mayIt it (kLo k) (kHi k)) HI.out Hx.out Hm.out, bthen hbq hb3 hszq⟩
                      case measure => simp [intOf]; omega
              · have k0' : ((k : Int) == 0) = false := by simp; omega
                have HOf : Hid (rOdd k nk it = false) := by show _ = _; unfold rOdd; rw [if_neg k0]; simp [q0]
                clear q0 k0
                have HBad2 : Hid (mayIt it (kLo k) (kHi k) = false → kchk c = ((k : Int), 1)) := fun h => HBad.out (.inr h)
                clear HBad
                cases hm : mayIt it (kLo k) (kHi k) with
                | false =>
                  have HK : Hid (kchk c = ((k : Int), 1)) := HBad2.out hm
                  clear HBad2 HO
                  go_wp2_with fail
                  refine (rmay_any it _ _ _).mono ?_
                  rintro e w3 ⟨rfl, hb3⟩
                  simp only [hm]
                  go_wp2
                  go_ret2
                  exact ⟨by rw [HK.out]; rfl, bthen hb0q hb3 hb0q.size⟩
                | true =>
                  have Hm : Hid ((kOdd k nk it || !mayIt it (kLo k) (kHi k)) = false) := by
                    show _ = false
                    rw [← HO.out, HOf.out, hm]; rfl
                  clear HBad2 HO
                  go_wp2_with fail
                  refine (rmay_any it _ _ _).mono ?_
                  rintro e w3 ⟨rfl, hb3⟩
                  simp only [hm]
                  go_wp2
                  go_roundw
                  case rel => exact ⟨j + 1, by omega, by go_num, all_succ (p := fun (it : It) => kOdd k nk it || !mayIt it (kLo k) (kHi k)) HI.out Hx.out Hm.out, bthen hbq hb3 hszq⟩
                  case measure => simp [intOf]; omega
          · obtain rfl : j = nk := by omega
            have Hf : Hid (kfault k (kget c k) = 0) := by
              by_cases e : j = 0
              · exact HNil.out e
              · exact kfault_good (by rw [HRL.out]; exact e) (by rw [HRL.out]; exact H64.out) (by rw [HRL.out]; exact HI.out)
            go_wp2
            go_roundw
            case rel => exact ⟨k + 1, by omega, by go_num, upto_succ H.out Hf.out, HC1.out.below hbq, Nat.lt_of_lt_of_le hlt1 hszq, hb0q⟩
            case measure => simp [intOf]; omega
      · clear HTest
        go_wp2_with fail
        refine HFk.out.mono ?_
        rintro e w1 ⟨rfl, hb1⟩
        go_wp2_with fail
        refine (HB.out _).mono ?_
        rintro e w2 ⟨rfl, rfl⟩
        go_wp2_with fail
        refine (HMo.out _).mono ?_
        rintro e w2 ⟨rfl, rfl⟩
        have hb01 : Below w.heap.size w w1 := bthen hb hb1 hsz
        have hlt1 : w.heap.size < w1.heap.size := Nat.lt_of_lt_of_le hlt hb1.size
        have HC1 : Hid (EvAt w1 w.heap.size A n m bk) := HC.out.below hb1
        clear l0 l1 l2 l3 l4 l5 l6 l7 HFk HC h0'
        go_wp2
        go_loopw [8] (fun i wq => ∃ j : Nat, j ≤ nk ∧ i = .int .i64 j ∧ Hid (∀ q it, q < j → (kget c k)[q]? = some it → (kOdd k nk it || !mayIt it (kLo k) (kHi k)) = false) ∧ Below w1.heap.size w1 wq) (fun i _ => nk - (intOf i).toNat)
        case atStart => exact ⟨0, Nat.zero_le _, rfl, fun j _ h => absurd h (Nat.not_lt_zero _), Below.refl _ _⟩
        case round =>
          obtain ⟨j, hj, rfl, HI, hbq⟩ := hrel
          have hb0q : Below w.heap.size w wr := bthen hb01 hbq hb01.size
          have hszq := hbq.size
          by_cases hlj : j < nk
          · obtain ⟨b, o, it, e1, hbl, hx, c0, c1, c2, c3⟩ := RdIts.at_ (HRm.out _ hb0q) hlj
            rw [e1]
            have hlj' : (j : Int) < (nk : Int) := by omega
            have Hx := Lib.hid hx
            have HO := Lib.hid (rOdd_eq k nk it)
            have HBad : Hid (rOdd k nk it = true ∨ mayIt it (kLo k) (kHi k) = false → kchk c = ((k : Int), 1)) := by
              intro hh
              have hq : (kOdd k nk it || !mayIt it (kLo k) (kHi k)) = true := by
                rw [← HO.out]; rcases hh with hh | hh <;> simp [hh]
              have hf : kfault k (kget c k) = 1 := kfault_bad (j := j) (it := it) (by rw [HRL.out]; omega) (by rw [HRL.out]; exact H64.out) Hx.out (by rw [HRL.out]; exact hq)
              rw [← hf]; exact kchk_at h5 H.out (by rw [hf]; decide)
            clear hx
            by_cases q0 : it.k = 0
            · have q0' : (it.k == 0) = true := by simpa using q0
              have q3' : (it.k == 3) = false := by simp; omega
              by_cases k0 : k = 0
              · have k0' : ((k : Int) == 0) = true := by simp; omega
                have HK : Hid (kchk c = ((k : Int), 1)) := HBad.out (.inl (by unfold rOdd; rw [if_pos k0]; simp [q0]))
                clear q0 k0 HBad HO
                by_cases hm : 1 < (nk : Int)
                · go_wp2
                  go_ret2
                  exact ⟨by rw [HK.out]; rfl, hb0q⟩
                · by_cases s1 : it.s = 1
                  · have s1' : (it.s != 1) = false := by simpa using s1
                    clear s1
                    go_wp2
                    go_ret2
                    exact ⟨by rw [HK.out]; rfl, hb0q⟩
                  · have s1' : (it.s != 1) = true := by simpa using s1
                    clear s1
                    go_wp2
                    go_ret2
                    exact ⟨by rw [HK.out]; rfl, hb0q⟩
              · have k0' : ((k : Int) == 0) = false := by simp; omega
                by_cases hm : 1 < (nk : Int)
                · have HK : Hid (kchk c = ((k : Int), 1)) := HBad.out (.inl (by unfold rOdd; rw [if_neg k0]; simp [q0]; omega))
                  clear q0 k0 HBad HO
                  go_wp2
                  go_ret2
                  exact ⟨by rw [HK.out]; rfl, hb0q⟩
                · by_cases s1 : it.s = 1
                  · have s1' : (it.s != 1) = false := by simpa using s1
                    have HOf : Hid (rOdd k nk it = false) := by show _ = _; unfold rOdd; rw [if_neg k0]; simp [q0, s1]; omega
                    clear q0 k0 s1
                    have HBad2 : Hid (mayIt it (kLo k) (kHi k) = false → kchk c = ((k : Int), 1)) := fun h => HBad.out (.inr h)
                    clear HBad
                    cases hm : mayIt it (kLo k) (kHi k) with
                    | false =>
                      have HK : Hid (kchk c = ((k : Int), 1)) := HBad2.out hm
                      clear HBad2 HO
                      go_wp2_with fail
                      refine (rmay_any it _ _ _).mono ?_
                      rintro e w3 ⟨rfl, hb3⟩
                      simp only [hm]
                      go_wp2
                      go_ret2
                      exact ⟨by rw [HK.out]; rfl, bthen hb0q hb3 hb0q.size⟩
                    | true =>
                      have Hm : Hid ((kOdd k nk it || !mayIt it (kLo k) (kHi k)) = false) := by
                        show _ = false
                        rw [← HO.out, HOf.out, hm]; rfl
                      clear HBad2 HO
                      go_wp2_with fail
                      refine (rmay_any it _ _ _).mono ?_
                      rintro e w3 ⟨rfl, hb3⟩
                      simp only [hm]
                      go_wp2
                      go_roundw
                      case rel => exact ⟨j + 1, by omega, by go_num, all_succ (p := fun (it : It) => kOdd k nk it || !mayIt it (kLo k) (kHi k)) HI.out Hx.out Hm.out, bthen hbq hb3 hszq⟩
                      case measure => simp [intOf]; omega
                  · have s1' : (it.s != 1) = true := by simpa using s1
                    have HK : Hid (kchk c = ((k : Int), 1)) := HBad.out (.inl (by unfold rOdd; rw [if_neg k0]; simp [q0, s1]))
                    clear q0 k0 HBad HO s1
                    go_wp2
                    go_ret2
                    exact ⟨by rw [HK.out]; rfl, hb0q⟩
            · have q0' : (it.k == 0) = false := by simpa using q0
              by_cases k0 : k = 0
              · have k0' : ((k : Int) == 0) = true := by simp; omega
                by_cases q3 : it.k = 3
                · have q3' : (it.k == 3) = true := by simpa using q3
                  have HK : Hid (kchk c = ((k : Int), 1)) := HBad.out (.inl (by unfold rOdd; rw [if_pos k0]; simp [q3]))
                  clear q0 k0 HBad HO q3
                  go_wp2
                  go_ret2
                  exact ⟨by rw [HK.out]; rfl, hb0q⟩
                · have q3' : (it.k == 3) = false := by simpa using q3
                  by_cases s1 : 1 < it.s
                  · have HK : Hid (kchk c = ((k : Int), 1)) := HBad.out (.inl (by unfold rOdd; rw [if_pos k0]; simp [s1]))
                    clear q0 k0 HBad HO q3
                    go_wp2
                    go_ret2
                    exact ⟨by rw [HK.out]; rfl, hb0q⟩
                  · have HOf : Hid (rOdd k nk it = false) := by show _ = _; unfold rOdd; rw [if_pos k0]; simp [q0, q3]; omega
                    clear q0 k0 q3
                    have HBad2 : Hid (mayIt it (kLo k) (kHi k) = false → kchk c = ((k : Int), 1)) := fun h => HBad.out (.inr h)
                    clear HBad
                    cases hm : mayIt it (kLo k) (kHi k) with
                    | false =>
                      have HK : Hid (kchk c = ((k : Int), 1)) := HBad2.out hm
                      clear HBad2 HO
                      go_wp2_with fail
                      refine (rmay_any it _ _ _).mono ?_
                      rintro e w3 ⟨rfl, hb3⟩
                      simp only [hm]
                      go_wp2
                      go_ret2
                      exact ⟨by rw [HK.out]; rfl, bthen hb0q hb3 hb0q.size⟩
                    | true =>
                      have Hm : Hid ((kOdd k nk it || !mayIt it (kLo k) (kHi k)) = false) := by
                        show _ = false
                        rw [← HO.out, HOf.out, hm]; rfl
                      clear HBad2 HO
                      go_wp2_with fail
                      refine (rmay_any it _ _ _).mono ?_
                      rintro e w3 ⟨rfl, hb3⟩
                      simp only [hm]
                      go_wp2
                      go_roundw
                      case rel => exact ⟨j + 1, by omega, by go_num, all_succ (p := fun (it : It) => kOdd k nk it || !mayIt it (kLo k) (kHi k)) HI.out Hx.out Hm.out, bthen hbq hb3 hszq⟩
                      case measure => simp [intOf]; omega
              · have k0' : ((k : Int) == 0) = false := by simp; omega
                have HOf : Hid (rOdd k nk it = false) := by show _ = _; unfold rOdd; rw [if_neg k0]; simp [q0]
                clear q0 k0
                have HBad2 : Hid (mayIt it (kLo k) (kHi k) = false → kchk c = ((k : Int), 1)) := fun h => HBad.out (.inr h)
                clear HBad
                cases hm : mayIt it (kLo k) (kHi k) with
                | false =>
                  have HK : Hid (kchk c = ((k : Int), 1)) := HBad2.out hm
                  clear HBad2 HO
                  go_wp2_with fail
                  refine (rmay_any it _ _ _).mono ?_
                  rintro e w3 ⟨rfl, hb3⟩
                  simp only [hm]
                  go_wp2
                  go_ret2
                  exact ⟨by rw [HK.out]; rfl, bthen hb0q hb3 hb0q.size⟩
                | true =>
                  have Hm : Hid ((kOdd k nk it || !mayIt it (kLo k) (kHi k)) = false) := by
                    show _ = false
                    rw [← HO.out, HOf.out, hm]; rfl
                  clear HBad2 HO
                  go_wp2_with fail
                  refine (rmay_any it _ _ _).mono ?_
                  rintro e w3 ⟨rfl, hb3⟩
                  simp only [hm]
                  go_wp2
                  go_roundw
                  case rel => exact ⟨j + 1, by omega, by go_num, all_succ (p := fun (it : It) => kOdd k nk it || !mayIt it (kLo k) (kHi k)) HI.out Hx.out Hm.out, bthen hbq hb3 hszq⟩
                  case measure => simp [intOf]; omega
          · obtain rfl : j = nk := by omega
            have Hf : Hid (kfault k (kget c k) = 0) := by
              by_cases e : j = 0
              · exact HNil.out e
              · exact kfault_good (by rw [HRL.out]; exact e) (by rw [HRL.out]; exact H64.out) (by rw [HRL.out]; exact HI.out)
            go_wp2
            go_roundw
            case rel => exact ⟨k + 1, by omega, by go_num, upto_succ H.out Hf.out, HC1.out.below hbq, Nat.lt_of_lt_of_le hlt1 hszq, hb0q⟩
            case measure => simp [intOf]; omega
    · obtain rfl : k = 7 := by omega
      have HK : Hid (kchk c = (7, 0)) := kchk_all H.out
      go_wp2
      go_ret2
      exact ⟨by rw [HK.out]; rfl, hb⟩
end Go.Proofs.YtochhmkdhdadhaaGreat

/- Arguments as data: what an event that came in reads as. -/
namespace Go.Proofs.YtochhmkdhdadhaaGreat
open Go.ChangeShapes Go.WideShapes Go.ChangeAt Go.RowKit Go.Deep
set_option linter.unusedSimpArgs false
set_option linter.unusedVariables false

section
variable {H : Type} {enc : TypeId × Value → H} {w : World} {base : Nat} {spare : Nat → Bool} {held : Bool}
theorem ev_cells : Tryz.prog.cellsOf 24 = 8 := by kernel_rfl
set_option maxRecDepth 100000 in
/-- An event that came in. -/
theorem open_event {fuel : Nat} {cs : List Value} {x : DataW H × List MemPlace} (h : DataW.trod enc Tryz.prog w base spare held fuel 24 cs = some x) :
    ∃ (A : Nat → Option Addr) (n m : Nat → Nat) (c : CalV), cs = [.slice (A 0) (n 0) (m 0), .slice (A 1) (n 1) (m 1), .slice (A 2) (n 2) (m 2), .slice (A 3) (n 3) (m 3), .bool c.back, .slice (A 5) (n 5) (m 5), .slice (A 6) (n 6) (m 6), .slice (A 7) (n 7) (m 7)] ∧
      RdEv w A n c ∧ (∀ k, n k ≤ m k) ∧ (∀ k, m k ≤ maxLen) ∧ ∀ j, j < 7 → ∀ it ∈ kget c j, it.wf := by
  obtain ⟨xs, q, _, hx, hlen, hxl, hf⟩ := DataW.trod_struct Tryz.underlying24 h
  rw [ev_cells] at hlen
  match cs, hlen with
  | [c0, c1, c2, c3, c4, c5, c6, c7], _ =>
    have i0 := hf 0 _ rfl
    have i1 := hf 1 _ rfl
    have i2 := hf 2 _ rfl
    have i3 := hf 3 _ rfl
    have i4 := hf 4 _ rfl
    have i5 := hf 5 _ rfl
    have i6 := hf 6 _ rfl
    have i7 := hf 7 _ rfl
    have hl : xs.length = 8 := hxl
    match xs, hl with
    | [y0, y1, y2, y3, y4, y5, y6, y7], _ =>
      have one : Tryz.prog.cellsOf 22 = 1 := by kernel_rfl
      have oneb : Tryz.prog.cellsOf 4 = 1 := by kernel_rfl
      change DataW.trod enc Tryz.prog w base spare held q 22 (([c0, c1, c2, c3, c4, c5, c6, c7].drop 0).take (Tryz.prog.cellsOf 22)) = _ at i0
      change DataW.trod enc Tryz.prog w base spare held q 22 (([c0, c1, c2, c3, c4, c5, c6, c7].drop 1).take (Tryz.prog.cellsOf 22)) = _ at i1
      change DataW.trod enc Tryz.prog w base spare held q 22 (([c0, c1, c2, c3, c4, c5, c6, c7].drop 2).take (Tryz.prog.cellsOf 22)) = _ at i2
      change DataW.trod enc Tryz.prog w base spare held q 22 (([c0, c1, c2, c3, c4, c5, c6, c7].drop 3).take (Tryz.prog.cellsOf 22)) = _ at i3
      change DataW.trod enc Tryz.prog w base spare held q 4 (([c0, c1, c2, c3, c4, c5, c6, c7].drop 4).take (Tryz.prog.cellsOf 4)) = _ at i4
      change DataW.trod enc Tryz.prog w base spare held q 22 (([c0, c1, c2, c3, c4, c5, c6, c7].drop 5).take (Tryz.prog.cellsOf 22)) = _ at i5
      change DataW.trod enc Tryz.prog w base spare held q 22 (([c0, c1, c2, c3, c4, c5, c6, c7].drop 6).take (Tryz.prog.cellsOf 22)) = _ at i6
      change DataW.trod enc Tryz.prog w base spare held q 22 (([c0, c1, c2, c3, c4, c5, c6, c7].drop 7).take (Tryz.prog.cellsOf 22)) = _ at i7
      rw [one] at i0 i1 i2 i3 i5 i6 i7
      rw [oneb] at i4
      obtain ⟨A0, n0, k0, l0, e0, r0, p0, q0, z0, w0⟩ := open_items i0
      obtain ⟨A1, n1, k1, l1, e1, r1, p1, q1, z1, w1⟩ := open_items i1
      obtain ⟨A2, n2, k2, l2, e2, r2, p2, q2, z2, w2⟩ := open_items i2
      obtain ⟨A3, n3, k3, l3, e3, r3, p3, q3, z3, w3⟩ := open_items i3
      obtain ⟨bk, e4, _⟩ := DataW.trod_bool Tryz.underlying4 i4
      obtain ⟨A5, n5, k5, l5, e5, r5, p5, q5, z5, w5⟩ := open_items i5
      obtain ⟨A6, n6, k6, l6, e6, r6, p6, q6, z6, w6⟩ := open_items i6
      obtain ⟨A7, n7, k7, l7, e7, r7, p7, q7, z7, w7⟩ := open_items i7
      simp at e4
      subst e0 e1 e2 e3 e4 e5 e6 e7
      refine ⟨fun k => match k with | 0 => A0 | 1 => A1 | 2 => A2 | 3 => A3 | 5 => A5 | 6 => A6 | 7 => A7 | _ => none, fun k => match k with | 0 => n0 | 1 => n1 | 2 => n2 | 3 => n3 | 5 => n5 | 6 => n6 | 7 => n7 | _ => 0,
        fun k => match k with | 0 => k0 | 1 => k1 | 2 => k2 | 3 => k3 | 5 => k5 | 6 => k6 | 7 => k7 | _ => 0, ⟨l0, l1, l2, l3, bk, l5, l6, l7⟩, rfl, ?_, ?_, ?_, ?_⟩
      · intro j hj h4
        obtain rfl | rfl | rfl | rfl | rfl | rfl | rfl : j = 0 ∨ j = 1 ∨ j = 2 ∨ j = 3 ∨ j = 5 ∨ j = 6 ∨ j = 7 := by omega
        all_goals assumption
      · intro k
        dsimp only
        split
        all_goals first | assumption | exact Nat.le_refl _
      · intro k
        dsimp only
        split
        all_goals first | assumption | exact Nat.zero_le _
      · intro j hj
        obtain rfl | rfl | rfl | rfl | rfl | rfl | rfl : j = 0 ∨ j = 1 ∨ j = 2 ∨ j = 3 ∨ j = 4 ∨ j = 5 ∨ j = 6 := by omega
        all_goals assumption
end
end Go.Proofs.YtochhmkdhdadhaaGreat

/- The walk of the law CallowMeans. -/
namespace Go.Proofs.YtochhmkdhdadhaaGreat
open Go.RowKit
set_option linter.unusedSimpArgs false
set_option linter.unusedVariables false

set_option maxRecDepth 20000 in
set_option maxHeartbeats 16000000 in
theorem callowMeans_any (A : Nat → Option Addr) (n m : Nat → Nat) (c : CalV) (t : Int) (w : World) (hA : RdEv w A n c) (hn : ∀ k, k < 7 → n (kslot k) ≤ 9223372036854775807) (hm : MaxAt w) :
    Calls Tryz.prog 3 #[evV A n m c.back, .int .i64 t] w (Ret (.bool true) w) := by
  have HV := Lib.hid (fun W (hb : Below w.heap.size w W) => lives31_any W (hm.below hb))
  have HG := Lib.hid (fun W => kgreat_any A n m c.back W)
  have HK := Lib.hid (fun W (hb : Below w.heap.size w W) => rcheck28_any A n m c c.back W (hA.below hb) hn)
  have HL0 := Lib.hid (evAt_new w A n m c.back 24)
  cases hg : kgreat n with
  | true =>
    rw [hg] at HG
    clear hA hn hg HK
    generalize c.back = bk at *
    unfold evV at *
    go_enter Tryz.func3, Tryz.ntmps3
    go_wp2_with fail
    refine (HG.out _).mono ?_
    rintro x w1 ⟨rfl, hb1⟩
    have hb1 : Below w.heap.size w w1 := ((Below.refl _ w).alloc (Nat.le_refl _) _).trans (hb1.mono (by simp))
    go_wp2_with fail
    refine (HV.out _ hb1).mono ?_
    rintro x w2 ⟨rfl, hb2⟩
    go_wp2
    go_ret
    exact ⟨rfl, bthen hb1 hb2 hb1.size⟩
  | false =>
    have hns : ∀ j, j < 8 → j ≠ 4 → n j ≤ 100000 := fun j h1 h2 => by have := kgreat_le hg j h1 h2; omega
    rw [hg] at HG
    clear hg
    rcases kchk_or c with hc | hc
    · have HLw := Lib.hid (fun W (hb : Below w.heap.size w W) => klower_ok A n m c W (hA.below hb) hns hc)
      have HC := Lib.hid (fun W (hb : Below w.heap.size w W) => klowClause_ok A n m c W (hA.below hb) hns hc)
      have HR := Lib.hid (fun W (hb : Below w.heap.size w W) => rclause31_any A n m c W (hA.below hb) hns)
      have HME := Lib.hid (fun W (hb : Below w.heap.size w W) => kmeans_any A n m c t W (hA.below hb) hns)
      have HMay : Hid (∀ W, Calls Tryz.prog 12 #[.agg (clA (evC c))] W (Ret (.bool true) W)) := fun W => by
        have := clmay_any (evC c) W
        rwa [ev_may] at this
      have HH := Lib.hid (fun b W h => has_ev c t b W h)
      have HLd := Lib.hid (fun (W : World) b (h : RdCls W (some ⟨b, 0, none⟩) 1 [evC c]) => rdCls_ld h)
      have HI := Lib.hid (cl_info (evC c))
      have H1 := Lib.hid (clA_cells (evC c))
      have Hs : Hid (30 = (clA (evC c)).size) := rfl
      have eq1 : ∀ W, (binOp .eql 37 (.agg (clA (evC c))) (.agg (clA (evC c)))).run Tryz.prog W = .ok (.bool true) W := fun W => eql_cl (evC c) W
      rw [hc] at HK
      dsimp only at HK
      clear hA hn hns hc
      generalize meansE c t = R at *
      generalize evC c = K at *
      generalize clA K = cs at *
      generalize c.back = bk at *
      unfold evV at *
      go_enter Tryz.func3, Tryz.ntmps3
      go_wp2_with fail
      refine (HG.out _).mono ?_
      rintro x w1 ⟨rfl, hq⟩
      have HL := Lib.hid (HL0.out.below hq)
      have hb : Below w.heap.size w w1 := ((Below.refl _ w).alloc (Nat.le_refl _) _).trans (hq.mono (by simp))
      have hlt : w.heap.size < w1.heap.size := by have := hq.size; simp at this; omega
      clear HL0 hq HG
      have l0 := HL.out.h0; have l1 := HL.out.h1; have l2 := HL.out.h2; have l3 := HL.out.h3; have l4 := HL.out.h4; have l5 := HL.out.h5; have l6 := HL.out.h6; have l7 := HL.out.h7
      go_wp2_with fail
      clear l0 l1 l2 l3 l4 l5 l6 l7
      refine (HLw.out _ hb).mono ?_
      rintro x w2 ⟨b, rfl, hr, hq⟩
      replace HL := Lib.hid (HL.out.below hq)
      have hb2 := bthen hb hq hb.size
      have hlt2 : w.heap.size < w2.heap.size := Nat.lt_of_lt_of_le hlt hq.size
      have HR2 := Lib.hid hr
      clear hq hb hlt hr HLw
      have l0 := HL.out.h0; have l1 := HL.out.h1; have l2 := HL.out.h2; have l3 := HL.out.h3; have l4 := HL.out.h4; have l5 := HL.out.h5; have l6 := HL.out.h6; have l7 := HL.out.h7
      go_wp2_with fail
      clear l0 l1 l2 l3 l4 l5 l6 l7
      refine (HC.out _ hb2).mono ?_
      rintro x w3 ⟨rfl, hq⟩
      replace HL := Lib.hid (HL.out.below hq)
      replace HR2 := Lib.hid (HR2.out.below hq (Nat.le_refl _))
      have hb3 := bthen hb2 hq hb2.size
      have hlt3 : w.heap.size < w3.heap.size := Nat.lt_of_lt_of_le hlt2 hq.size
      clear hq hb2 hlt2 HC
      go_wp2_with (first | (refine wp_store_new (by rfl) 37 _ _ rfl cs _ rfl rfl HI.out H1.out Hs.out ?_; intro w4 hq4 HS4 hz4; have l0 := (HL.out.below hq4).h0; have l1 := (HL.out.below hq4).h1; have l2 := (HL.out.below hq4).h2; have l3 := (HL.out.below hq4).h3; have l4 := (HL.out.below hq4).h4; have l5 := (HL.out.below hq4).h5; have l6 := (HL.out.below hq4).h6; have l7 := (HL.out.below hq4).h7) | fail)
      clear l0 l1 l2 l3 l4 l5 l6 l7
      replace HL := Lib.hid (HL.out.below hq4)
      replace HR2 := Lib.hid (HR2.out.below hq4 (Nat.le_refl _))
      have hb4 := bthen hb3 hq4 hb3.size
      have hlt4 : w.heap.size < w4.heap.size := Nat.lt_of_lt_of_le hlt3 hq4.size
      have HSx : Hid (∀ j v, cs[j]? = some v → w4.cell? ⟨w3.heap.size, j, none⟩ = some v) := arr_lies HS4
      clear hq4 HS4 hz4 hb3 hlt3
      generalize hB : w3.heap.size = B at *
      clear hB
      refine (HK.out _ hb4).mono ?_
      rintro x w5 ⟨rfl, hq⟩
      replace HL := Lib.hid (HL.out.below hq)
      replace HR2 := Lib.hid (HR2.out.below hq (Nat.le_refl _))
      have HS5 : Hid (∀ j v, cs[j]? = some v → w5.cell? ⟨B, j, none⟩ = some v) := fun j v hj => keepc hq (HSx.out j v hj)
      have hb5 := bthen hb4 hq hb4.size
      clear hq hb4 hlt4 HSx HK
      go_wp2_with fail
      have hE := HL.out
      have q0 := hE.h0
      have q1 := hE.h1
      have q2 := hE.h2
      have q3 := hE.h3
      have q4 := hE.h4
      have q5 := hE.h5
      have q6 := hE.h6
      have q7 := hE.h7
      have h0' : ∀ y : Ext w5, y.W.cell? ⟨w.heap.size, 0, none⟩ = some (.slice (A 0) (n 0) (m 0)) := fun y => y.cell q0
      have h1' : ∀ y : Ext w5, y.W.cell? ⟨w.heap.size, 1, none⟩ = some (.slice (A 1) (n 1) (m 1)) := fun y => y.cell q1
      have h2' : ∀ y : Ext w5, y.W.cell? ⟨w.heap.size, 2, none⟩ = some (.slice (A 2) (n 2) (m 2)) := fun y => y.cell q2
      have h3' : ∀ y : Ext w5, y.W.cell? ⟨w.heap.size, 3, none⟩ = some (.slice (A 3) (n 3) (m 3)) := fun y => y.cell q3
      have h4' : ∀ y : Ext w5, y.W.cell? ⟨w.heap.size, 4, none⟩ = some (.bool bk) := fun y => y.cell q4
      have h5' : ∀ y : Ext w5, y.W.cell? ⟨w.heap.size, 5, none⟩ = some (.slice (A 5) (n 5) (m 5)) := fun y => y.cell q5
      have h6' : ∀ y : Ext w5, y.W.cell? ⟨w.heap.size, 6, none⟩ = some (.slice (A 6) (n 6) (m 6)) := fun y => y.cell q6
      have h7' : ∀ y : Ext w5, y.W.cell? ⟨w.heap.size, 7, none⟩ = some (.slice (A 7) (n 7) (m 7)) := fun y => y.cell q7
      clear q0 q1 q2 q3 q4 q5 q6 q7 hE
      have HVx := Lib.hid (fun y : Ext w5 => HV.out y.W (bthen hb5 y.h hb5.size))
      have HHx := Lib.hid (fun y : Ext w5 => HH.out b y.W (HR2.out.below y.h (Nat.le_refl _)))
      have HMx := Lib.hid (fun y : Ext w5 => HME.out y.W (bthen hb5 y.h hb5.size))
      have HRx := Lib.hid (fun y : Ext w5 => HR.out y.W (bthen hb5 y.h hb5.size))
      have HlA : Hid (∀ W, Grew w5 W → ∀ j v, cs[j]? = some v → W.cell? ⟨b, 0 + j, none⟩ = some v) := by
        rintro W ⟨y, rfl⟩ j v hj
        exact y.cell (HLd.out _ _ HR2.out j v hj)
      have HxA : Hid (∀ W, Grew w5 W → ∀ j v, cs[j]? = some v → W.cell? ⟨B, 0 + j, none⟩ = some v) := by
        rintro W ⟨y, rfl⟩ j v hj
        rw [Nat.zero_add]
        exact y.cell (HS5.out j v hj)
      clear HL HME HH HR HR2 HS5 HLd
      refine wp_region_grew (by kernel_rfl) (by kernel_rfl) ?_
      (try simp only [Act.put, List.append, List.cons_append, List.nil_append])
      repeat (first | go_big_quiet_skip | (go_big_quiet_want; (first | ((first | refine quiet_load 37 _ rfl cs b 0 rfl Tryz.underlying37 rfl HI.out HlA.out ?_ | refine quiet_load 37 _ rfl cs B 0 rfl Tryz.underlying37 rfl HI.out HxA.out ?_); simp only [Act.put, List.setIfInBounds_toArray, List.set_cons_succ, List.set_cons_zero]; go_big_quiet_on) | (go_big_quiet_op; (first | go_big_quiet_on | go_big_quiet_call ((with_reducible first | exact ext_call _ (HRx.out _) | exact ext_call _ (HMay.out _) | exact ext_call _ (HHx.out _) | exact ext_call _ (HMx.out _) | exact ext_call _ (HVx.out _))))))))
      refine wpQuiet_nil ?_
      rintro _ ⟨xw, rfl⟩
      have hbx := bthen hb5 (Ext.h xw) hb5.size
      go_wp2
      go_ret
      exact ⟨rfl, hbx⟩
    · have HLw := Lib.hid (fun W (hb : Below w.heap.size w W) => klower_bad A n m c W (hA.below hb) hn hc)
      have HC := Lib.hid (fun W (hb : Below w.heap.size w W) => klowClause_bad A n m c W (hA.below hb) hn hc)
      have HI := Lib.hid (cl_info zeroC)
      have H1 := Lib.hid (clA_cells zeroC)
      have Hs : Hid (30 = (clA zeroC).size) := rfl
      have eq1 : ∀ W, (binOp .eql 37 (.agg (clA zeroC)) (.agg #[.int .u64 0, .int .u64 0, .int .u64 0, .int .u64 0, .int .u64 0, .int .u64 0, .int .u64 0, .bool false, .int .i64 0, .bool false, .int .u64 0, .int .u64 0, .int .u64 0, .int .u64 0, .int .u64 0, .int .u64 0, .int .u64 0, .int .u64 0, .int .u64 0, .int .u64 0, .int .u64 0, .int .u64 0, .int .u64 0, .int .u64 0, .int .u64 0, .int .i64 0, .int .i64 0, .int .i64 0, .int .i64 0, .int .i64 0])).run Tryz.prog W = .ok (.bool true) W := fun W => eql_cl zeroC W
      have he : ((kchk c).2 != 0) = true := by simpa using hc
      clear hA hn hns hc
      generalize (kchk c).1 = fd at *
      generalize (kchk c).2 = e at *
      generalize clA zeroC = cs at *
      generalize c.back = bk at *
      unfold evV at *
      go_enter Tryz.func3, Tryz.ntmps3
      go_wp2_with fail
      refine (HG.out _).mono ?_
      rintro x w1 ⟨rfl, hq⟩
      have HL := Lib.hid (HL0.out.below hq)
      have hb : Below w.heap.size w w1 := ((Below.refl _ w).alloc (Nat.le_refl _) _).trans (hq.mono (by simp))
      have hlt : w.heap.size < w1.heap.size := by have := hq.size; simp at this; omega
      clear HL0 hq HG
      have l0 := HL.out.h0; have l1 := HL.out.h1; have l2 := HL.out.h2; have l3 := HL.out.h3; have l4 := HL.out.h4; have l5 := HL.out.h5; have l6 := HL.out.h6; have l7 := HL.out.h7
      go_wp2_with fail
      clear l0 l1 l2 l3 l4 l5 l6 l7
      refine (HLw.out _ hb).mono ?_
      rintro x w2 ⟨rfl, hq⟩
      replace HL := Lib.hid (HL.out.below hq)
      have hb2 := bthen hb hq hb.size
      have hlt2 : w.heap.size < w2.heap.size := Nat.lt_of_lt_of_le hlt hq.size
      clear hq hb hlt HLw
      have l0 := HL.out.h0; have l1 := HL.out.h1; have l2 := HL.out.h2; have l3 := HL.out.h3; have l4 := HL.out.h4; have l5 := HL.out.h5; have l6 := HL.out.h6; have l7 := HL.out.h7
      go_wp2_with fail
      clear l0 l1 l2 l3 l4 l5 l6 l7
      refine (HC.out _ hb2).mono ?_
      rintro x w3 ⟨rfl, hq⟩
      replace HL := Lib.hid (HL.out.below hq)
      have hb3 := bthen hb2 hq hb2.size
      have hlt3 : w.heap.size < w3.heap.size := Nat.lt_of_lt_of_le hlt2 hq.size
      clear hq hb2 hlt2 HC
      go_wp2_with (first | (refine wp_store_new (by rfl) 37 _ _ rfl cs _ rfl rfl HI.out H1.out Hs.out ?_; intro w4 hq4 HS4 hz4; have l0 := (HL.out.below hq4).h0; have l1 := (HL.out.below hq4).h1; have l2 := (HL.out.below hq4).h2; have l3 := (HL.out.below hq4).h3; have l4 := (HL.out.below hq4).h4; have l5 := (HL.out.below hq4).h5; have l6 := (HL.out.below hq4).h6; have l7 := (HL.out.below hq4).h7) | fail)
      clear l0 l1 l2 l3 l4 l5 l6 l7
      have hb4 := bthen hb3 hq4 hb3.size
      have HSx : Hid (∀ j v, cs[j]? = some v → w4.cell? ⟨w3.heap.size, j, none⟩ = some v) := arr_lies HS4
      clear hq4 HS4 hz4 hb3 hlt3
      generalize hB : w3.heap.size = B at *
      clear hB
      refine (HK.out _ hb4).mono ?_
      rintro x w5 ⟨rfl, hq⟩
      have HS5 : Hid (∀ j v, cs[j]? = some v → w5.cell? ⟨B, 0 + j, none⟩ = some v) := lies0 (fun j v hj => keepc hq (HSx.out j v hj))
      have hb5 := bthen hb4 hq hb4.size
      clear hq hb4 HSx HK
      go_wp2_with (first | (refine wp_load_arr (by rfl) 37 _ rfl cs B 0 rfl Tryz.underlying37 rfl HI.out HS5.out ?_) | fail)
      refine (HV.out _ hb5).mono ?_
      rintro x w6 ⟨rfl, hq⟩
      go_wp2
      go_ret
      exact ⟨rfl, bthen hb5 hq hb5.size⟩
end Go.Proofs.YtochhmkdhdadhaaGreat
