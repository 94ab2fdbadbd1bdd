/- The walks of package cron, on: the fields of a line, and whether two are the same. -/
import Derived.Test.YtochhmkdhdadhaaGreatDoorWRef12
import Derived.Test.YtochhmkdhdadhaaGreatDoorWSl
import Derived.Test.YtochhmkdhdadhaaGreatDoorWLine
import Derived.Test.YtochhmkdhdadhaaGreatDoorWCron
import Derived.Test.YtochhmkdhdadhaaGreatDoorWClone
/- The walks of package feriaref24. -/
namespace Go.Proofs.YtochhmkdhdadhaaGreatDoor
open Go.RowKit
set_option linter.unusedSimpArgs false
set_option linter.unusedVariables false

theorem rbounds_any (f : Int) (w : World) : Calls Tryz.prog 27 #[.int .i64 f] w (RetQ (.tuple #[.int .i64 (cLo f), .int .i64 (cHi f)]) w) := by
  go_enter Tryz.func27, Tryz.ntmps27
  go_wp2
  all_goals go_ret2
  all_goals refine ⟨ret_int2 ?_ ?_, rfl⟩
  all_goals (simp only [beq_iff_eq, beq_eq_false_iff_ne, ne_eq] at *; simp [cLo, cHi, *])

theorem rfield_in (k : Nat) (hk : k < 5) (A : Nat → Option Addr) (n c : Nat → Nat) (w : World) : Calls Tryz.prog 18 #[crV A n c, .int .i64 k] w (Ret (.slice (A k) (n k) (c k)) w) := by
  obtain rfl | rfl | rfl | rfl | rfl : k = 0 ∨ k = 1 ∨ k = 2 ∨ k = 3 ∨ k = 4 := by omega
  all_goals
    go_enter Tryz.func18, Tryz.ntmps18
    go_wp2
    go_ret
    exact ⟨rfl, by (repeat' (first | (with_reducible exact Below.refl _ _) | (with_reducible assumption) | (with_reducible refine below_drewN ?_ _) | (with_reducible refine Below.alloc ?_ ?_ _) | (with_reducible refine Below.drew ?_) | (with_reducible refine Below.setCell ?_ ?_ _) | go_size))⟩
theorem rfield_out (f : Int) (hf : f < 0 ∨ 5 ≤ f) (A : Nat → Option Addr) (n c : Nat → Nat) (w : World) : Calls Tryz.prog 18 #[crV A n c, .int .i64 f] w (Ret (.slice none 0 0) w) := by
  have h0 : (f == 0) = false := by simp; omega
  have h1 : (f == 1) = false := by simp; omega
  have h2 : (f == 2) = false := by simp; omega
  have h3 : (f == 3) = false := by simp; omega
  have h4 : (f == 4) = false := by simp; omega
  clear hf
  go_enter Tryz.func18, Tryz.ntmps18
  go_wp2
  go_ret
  exact ⟨rfl, by (repeat' (first | (with_reducible exact Below.refl _ _) | (with_reducible assumption) | (with_reducible refine below_drewN ?_ _) | (with_reducible refine Below.alloc ?_ ?_ _) | (with_reducible refine Below.drew ?_) | (with_reducible refine Below.setCell ?_ ?_ _) | go_size))⟩

theorem starB_cons {l : List It} {it : It} (h : l[0]? = some it) : starB l = decide (it.k = 0) := by
  cases l with
  | nil => simp at h
  | cons a l => obtain rfl : a = it := by simpa using h
                rfl
theorem starB_nil {l : List It} (h : l.length = 0) : starB l = false := by
  rw [List.length_eq_zero_iff.1 h]; rfl

theorem rstarred_any (A : Option Addr) (n c : Nat) (l : List It) (w : World) (hA : RdIts w A n l) : Calls Tryz.prog 17 #[.slice A n c] w (RetQ (.bool (starB l)) w) := by
  by_cases h0 : 0 < n
  · obtain ⟨b, o, it, rfl, _, hx, c0, c1, c2, c3⟩ := RdIts.at_ hA h0
    rw [Nat.zero_mul, Nat.add_zero] at c0
    have HS : Hid (starB l = decide (it.k = 0)) := starB_cons hx
    have h0' : (0 : Int) < n := by omega
    clear hx hA
    go_enter Tryz.func17, Tryz.ntmps17
    go_wp2
    go_ret
    exact ⟨ret_bool (by rw [HS.out, Bool.eq_iff_iff]; simp), rfl⟩
  · have h1 : n = 0 := by omega
    subst h1
    have HS : Hid (starB l = false) := starB_nil hA.1
    go_enter Tryz.func17, Tryz.ntmps17
    go_wp2
    go_ret
    exact ⟨ret_bool HS.out.symm, rfl⟩

/-- Is a line more than is gone through? -/
def greatB (n : Nat → Nat) : Bool := decide (200 < n 0 ∨ 200 < n 1 ∨ 200 < n 2 ∨ 200 < n 3 ∨ 200 < n 4)
theorem greatB_yes {n : Nat → Nat} {k : Nat} (hk : k < 5) (h : 200 < n k) : greatB n = true := by
  obtain rfl | rfl | rfl | rfl | rfl : k = 0 ∨ k = 1 ∨ k = 2 ∨ k = 3 ∨ k = 4 := by omega
  all_goals simp [greatB, h]
theorem greatB_no {n : Nat → Nat} (H : ∀ j, j < 5 → n j ≤ 200) : greatB n = false := by
  have := H 0; have := H 1; have := H 2; have := H 3; have := H 4
  simp [greatB]; omega

theorem great_le {n : Nat → Nat} (h : greatB n = false) : ∀ k, k < 5 → n k ≤ 200 := by
  intro k hk
  rcases Nat.lt_or_ge 200 (n k) with h1 | h1
  · rw [greatB_yes hk h1] at h; cases h
  · exact h1
set_option maxHeartbeats 400000 in
theorem great_any (A : Nat → Option Addr) (n c : Nat → Nat) (w : World) : Calls Tryz.prog 6 #[crV A n c] w (Ret (.bool (greatB n)) w) := by
  go_enter Tryz.func6, Tryz.ntmps6
  go_wp2
  go_loopw [3] (fun i wr => ∃ k : Nat, k ≤ 5 ∧ i = .int .i64 k ∧ Hid (∀ j, j < k → n j ≤ 200) ∧ Hid (LineAt wr w.heap.size 0 A n c) ∧ w.heap.size < wr.heap.size ∧ Below w.heap.size w wr) (fun i _ => 5 - (intOf i).toNat)
  case atStart => exact ⟨0, by omega, rfl, fun j h => absurd h (Nat.not_lt_zero _), ⟨by simp [go_sem], by simp [go_sem], by simp [go_sem], by simp [go_sem], by simp [go_sem]⟩, by (first | (simp; done) | (simp; omega)), by (repeat' (first | (with_reducible exact Below.refl _ _) | (with_reducible assumption) | (with_reducible refine below_drewN ?_ _) | (with_reducible refine Below.alloc ?_ ?_ _) | (with_reducible refine Below.drew ?_) | (with_reducible refine Below.setCell ?_ ?_ _) | go_size))⟩
  case round =>
    obtain ⟨k, hk, rfl, H, HC, hlt, hb⟩ := hrel
    have hsz := hb.size
    by_cases h5 : k < 5
    · have h5' : (k : Int) < 5 := by omega
      have HF := Lib.hid (rfield_in k h5 A n c wr)
      obtain ⟨l0, l1, l2, l3, l4⟩ := HC.out
      simp only [Nat.zero_add] at l1 l2 l3 l4
      by_cases hf : 200 < n k
      · have HK : Hid (greatB n = true) := greatB_yes h5 hf
        have hf' : (200 : Int) < (n k : Nat) := by omega
        go_wp2_with fail
        refine HF.out.mono ?_
        rintro e w1 ⟨rfl, hb1⟩
        go_wp2
        go_ret
        exact ⟨ret_bool HK.out.symm, bthen hb hb1 hsz⟩
      · have Hf : Hid (n k ≤ 200) := Nat.le_of_not_lt hf
        have hf' : ¬ (200 : Int) < (n k : Nat) := by omega
        clear hf
        go_wp2_with fail
        refine HF.out.mono ?_
        rintro e w1 ⟨rfl, hb1⟩
        go_wp2
        go_roundw
        case rel => exact ⟨k + 1, by omega, by go_num, upto_succ H.out Hf.out, LineAt.below HC.out (fun o => hb1.cell (p := ⟨_, o, none⟩) hlt), Nat.lt_of_lt_of_le hlt hb1.size, bthen hb hb1 hsz⟩
        case measure => simp [intOf]; omega
    · obtain rfl : k = 5 := by omega
      have HK : Hid (greatB n = false) := greatB_no H.out
      go_wp2
      go_ret
      exact ⟨ret_bool HK.out.symm, hb⟩

set_option maxHeartbeats 1000000 in
theorem rcheck_any (A : Nat → Option Addr) (n c : Nat → Nat) (l : Nat → List It) (w : World) (hA : RdLine w A n l) (hn : ∀ k, n k ≤ 9223372036854775807) :
    Calls Tryz.prog 10 #[crV A n c] w (Ret (.tuple #[.int .i64 (chk l).1, .int .i64 (chk l).2]) w) := by
  have HA := Lib.hid hA
  have HN := Lib.hid hn
  clear hA hn
  go_enter Tryz.func10, Tryz.ntmps10
  go_wp2
  go_loopw [4] (fun i wr => ∃ k : Nat, k ≤ 5 ∧ i = .int .i64 k ∧ Hid (∀ j, j < k → faultI j (l j) = 0) ∧ Hid (LineAt wr w.heap.size 0 A n c) ∧ w.heap.size < wr.heap.size ∧ Below w.heap.size w wr) (fun i _ => 5 - (intOf i).toNat)
  case atStart => exact ⟨0, by omega, rfl, fun j h => absurd h (Nat.not_lt_zero _), ⟨by simp [go_sem], by simp [go_sem], by simp [go_sem], by simp [go_sem], by simp [go_sem]⟩, by (first | (simp; done) | (simp; omega)), by (repeat' (first | (with_reducible exact Below.refl _ _) | (with_reducible assumption) | (with_reducible refine below_drewN ?_ _) | (with_reducible refine Below.alloc ?_ ?_ _) | (with_reducible refine Below.drew ?_) | (with_reducible refine Below.setCell ?_ ?_ _) | go_size))⟩
  case round =>
    obtain ⟨k, hk, rfl, H, HC, hlt, hb⟩ := hrel
    have hsz := hb.size
    by_cases h5 : k < 5
    · have h5' : (k : Int) < 5 := by omega
      have HF := Lib.hid (rfield_in k h5 A n c wr)
      have HB := Lib.hid (fun W => rbounds_any k W)
      have HR := Lib.hid (HA.out k h5)
      have HRL : Hid ((l k).length = n k) := (HA.out k h5).1
      have hnk := HN.out k
      obtain ⟨l0, l1, l2, l3, l4⟩ := HC.out
      simp only [Nat.zero_add] at l1 l2 l3 l4
      by_cases h0 : n k = 0
      · have hf : faultI k (l k) = 11 := faultI_nil (by rw [HRL.out, h0])
        have HK : Hid (chk l = ((k : Int), 11)) := by rw [← hf]; exact chk_at h5 H.out (by rw [hf]; decide)
        have h0' : (((n k : Nat) : Int) == 0) = true := by simp; omega
        clear hf h0
        go_wp2_with fail
        refine HF.out.mono ?_
        rintro e w1 ⟨rfl, hb1⟩
        go_wp2_with fail
        refine (HB.out _).mono ?_
        rintro e w2 ⟨rfl, rfl⟩
        go_wp2
        go_ret2
        exact ⟨by rw [HK.out]; rfl, bthen hb hb1 hsz⟩
      have h0' : (((n k : Nat) : Int) == 0) = false := by simp; omega
      by_cases h64 : 64 < n k
      · have hf : faultI k (l k) = 5 := faultI_long (by rw [HRL.out]; exact h64)
        have HK : Hid (chk l = ((k : Int), 5)) := by rw [← hf]; exact chk_at h5 H.out (by rw [hf]; decide)
        have h64' : (64 : Int) < ((n k : Nat) : Int) := by omega
        clear hf
        go_wp2_with fail
        refine HF.out.mono ?_
        rintro e w1 ⟨rfl, hb1⟩
        go_wp2_with fail
        refine (HB.out _).mono ?_
        rintro e w2 ⟨rfl, rfl⟩
        go_wp2
        go_ret2
        exact ⟨by rw [HK.out]; rfl, bthen hb hb1 hsz⟩
      have h64' : ¬ (64 : Int) < ((n k : Nat) : Int) := by omega
      have HRm := Lib.hid (fun w1 (hb1 : Below w.heap.size w w1) => HR.out.below hb1 (Nat.le_refl _))
      have Hge : Hid (¬ (l k).length = 0 ∧ ¬ 64 < (l k).length) := ⟨by rw [HRL.out]; exact h0, by rw [HRL.out]; exact h64⟩
      generalize hnq : n k = nk at *
      clear hnq
      generalize hcq : c k = ck at *
      clear hcq
      go_wp2_with fail
      refine HF.out.mono ?_
      rintro e w1 ⟨rfl, hb1⟩
      go_wp2_with fail
      refine (HB.out _).mono ?_
      rintro e w2 ⟨rfl, rfl⟩
      have hb01 : Below w.heap.size w w1 := bthen hb hb1 hsz
      have hlt1 : w.heap.size < w1.heap.size := Nat.lt_of_lt_of_le hlt hb1.size
      have HC1 : Hid (LineAt w1 w.heap.size 0 A n c) := LineAt.below HC.out (fun o => hb1.cell (p := ⟨_, o, none⟩) hlt)
      clear l0 l1 l2 l3 l4 HF HC
      obtain ⟨wo, rfl⟩ : ∃ wo : World, wo = wr := ⟨_, rfl⟩
      go_wp2
      go_loopw [8] (fun i wq => ∃ j : Nat, j ≤ nk ∧ i = .int .i64 j ∧ Hid (∀ q it, q < j → (l k)[q]? = some it → (it.k == 3 || !mayIt it (cLo k) (cHi k)) = false) ∧ Below w1.heap.size w1 wq) (fun i _ => nk - (intOf i).toNat)
      case atStart => exact ⟨0, Nat.zero_le _, rfl, fun j _ h => absurd h (Nat.not_lt_zero _), Below.refl _ _⟩
      case round =>
        obtain ⟨j, hj, rfl, HI, hbq⟩ := hrel
        have hb0q : Below w.heap.size w wr := bthen hb01 hbq hb01.size
        have hszq := hbq.size
        by_cases hlj : j < nk
        · obtain ⟨b, o, it, e1, hbl, hx, c0, c1, c2, c3⟩ := RdIts.at_ (HRm.out _ hb0q) hlj
          rw [e1]
          have hlj' : (j : Int) < (nk : Int) := by omega
          have Hx := Lib.hid hx
          clear hx
          by_cases h3 : it.k = 3
          · have h3' : (it.k == 3) = true := by simpa using h3
            have hf : faultI k (l k) = 1 := faultI_bad Hge.out.1 Hge.out.2 Hx.out (.inl h3)
            have HK : Hid (chk l = ((k : Int), 1)) := by rw [← hf]; exact chk_at h5 H.out (by rw [hf]; decide)
            clear hf h3
            go_wp2
            go_ret2
            exact ⟨by rw [HK.out]; rfl, hb0q⟩
          · have h3' : (it.k == 3) = false := by simpa using h3
            have H3 := Lib.hid h3
            clear h3
            cases hm : mayIt it (cLo k) (cHi k) with
            | false =>
              have hf : faultI k (l k) = 1 := faultI_bad Hge.out.1 Hge.out.2 Hx.out (.inr hm)
              have HK : Hid (chk l = ((k : Int), 1)) := by rw [← hf]; exact chk_at h5 H.out (by rw [hf]; decide)
              clear hf
              go_wp2_with fail
              refine (rmay_any it _ _ _).mono ?_
              rintro e w3 ⟨rfl, hb3⟩
              simp only [hm]
              go_wp2
              go_ret2
              exact ⟨by rw [HK.out]; rfl, bthen hb0q hb3 hb0q.size⟩
            | true =>
              have Hm : Hid ((it.k == 3 || !mayIt it (cLo k) (cHi k)) = false) := by
                show _ = false
                rw [hm, h3']; rfl
              go_wp2_with fail
              refine (rmay_any it _ _ _).mono ?_
              rintro e w3 ⟨rfl, hb3⟩
              simp only [hm]
              go_wp2
              go_roundw
              case rel => exact ⟨j + 1, by omega, by go_num, all_succ (p := fun (it : It) => it.k == 3 || !mayIt it (cLo k) (cHi k)) HI.out Hx.out Hm.out, bthen hbq hb3 hszq⟩
              case measure => simp [intOf]; omega
        · obtain rfl : j = nk := by omega
          have Hf : Hid (faultI k (l k) = 0) := faultI_ok Hge.out.1 Hge.out.2 (by rw [HRL.out]; exact HI.out)
          go_wp2
          go_roundw
          case rel => exact ⟨k + 1, by omega, by go_num, upto_succ H.out Hf.out, LineAt.below HC1.out (fun o => hbq.cell (p := ⟨_, o, none⟩) hlt1), Nat.lt_of_lt_of_le hlt1 hszq, hb0q⟩
          case measure => simp [intOf]; omega
    · obtain rfl : k = 5 := by omega
      have HK : Hid (chk l = (5, 0)) := chk_all H.out
      go_wp2
      go_ret2
      exact ⟨by rw [HK.out]; rfl, hb⟩
end Go.Proofs.YtochhmkdhdadhaaGreatDoor

namespace Go.Proofs.YtochhmkdhdadhaaGreatDoor
open Go.RowKit
set_option linter.unusedSimpArgs false
set_option linter.unusedVariables false

theorem starred_in (k : Nat) (hk : k < 5) (A : Nat → Option Addr) (n c : Nat → Nat) (l : Nat → List It) (w : World) (hA : RdLine w A n l) :
    Calls Tryz.prog 64 #[crV A n c, .int .i64 k] w (Ret (.bool (starB (l k))) w) := by
  have hR := hA k hk
  have HLs := Lib.hid (fun W b (h : LineAt W b 0 A n c) => list_in k hk b A n c W h)
  clear hA
  by_cases h0 : 0 < n k
  · obtain ⟨b, o, it, e1, hbl, hx, c0, c1, c2, c3⟩ := RdIts.at_ hR h0
    rw [Nat.zero_mul, Nat.add_zero] at c0
    have HS : Hid (starB (l k) = decide (it.k = 0)) := starB_cons hx
    have h0' : (0 : Int) < ((n k : Nat) : Int) := by omega
    have HE := Lib.hid e1
    clear hx hR e1
    go_enter Tryz.func64, Tryz.ntmps64
    go_wp2_with fail
    refine (HLs.out _ _ ⟨by simp [go_sem], by simp [go_sem], by simp [go_sem], by simp [go_sem], by simp [go_sem]⟩).mono ?_
    rintro e w1 ⟨rfl, q, rfl⟩
    rw [HE.out]
    go_wp2
    go_ret
    exact ⟨ret_bool (by rw [HS.out, Bool.eq_iff_iff]; simp), by (repeat' (first | (with_reducible exact Below.refl _ _) | (with_reducible assumption) | (with_reducible refine below_drewN ?_ _) | (with_reducible refine Below.alloc ?_ ?_ _) | (with_reducible refine Below.drew ?_) | (with_reducible refine Below.setCell ?_ ?_ _) | go_size))⟩
  · have h1 : n k = 0 := by omega
    have HS : Hid (starB (l k) = false) := starB_nil (by rw [hR.1, h1])
    have h1' : ¬ (0 : Int) < ((n k : Nat) : Int) := by omega
    clear h1 h0 hR
    go_enter Tryz.func64, Tryz.ntmps64
    go_wp2_with fail
    refine (HLs.out _ _ ⟨by simp [go_sem], by simp [go_sem], by simp [go_sem], by simp [go_sem], by simp [go_sem]⟩).mono ?_
    rintro e w1 ⟨rfl, q, rfl⟩
    go_wp2
    go_ret
    exact ⟨ret_bool HS.out.symm, by (repeat' (first | (with_reducible exact Below.refl _ _) | (with_reducible assumption) | (with_reducible refine below_drewN ?_ _) | (with_reducible refine Below.alloc ?_ ?_ _) | (with_reducible refine Below.drew ?_) | (with_reducible refine Below.setCell ?_ ?_ _) | go_size))⟩
theorem starred_out (f : Int) (hf : f < 0 ∨ 5 ≤ f) (A : Nat → Option Addr) (n c : Nat → Nat) (w : World) :
    Calls Tryz.prog 64 #[crV A n c, .int .i64 f] w (Ret (.bool false) w) := by
  have HLs := Lib.hid (fun W p => list_out f hf p W)
  clear hf
  go_enter Tryz.func64, Tryz.ntmps64
  go_wp2_with fail
  refine (HLs.out _ _).mono ?_
  rintro e w1 ⟨rfl, rfl⟩
  go_wp2
  go_ret
  exact ⟨rfl, by (repeat' (first | (with_reducible exact Below.refl _ _) | (with_reducible assumption) | (with_reducible refine below_drewN ?_ _) | (with_reducible refine Below.alloc ?_ ?_ _) | (with_reducible refine Below.drew ?_) | (with_reducible refine Below.setCell ?_ ?_ _) | go_size))⟩

def eitherB (l : Nat → List It) : Bool := !starB (l 2) && !starB (l 4)
theorem either_any (A : Nat → Option Addr) (n c : Nat → Nat) (l : Nat → List It) (w : World) (hA : RdLine w A n l) :
    Calls Tryz.prog 26 #[crV A n c] w (Ret (.bool (eitherB l)) w) := by
  have H2 := Lib.hid (fun W (hb : Below w.heap.size w W) => starred_in 2 (by omega) A n c l W (hA.below hb (Nat.le_refl _)))
  have H4 := Lib.hid (fun W (hb : Below w.heap.size w W) => starred_in 4 (by omega) A n c l W (hA.below hb (Nat.le_refl _)))
  clear hA
  unfold eitherB
  cases h2 : starB (l 2) with
  | true =>
    rw [h2] at H2
    clear h2
    go_enter Tryz.func26, Tryz.ntmps26
    go_wp2_with fail
    refine (H2.out _ (by (repeat' (first | (with_reducible exact Below.refl _ _) | (with_reducible assumption) | (with_reducible refine below_drewN ?_ _) | (with_reducible refine Below.alloc ?_ ?_ _) | (with_reducible refine Below.drew ?_) | (with_reducible refine Below.setCell ?_ ?_ _) | go_size)))).mono ?_
    rintro e w1 ⟨rfl, hb1⟩
    go_wp2
    go_ret
    exact ⟨rfl, ((Below.refl _ w).alloc (Nat.le_refl _) _).trans (hb1.mono (by simp))⟩
  | false =>
    rw [h2] at H2
    clear h2
    generalize starB (l 4) = q at H4 ⊢
    go_enter Tryz.func26, Tryz.ntmps26
    go_wp2_with fail
    refine (H2.out _ (by (repeat' (first | (with_reducible exact Below.refl _ _) | (with_reducible assumption) | (with_reducible refine below_drewN ?_ _) | (with_reducible refine Below.alloc ?_ ?_ _) | (with_reducible refine Below.drew ?_) | (with_reducible refine Below.setCell ?_ ?_ _) | go_size)))).mono ?_
    rintro e w1 ⟨rfl, hb1⟩
    obtain ⟨hc, hf⟩ := bcell hb1
    have hb2 : Below w.heap.size w w1 := ((Below.refl _ w).alloc (Nat.le_refl _) _).trans (hb1.mono (by simp))
    go_wp2_with fail
    refine (H4.out _ hb2).mono ?_
    rintro e w2 ⟨rfl, hb3⟩
    go_wp2
    go_ret
    exact ⟨rfl, bthen hb2 hb3 hb2.size⟩

theorem field_in (k : Nat) (hk : k < 5) (A : Nat → Option Addr) (n c : Nat → Nat) (l : Nat → List It) (w : World) (hA : RdLine w A n l) (hn : n k ≤ 4294967296) (hnil : A k = none → n k = 0) :
    Calls Tryz.prog 23 #[crV A n c, .int .i64 k] w (RetIts (n k) (l k) w) := by
  have HLs := Lib.hid (fun W b (h : LineAt W b 0 A n c) => list_in k hk b A n c W h)
  have HCl := Lib.hid (fun W (hb : Below w.heap.size w W) => clone_any (A k) (n k) (c k) (l k) W ((hA k hk).below hb (Nat.le_refl _)) hn hnil)
  clear hA hn hnil
  go_enter Tryz.func23, Tryz.ntmps23
  go_wp2_with fail
  refine (HLs.out _ _ ⟨by simp [go_sem], by simp [go_sem], by simp [go_sem], by simp [go_sem], by simp [go_sem]⟩).mono ?_
  rintro e w1 ⟨rfl, q, rfl⟩
  go_wp2_with fail
  refine (HCl.out _ (by (repeat' (first | (with_reducible exact Below.refl _ _) | (with_reducible assumption) | (with_reducible refine below_drewN ?_ _) | (with_reducible refine Below.alloc ?_ ?_ _) | (with_reducible refine Below.drew ?_) | (with_reducible refine Below.setCell ?_ ?_ _) | go_size)))).mono ?_
  rintro e w1 ⟨A', c', rfl, hr, hb1⟩
  go_wp2
  go_ret
  exact ⟨A', c', rfl, hr, (below_drewN ((Below.refl _ w).alloc (Nat.le_refl _) _) q).trans (hb1.mono (by simp))⟩
theorem field_out (f : Int) (hf : f < 0 ∨ 5 ≤ f) (A : Nat → Option Addr) (n c : Nat → Nat) (w : World) :
    Calls Tryz.prog 23 #[crV A n c, .int .i64 f] w (RetIts 0 [] w) := by
  have HLs := Lib.hid (fun W p => list_out f hf p W)
  have HCl := Lib.hid (fun W => clone_any none 0 0 [] W Rd.nil (by decide) (fun _ => rfl))
  clear hf
  go_enter Tryz.func23, Tryz.ntmps23
  go_wp2_with fail
  refine (HLs.out _ _).mono ?_
  rintro e w1 ⟨rfl, rfl⟩
  go_wp2_with fail
  refine (HCl.out _).mono ?_
  rintro e w1 ⟨A', c', rfl, hr, hb1⟩
  go_wp2
  go_ret
  exact ⟨A', c', rfl, hr, ((Below.refl _ w).alloc (Nat.le_refl _) _).trans (hb1.mono (by simp))⟩

/-- Are two lines the same? -/
def sameLine (l r : Nat → List It) : Bool := (List.range 5).all fun k => sameIts (l k) (r k)
theorem sameLine_no {l r : Nat → List It} {k : Nat} (hk : k < 5) (h : sameIts (l k) (r k) = false) : sameLine l r = false := by
  rw [sameLine, List.all_eq_false]
  exact ⟨k, List.mem_range.2 hk, by simp [h]⟩
theorem sameLine_yes {l r : Nat → List It} (H : ∀ k, k < 5 → sameIts (l k) (r k) = true) : sameLine l r = true := by
  rw [sameLine, List.all_eq_true]
  exact fun k hk => H k (List.mem_range.1 hk)
theorem sameLine_self (l : Nat → List It) : sameLine l l = true := sameLine_yes fun k _ => by simp [sameIts]

end Go.Proofs.YtochhmkdhdadhaaGreatDoor
