/- The walks of package feriaref24. -/
import Derived.Test.YtgliminiiciflaaDoorWRef12
import Derived.Test.YtgliminiiciflaaDoorWSame
import Derived.Test.YtgliminiiciflaaDoorWLine
namespace Go.Proofs.YtgliminiiciflaaDoor
open Go.RowKit
set_option linter.unusedSimpArgs false
set_option linter.unusedVariables false

theorem rbounds_any (f : Int) (w : World) : Calls Tryd.prog 30 #[.int .i64 f] w (RetQ (.tuple #[.int .i64 (cLo f), .int .i64 (cHi f)]) w) := by
  go_enter Tryd.func30, Tryd.ntmps30
  go_wp2
  all_goals go_ret2
  all_goals refine ⟨ret_int2 ?_ ?_, rfl⟩
  all_goals (simp only [beq_iff_eq, beq_eq_false_iff_ne, ne_eq] at *; simp [cLo, cHi, *])

theorem rfield_in (k : Nat) (hk : k < 5) (A : Nat → Option Addr) (n c : Nat → Nat) (w : World) : Calls Tryd.prog 28 #[crV A n c, .int .i64 k] w (Ret (.slice (A k) (n k) (c k)) w) := by
  obtain rfl | rfl | rfl | rfl | rfl : k = 0 ∨ k = 1 ∨ k = 2 ∨ k = 3 ∨ k = 4 := by omega
  all_goals
    go_enter Tryd.func28, Tryd.ntmps28
    go_wp2
    go_ret
    exact ⟨rfl, by (repeat' (first | (with_reducible exact Below.refl _ _) | (with_reducible assumption) | (with_reducible refine below_drewN ?_ _) | (with_reducible refine Below.alloc ?_ ?_ _) | (with_reducible refine Below.drew ?_) | (with_reducible refine Below.setCell ?_ ?_ _) | go_size))⟩
theorem rfield_out (f : Int) (hf : f < 0 ∨ 5 ≤ f) (A : Nat → Option Addr) (n c : Nat → Nat) (w : World) : Calls Tryd.prog 28 #[crV A n c, .int .i64 f] w (Ret (.slice none 0 0) w) := by
  have h0 : (f == 0) = false := by simp; omega
  have h1 : (f == 1) = false := by simp; omega
  have h2 : (f == 2) = false := by simp; omega
  have h3 : (f == 3) = false := by simp; omega
  have h4 : (f == 4) = false := by simp; omega
  clear hf
  go_enter Tryd.func28, Tryd.ntmps28
  go_wp2
  go_ret
  exact ⟨rfl, by (repeat' (first | (with_reducible exact Below.refl _ _) | (with_reducible assumption) | (with_reducible refine below_drewN ?_ _) | (with_reducible refine Below.alloc ?_ ?_ _) | (with_reducible refine Below.drew ?_) | (with_reducible refine Below.setCell ?_ ?_ _) | go_size))⟩

theorem starB_cons {l : List It} {it : It} (h : l[0]? = some it) : starB l = decide (it.k = 0) := by
  cases l with
  | nil => simp at h
  | cons a l => obtain rfl : a = it := by simpa using h
                rfl
theorem starB_nil {l : List It} (h : l.length = 0) : starB l = false := by
  rw [List.length_eq_zero_iff.1 h]; rfl

/-- Is a line more than is gone through? -/
def greatB (n : Nat → Nat) : Bool := decide (200 < n 0 ∨ 200 < n 1 ∨ 200 < n 2 ∨ 200 < n 3 ∨ 200 < n 4)
theorem greatB_yes {n : Nat → Nat} {k : Nat} (hk : k < 5) (h : 200 < n k) : greatB n = true := by
  obtain rfl | rfl | rfl | rfl | rfl : k = 0 ∨ k = 1 ∨ k = 2 ∨ k = 3 ∨ k = 4 := by omega
  all_goals simp [greatB, h]
theorem greatB_no {n : Nat → Nat} (H : ∀ j, j < 5 → n j ≤ 200) : greatB n = false := by
  have := H 0; have := H 1; have := H 2; have := H 3; have := H 4
  simp [greatB]; omega

theorem great_le {n : Nat → Nat} (h : greatB n = false) : ∀ k, k < 5 → n k ≤ 200 := by
  intro k hk
  rcases Nat.lt_or_ge 200 (n k) with h1 | h1
  · rw [greatB_yes hk h1] at h; cases h
  · exact h1
set_option maxHeartbeats 400000 in
theorem great_any (A : Nat → Option Addr) (n c : Nat → Nat) (w : World) : Calls Tryd.prog 15 #[crV A n c] w (Ret (.bool (greatB n)) w) := by
  go_enter Tryd.func15, Tryd.ntmps15
  go_wp2
  go_loopw [3] (fun i wr => ∃ k : Nat, k ≤ 5 ∧ i = .int .i64 k ∧ Hid (∀ j, j < k → n j ≤ 200) ∧ Hid (LineAt wr w.heap.size 0 A n c) ∧ w.heap.size < wr.heap.size ∧ Below w.heap.size w wr) (fun i _ => 5 - (intOf i).toNat)
  case atStart => exact ⟨0, by omega, rfl, fun j h => absurd h (Nat.not_lt_zero _), ⟨by simp [go_sem], by simp [go_sem], by simp [go_sem], by simp [go_sem], by simp [go_sem]⟩, by (first | (simp; done) | (simp; omega)), by (repeat' (first | (with_reducible exact Below.refl _ _) | (with_reducible assumption) | (with_reducible refine below_drewN ?_ _) | (with_reducible refine Below.alloc ?_ ?_ _) | (with_reducible refine Below.drew ?_) | (with_reducible refine Below.setCell ?_ ?_ _) | go_size))⟩
  case round =>
    obtain ⟨k, hk, rfl, H, HC, hlt, hb⟩ := hrel
    have hsz := hb.size
    by_cases h5 : k < 5
    · have h5' : (k : Int) < 5 := by omega
      have HF := Lib.hid (rfield_in k h5 A n c wr)
      obtain ⟨l0, l1, l2, l3, l4⟩ := HC.out
      simp only [Nat.zero_add] at l1 l2 l3 l4
      by_cases hf : 200 < n k
      · have HK : Hid (greatB n = true) := greatB_yes h5 hf
        have hf' : (200 : Int) < (n k : Nat) := by omega
        go_wp2_with fail
        refine HF.out.mono ?_
        rintro e w1 ⟨rfl, hb1⟩
        go_wp2
        go_ret
        exact ⟨ret_bool HK.out.symm, bthen hb hb1 hsz⟩
      · have Hf : Hid (n k ≤ 200) := Nat.le_of_not_lt hf
        have hf' : ¬ (200 : Int) < (n k : Nat) := by omega
        clear hf
        go_wp2_with fail
        refine HF.out.mono ?_
        rintro e w1 ⟨rfl, hb1⟩
        go_wp2
        go_roundw
        case rel => exact ⟨k + 1, by omega, by go_num, upto_succ H.out Hf.out, LineAt.below HC.out (fun o => hb1.cell (p := ⟨_, o, none⟩) hlt), Nat.lt_of_lt_of_le hlt hb1.size, bthen hb hb1 hsz⟩
        case measure => simp [intOf]; omega
    · obtain rfl : k = 5 := by omega
      have HK : Hid (greatB n = false) := greatB_no H.out
      go_wp2
      go_ret
      exact ⟨ret_bool HK.out.symm, hb⟩

set_option maxHeartbeats 1000000 in
theorem rcheck_any (A : Nat → Option Addr) (n c : Nat → Nat) (l : Nat → List It) (w : World) (hA : RdLine w A n l) (hn : ∀ k, n k ≤ 9223372036854775807) :
    Calls Tryd.prog 17 #[crV A n c] w (Ret (.tuple #[.int .i64 (chk l).1, .int .i64 (chk l).2]) w) := by
  have HA := Lib.hid hA
  have HN := Lib.hid hn
  clear hA hn
  go_enter Tryd.func17, Tryd.ntmps17
  go_wp2
  go_loopw [4] (fun i wr => ∃ k : Nat, k ≤ 5 ∧ i = .int .i64 k ∧ Hid (∀ j, j < k → faultI j (l j) = 0) ∧ Hid (LineAt wr w.heap.size 0 A n c) ∧ w.heap.size < wr.heap.size ∧ Below w.heap.size w wr) (fun i _ => 5 - (intOf i).toNat)
  case atStart => exact ⟨0, by omega, rfl, fun j h => absurd h (Nat.not_lt_zero _), ⟨by simp [go_sem], by simp [go_sem], by simp [go_sem], by simp [go_sem], by simp [go_sem]⟩, by (first | (simp; done) | (simp; omega)), by (repeat' (first | (with_reducible exact Below.refl _ _) | (with_reducible assumption) | (with_reducible refine below_drewN ?_ _) | (with_reducible refine Below.alloc ?_ ?_ _) | (with_reducible refine Below.drew ?_) | (with_reducible refine Below.setCell ?_ ?_ _) | go_size))⟩
  case round =>
    obtain ⟨k, hk, rfl, H, HC, hlt, hb⟩ := hrel
    have hsz := hb.size
    by_cases h5 : k < 5
    · have h5' : (k : Int) < 5 := by omega
      have HF := Lib.hid (rfield_in k h5 A n c wr)
      have HB := Lib.hid (fun W => rbounds_any k W)
      have HR := Lib.hid (HA.out k h5)
      have HRL : Hid ((l k).length = n k) := (HA.out k h5).1
      have hnk := HN.out k
      obtain ⟨l0, l1, l2, l3, l4⟩ := HC.out
      simp only [Nat.zero_add] at l1 l2 l3 l4
      by_cases h0 : n k = 0
      · have hf : faultI k (l k) = 11 := faultI_nil (by rw [HRL.out, h0])
        have HK : Hid (chk l = ((k : Int), 11)) := by rw [← hf]; exact chk_at h5 H.out (by rw [hf]; decide)
        have h0' : (((n k : Nat) : Int) == 0) = true := by simp; omega
        clear hf h0
        go_wp2_with fail
        refine HF.out.mono ?_
        rintro e w1 ⟨rfl, hb1⟩
        go_wp2_with fail
        refine (HB.out _).mono ?_
        rintro e w2 ⟨rfl, rfl⟩
        go_wp2
        go_ret2
        exact ⟨by rw [HK.out]; rfl, bthen hb hb1 hsz⟩
      have h0' : (((n k : Nat) : Int) == 0) = false := by simp; omega
      by_cases h64 : 64 < n k
      · have hf : faultI k (l k) = 5 := faultI_long (by rw [HRL.out]; exact h64)
        have HK : Hid (chk l = ((k : Int), 5)) := by rw [← hf]; exact chk_at h5 H.out (by rw [hf]; decide)
        have h64' : (64 : Int) < ((n k : Nat) : Int) := by omega
        clear hf
        go_wp2_with fail
        refine HF.out.mono ?_
        rintro e w1 ⟨rfl, hb1⟩
        go_wp2_with fail
        refine (HB.out _).mono ?_
        rintro e w2 ⟨rfl, rfl⟩
        go_wp2
        go_ret2
        exact ⟨by rw [HK.out]; rfl, bthen hb hb1 hsz⟩
      have h64' : ¬ (64 : Int) < ((n k : Nat) : Int) := by omega
      have HRm := Lib.hid (fun w1 (hb1 : Below w.heap.size w w1) => HR.out.below hb1 (Nat.le_refl _))
      have Hge : Hid (¬ (l k).length = 0 ∧ ¬ 64 < (l k).length) := ⟨by rw [HRL.out]; exact h0, by rw [HRL.out]; exact h64⟩
      generalize hnq : n k = nk at *
      clear hnq
      generalize hcq : c k = ck at *
      clear hcq
      go_wp2_with fail
      refine HF.out.mono ?_
      rintro e w1 ⟨rfl, hb1⟩
      go_wp2_with fail
      refine (HB.out _).mono ?_
      rintro e w2 ⟨rfl, rfl⟩
      have hb01 : Below w.heap.size w w1 := bthen hb hb1 hsz
      have hlt1 : w.heap.size < w1.heap.size := Nat.lt_of_lt_of_le hlt hb1.size
      have HC1 : Hid (LineAt w1 w.heap.size 0 A n c) := LineAt.below HC.out (fun o => hb1.cell (p := ⟨_, o, none⟩) hlt)
      clear l0 l1 l2 l3 l4 HF HC
      obtain ⟨wo, rfl⟩ : ∃ wo : World, wo = wr := ⟨_, rfl⟩
      go_wp2
      go_loopw [8] (fun i wq => ∃ j : Nat, j ≤ nk ∧ i = .int .i64 j ∧ Hid (∀ q it, q < j → (l k)[q]? = some it → (it.k == 3 || !mayIt it (cLo k) (cHi k)) = false) ∧ Below w1.heap.size w1 wq) (fun i _ => nk - (intOf i).toNat)
      case atStart => exact ⟨0, Nat.zero_le _, rfl, fun j _ h => absurd h (Nat.not_lt_zero _), Below.refl _ _⟩
      case round =>
        obtain ⟨j, hj, rfl, HI, hbq⟩ := hrel
        have hb0q : Below w.heap.size w wr := bthen hb01 hbq hb01.size
        have hszq := hbq.size
        by_cases hlj : j < nk
        · obtain ⟨b, o, it, e1, hbl, hx, c0, c1, c2, c3⟩ := RdIts.at_ (HRm.out _ hb0q) hlj
          rw [e1]
          have hlj' : (j : Int) < (nk : Int) := by omega
          have Hx := Lib.hid hx
          clear hx
          by_cases h3 : it.k = 3
          · have h3' : (it.k == 3) = true := by simpa using h3
            have hf : faultI k (l k) = 1 := faultI_bad Hge.out.1 Hge.out.2 Hx.out (.inl h3)
            have HK : Hid (chk l = ((k : Int), 1)) := by rw [← hf]; exact chk_at h5 H.out (by rw [hf]; decide)
            clear hf h3
            go_wp2
            go_ret2
            exact ⟨by rw [HK.out]; rfl, hb0q⟩
          · have h3' : (it.k == 3) = false := by simpa using h3
            have H3 := Lib.hid h3
            clear h3
            cases hm : mayIt it (cLo k) (cHi k) with
            | false =>
              have hf : faultI k (l k) = 1 := faultI_bad Hge.out.1 Hge.out.2 Hx.out (.inr hm)
              have HK : Hid (chk l = ((k : Int), 1)) := by rw [← hf]; exact chk_at h5 H.out (by rw [hf]; decide)
              clear hf
              go_wp2_with fail
              refine (rmay_any it _ _ _).mono ?_
              rintro e w3 ⟨rfl, hb3⟩
              simp only [hm]
              go_wp2
              go_ret2
              exact ⟨by rw [HK.out]; rfl, bthen hb0q hb3 hb0q.size⟩
            | true =>
              have Hm : Hid ((it.k == 3 || !mayIt it (cLo k) (cHi k)) = false) := by
                show _ = false
                rw [hm, h3']; rfl
              go_wp2_with fail
              refine (rmay_any it _ _ _).mono ?_
              rintro e w3 ⟨rfl, hb3⟩
              simp only [hm]
              go_wp2
              go_roundw
              case rel => exact ⟨j + 1, by omega, by go_num, all_succ (p := fun (it : It) => it.k == 3 || !mayIt it (cLo k) (cHi k)) HI.out Hx.out Hm.out, bthen hbq hb3 hszq⟩
              case measure => simp [intOf]; omega
        · obtain rfl : j = nk := by omega
          have Hf : Hid (faultI k (l k) = 0) := faultI_ok Hge.out.1 Hge.out.2 (by rw [HRL.out]; exact HI.out)
          go_wp2
          go_roundw
          case rel => exact ⟨k + 1, by omega, by go_num, upto_succ H.out Hf.out, LineAt.below HC1.out (fun o => hbq.cell (p := ⟨_, o, none⟩) hlt1), Nat.lt_of_lt_of_le hlt1 hszq, hb0q⟩
          case measure => simp [intOf]; omega
    · obtain rfl : k = 5 := by omega
      have HK : Hid (chk l = (5, 0)) := chk_all H.out
      go_wp2
      go_ret2
      exact ⟨by rw [HK.out]; rfl, hb⟩
end Go.Proofs.YtgliminiiciflaaDoor
