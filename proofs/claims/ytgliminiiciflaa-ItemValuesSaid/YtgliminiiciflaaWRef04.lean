/- The document's set of a list. -/
import Derived.Test.YtgliminiiciflaaWWide
namespace Go.Proofs.Ytgliminiiciflaa
open Go.RowKit
set_option linter.unusedSimpArgs false
set_option linter.unusedVariables false

/-- 448 truths, cell by cell. -/
def Truths (w : World) (b : Nat) (g : Nat → Bool) : Prop := (∀ j, j < 448 → w.cell? ⟨b, j, none⟩ = some (.bool (g j))) ∧ ∀ j, w.frozen? ⟨b, j, none⟩ = false

theorem Truths.set {w : World} {b : Nat} {g g' : Nat → Bool} (h : Truths w b g) (i : Nat) (v : Bool) (h1 : g' i = v) (h2 : ∀ j, j ≠ i → g' j = g j) : Truths (w.setCell ⟨b, i, none⟩ (.bool v)) b g' := by
  refine ⟨fun j hj => ?_, fun j => by rw [World.frozen?_setCell]; exact h.2 j⟩
  by_cases e : j = i
  · subst e
    rw [World.cell?_setCell_same _ _ _ (h.1 j hj), h1]
  · rw [World.cell?_setCell_other _ _ _ _ (by intro e2; injection e2 with _ e3; exact e e3.symm), h.1 j hj, h2 j e]
theorem Truths.other {w : World} {b b' i : Nat} {g : Nat → Bool} {v : Value} (h : Truths w b g) (hne : b' ≠ b) : Truths (w.setCell ⟨b', i, none⟩ v) b g :=
  ⟨fun j hj => by rw [World.cell?_setCell_other _ _ _ _ (by intro e2; injection e2 with e3; exact hne e3)]; exact h.1 j hj, fun j => by rw [World.frozen?_setCell]; exact h.2 j⟩
theorem Truths.alloc {w : World} {b : Nat} {g : Nat → Bool} (h : Truths w b g) (hb : b < w.heap.size) (o : Obj) : Truths (w.alloc o) b g := by
  have hb1 : Below w.heap.size w (w.alloc o) := (Below.refl _ w).alloc (Nat.le_refl _) _
  exact ⟨fun j hj => (hb1.cell (p := ⟨b, j, none⟩) hb).trans (h.1 j hj), fun j => (hb1.frozen (p := ⟨b, j, none⟩) hb).trans (h.2 j)⟩
theorem zero448 : Try.zeroCells97 = Array.replicate 448 (.bool false) := by kernel_rfl
theorem Truths.zero (w : World) (t : TypeId) : Truths (w.alloc (.cells Try.zeroCells97 t)) w.heap.size (inW []) := by
  refine ⟨fun j hj => ?_, fun j => frozen_new _ _ _ _⟩
  refine cell_new rfl ?_
  rw [zero448, Array.getElem?_replicate, if_pos hj]
  simp [inW]
theorem inW_put {l : List Int} {x : Int} (h0 : 0 ≤ x) (h1 : x < 400) : inW (l ++ [x]) x.toNat = true := by
  simp only [inW, decide_eq_true_eq, List.mem_append, List.mem_singleton]
  omega
theorem inW_same {l : List Int} {x : Int} {j : Nat} (h : ¬ ((j : Int) = x ∧ j < 400)) : inW (l ++ [x]) j = inW l j := by
  rw [Bool.eq_iff_iff]
  simp only [inW, decide_eq_true_eq, List.mem_append, List.mem_singleton]
  constructor
  · rintro ⟨h1, h2 | h2⟩
    · exact ⟨h1, h2⟩
    · exact absurd ⟨h2, h1⟩ h
  · rintro ⟨h1, h2⟩
    exact ⟨h1, .inl h2⟩

/-- The bits of word i from k on. -/
def upW (l : List Int) (i k : Nat) : Int := (mkN (fun t => inW l (64 * i + (t + k))) (64 - k) : Nat)
theorem upW_zero (l : List Int) (i : Nat) : upW l i 0 = wordL l i := rfl
theorem upW_end (l : List Int) (i : Nat) : upW l i 64 = 0 := rfl
theorem upW_step (l : List Int) (i k : Nat) (h : k < 64) : upW l i k = (if inW l (64 * i + k) then 1 else 0) + 2 * upW l i (k + 1) := by
  obtain ⟨q, hq⟩ : ∃ q, 64 - k = q + 1 := ⟨63 - k, by omega⟩
  unfold upW
  rw [hq, show 64 - (k + 1) = q by omega, mkN_low]
  have : (fun t => inW l (64 * i + (t + 1 + k))) = fun t => inW l (64 * i + (t + (k + 1))) := by funext t; congr 2; omega
  rw [this, Nat.zero_add]
  split <;> simp
theorem upW_bd (l : List Int) (i k : Nat) (h : k < 64) : 0 ≤ upW l i (k + 1) ∧ upW l i (k + 1) < 9223372036854775808 := by
  obtain ⟨P, hP⟩ : ∃ P : Nat → Bool, P = fun t => inW l (64 * i + (t + (k + 1))) := ⟨_, rfl⟩
  have h1 := mkN_lt P (64 - (k + 1))
  have h2 : 2 ^ (64 - (k + 1)) ≤ 2 ^ 63 := Nat.pow_le_pow_right (by omega) (by omega)
  unfold upW
  rw [← hP]
  generalize mkN P (64 - (k + 1)) = z at *
  omega

def doneW (l : List Int) (q j : Nat) : Int := if j < q then wordL l j else 0
def partW (l : List Int) (q p j : Nat) : Int := if j < q then wordL l j else if j = q then upW l q p else 0
theorem doneW_zero (l : List Int) (j : Nat) : doneW l 0 j = 0 := rfl
theorem partW_end (l : List Int) (q : Nat) : partW l q 64 = doneW l q := by
  funext j
  unfold partW doneW
  split
  · rfl
  · split
    · exact upW_end l q
    · rfl
theorem partW_zero (l : List Int) (q : Nat) : partW l q 0 = doneW l (q + 1) := by
  funext j
  unfold partW doneW
  by_cases h1 : j < q
  · rw [if_pos h1, if_pos (by omega)]
  · rw [if_neg h1]
    by_cases h2 : j = q
    · rw [if_pos h2, if_pos (by omega), h2, upW_zero]
    · rw [if_neg h2, if_neg (by omega)]
theorem partW_at (l : List Int) (q p : Nat) : partW l q p q = upW l q p := by unfold partW; simp
theorem partW_ne (l : List Int) (q p p' j : Nat) (h : j ≠ q) : partW l q p j = partW l q p' j := by unfold partW; simp [h]

set_option maxRecDepth 20000 in
set_option maxHeartbeats 4000000 in
theorem rwideOf_any (A : Option Addr) (n c : Nat) (l : List Int) (w : World) (hA : RdInts w A n l) (hn : n ≤ 9223372036854775806) :
    Calls Try.prog 51 #[.slice A n c] w (Ret (wideV l) w) := by
  have HL : Hid (l.length = n) := hA.1
  have HA := Lib.hid hA
  clear hA
  go_enter Try.func51, Try.ntmps51
  go_wp2
  go_loopw [4] (fun i wr => ∃ k : Nat, k ≤ n ∧ i = .int .i64 k ∧ Hid (Truths wr (w.heap.size + 1) (inW (l.take k))) ∧ Hid (Words wr w.heap.size (wordL [])) ∧ w.heap.size + 2 ≤ wr.heap.size ∧ Below w.heap.size w wr) (fun i _ => n - (intOf i).toNat)
  case atStart =>
    refine ⟨0, Nat.zero_le _, by go_num, ?_, ?_, by simp, by (repeat' (first | (with_reducible exact Below.refl _ _) | (with_reducible assumption) | (with_reducible refine below_drewN ?_ _) | (with_reducible refine Below.alloc ?_ ?_ _) | (with_reducible refine Below.drew ?_) | (with_reducible refine Below.setCell ?_ ?_ _) | go_size))⟩
    · have := Truths.zero (w.alloc (.cells #[.int .u64 0, .int .u64 0, .int .u64 0, .int .u64 0, .int .u64 0, .int .u64 0, .int .u64 0] 70)) 97
      have e : (w.alloc (.cells #[.int .u64 0, .int .u64 0, .int .u64 0, .int .u64 0, .int .u64 0, .int .u64 0, .int .u64 0] 70)).heap.size = w.heap.size + 1 := by simp
      rw [e] at this
      exact this
    · exact (Words.zero w 70).alloc (by simp) _
  case round =>
    obtain ⟨k, hk, rfl, HT, HZ, hs2, hb⟩ := hrel
    by_cases hlt : k < n
    · obtain ⟨b, o, x, rfl, hbl, hx, c0⟩ := RdInts.at_ (HA.out.below hb (Nat.le_refl _)) hlt
      have hlt' : (k : Int) < (n : Int) := by omega
      have hts : l.take (k + 1) = l.take k ++ [x] := by rw [List.take_add_one, hx]; rfl
      clear hx
      by_cases hin : 0 ≤ x ∧ x < 400
      · obtain ⟨h0, h4⟩ := hin
        have HP : Hid (inW (l.take (k + 1)) x.toNat = true) := by show _ = _; rw [hts, inW_put h0 h4]
        have HN : Hid (∀ j, j ≠ x.toNat → inW (l.take (k + 1)) j = inW (l.take k) j) := fun j hj => by rw [hts, inW_same (by omega)]
        clear hts
        have g0 := HT.out.1 x.toNat (by omega)
        have f0 := HT.out.2 x.toNat
        have h5 : x < 448 := by omega
        go_wp2
        go_roundw
        case rel => exact ⟨k + 1, by omega, by go_num, Truths.set HT.out _ _ HP.out HN.out, Words.other HZ.out (by omega), by simpa using hs2, hb.setCell (by simp) _⟩
        case measure => simp [intOf]; omega
      · have HN : Hid (inW (l.take (k + 1)) = inW (l.take k)) := by
          show _ = _
          rw [hts]
          funext j
          rw [inW_same (by omega)]
        clear hts
        by_cases h0 : x < 0
        · clear hin
          go_wp2
          go_roundw
          case rel => exact ⟨k + 1, by omega, by go_num, by rw [HN.out]; exact HT.out, HZ.out, hs2, hb⟩
          case measure => simp [intOf]; omega
        · have h1 : 400 ≤ x := by omega
          have h0' : 0 ≤ x := by omega
          clear hin
          go_wp2
          go_roundw
          case rel => exact ⟨k + 1, by omega, by go_num, by rw [HN.out]; exact HT.out, HZ.out, hs2, hb⟩
          case measure => simp [intOf]; omega
    · obtain rfl : k = n := by omega
      have HE : Hid (l.take k = l) := List.take_of_length_le (by have := HL.out; omega)
      rw [HE.out] at HT
      clear HE HA
      obtain ⟨wo, rfl⟩ : ∃ wo : World, wo = wr := ⟨_, rfl⟩
      go_wp2
      go_loopw [6, 7] (fun i _ wr => ∃ q : Nat, q ≤ 7 ∧ i = .int .i64 q ∧ Hid (Truths wr (w.heap.size + 1) (inW l)) ∧ Hid (Words wr w.heap.size (wordL [])) ∧ Hid (Words wr wo.heap.size (doneW l q)) ∧ wo.heap.size < wr.heap.size ∧ Below w.heap.size w wr) (fun i _ _ => 7 - (intOf i).toNat)
      case atStart =>
        refine ⟨0, Nat.zero_le _, by go_num, HT.out.alloc (by omega) _, HZ.out.alloc (by omega) _, ?_, by simp, by (repeat' (first | (with_reducible exact Below.refl _ _) | (with_reducible assumption) | (with_reducible refine below_drewN ?_ _) | (with_reducible refine Below.alloc ?_ ?_ _) | (with_reducible refine Below.drew ?_) | (with_reducible refine Below.setCell ?_ ?_ _) | go_size))⟩
        have := Words.zero wo 70
        refine ⟨fun j hj => ?_, this.2⟩
        have h1 := this.1 j hj
        rw [wordL_nil] at h1
        exact h1
      case round =>
        obtain ⟨q, hq, rfl, HT2, HZ2, HS, hs3, hb3⟩ := hrel
        by_cases hq7 : q < 7
        · have hq7' : (q : Int) < 7 := by omega
          obtain ⟨wi, rfl⟩ : ∃ wi : World, wi = wr := ⟨_, rfl⟩
          go_wp2
          go_loopw [7] (fun i wr => ∃ p : Nat, p ≤ 64 ∧ i = .int .i64 ((p : Int) - 1) ∧ Hid (Truths wr (w.heap.size + 1) (inW l)) ∧ Hid (Words wr w.heap.size (wordL [])) ∧ Hid (Words wr wo.heap.size (partW l q p)) ∧ wo.heap.size < wr.heap.size ∧ Below w.heap.size w wr) (fun i _ => (intOf i + 1).toNat)
          case atStart =>
            exact ⟨64, Nat.le_refl _, by go_num, HT2.out, HZ2.out, by rw [partW_end]; exact HS.out, hs3, hb3⟩
          case round =>
            obtain ⟨p, hp, rfl, HT3, HZ3, HS3, hs4, hb4⟩ := hrel
            rcases p with _ | p
            · have HS4 : Hid (Words wr wo.heap.size (doneW l (q + 1))) := by
                rw [← partW_zero]; exact HS3.out
              clear HS3 HS
              go_wp2
              go_roundw
              case rel => exact ⟨q + 1, by omega, by go_num, HT3.out, HZ3.out, HS4.out, hs4, hb4⟩
              case measure => simp [intOf]; omega
            · have e1 : ((p + 1 : Nat) : Int) - 1 = (p : Int) := by omega
              rw [e1]
              clear e1
              have hu := upW_bd l q p (by omega)
              have HU := Lib.hid (upW_step l q p (by omega))
              obtain ⟨hu0, hu1⟩ := hu
              have g0 := HS3.out.1 q hq7
              rw [partW_at] at g0
              have f0 := HS3.out.2 q
              have t0 := HT3.out.1 (64 * q + p) (by omega)
              have hi1 : (64 * (q : Int) + (p : Int)).toNat = 64 * q + p := by omega
              rw [← hi1] at t0
              have HI1 := Lib.hid hi1
              clear hi1
              have q1 : ¬ (64 * (q : Int) + (p : Int) < 0) := by omega
              have q2 : 64 * (q : Int) + (p : Int) < 448 := by omega
              have HA1 : Hid (Truths (wr.setCell ⟨wo.heap.size, q, none⟩ (.int .u64 (2 * upW l q (p + 1)))) (w.heap.size + 1) (inW l)) := HT3.out.other (by omega)
              have HA2 : Hid (Words (wr.setCell ⟨wo.heap.size, q, none⟩ (.int .u64 (2 * upW l q (p + 1)))) w.heap.size (wordL [])) := HZ3.out.other (by omega)
              have HA3 : Hid (∀ g' : Nat → Int, g' q = 2 * upW l q (p + 1) → (∀ j, j < 7 → j ≠ q → g' j = partW l q (p + 1) j) → Words (wr.setCell ⟨wo.heap.size, q, none⟩ (.int .u64 (2 * upW l q (p + 1)))) wo.heap.size g') := fun g' h1 h2 => HS3.out.set q hq7 _ h1 h2
              have hb5 : Below w.heap.size w (wr.setCell ⟨wo.heap.size, q, none⟩ (.int .u64 (2 * upW l q (p + 1)))) := hb4.setCell (by show w.heap.size ≤ wo.heap.size; omega) _
              have hs5 : wo.heap.size < (wr.setCell ⟨wo.heap.size, q, none⟩ (.int .u64 (2 * upW l q (p + 1)))).heap.size := by simpa using hs4
              have hmul : (2 * upW l q (p + 1)) < 18446744073709551616 := by omega
              clear t0 q1 q2
              go_upto_region 15 with (fail)
              clear g0 f0
              generalize (wr.setCell ⟨wo.heap.size, q, none⟩ (.int .u64 (2 * upW l q (p + 1)))) = wx at *
              have t0 := HA1.out.1 (64 * q + p) (by omega)
              have hqn : (q : Int).toNat = q := Int.toNat_natCast q
              generalize hQ : (q : Int) = Q at *
              generalize hP : (p : Int) = P at *
              have HQ := Lib.hid hQ
              have HPP := Lib.hid hP
              have hi2 : (64 * Q + P).toNat = 64 * q + p := by omega
              rw [← hi2] at t0
              have q1 : ¬ (64 * Q + P < 0) := by omega
              have q2 : 64 * Q + P < 448 := by omega
              have q3 : 0 ≤ Q := by omega
              have q4 : Q < 7 := by omega
              have q5 : 0 ≤ P := by omega
              have q6 : P < 64 := by omega
              cases hb' : inW l (64 * q + p) with
              | false =>
                rw [hi2, hb', ← hi2] at t0
                have HS5 : Hid (Words wx wo.heap.size (partW l q p)) := HA3.out _ (by rw [partW_at, HU.out, hb']; simp) (fun j _ hj => partW_ne l q p (p + 1) j hj)
                clear hb' HU HA3 hi2 hQ hP hqn HI1
                go_wp2
                obtain rfl := HQ.out
                obtain rfl := HPP.out
                go_roundw
                case rel =>
                  refine ⟨_, ⟨p, by omega, rfl, ?_⟩, ?_⟩
                  · (repeat' (with_reducible refine And.intro ?_ ?_))
                    all_goals (with_reducible assumption)
                  · first | exact rfl | exact ⟨rfl, rfl⟩ | exact ⟨rfl, rfl, rfl⟩ | trivial
                case measure => simp [intOf]; omega
              | true =>
                rw [hi2, hb', ← hi2] at t0
                have HUU : Hid (upW l q p = 2 * upW l q (p + 1) + 1) := by show _ = _; rw [HU.out, hb']; simp; omega
                have HS5 := Lib.hid (HA3.out (fun j => if j = q then 2 * upW l q (p + 1) else partW l q (p + 1) j) (by simp) (fun j _ hj => by simp [hj]))
                have g0 : wx.cell? ⟨wo.heap.size, Q.toNat, none⟩ = some (.int .u64 (2 * upW l q (p + 1))) := by
                  have h := HS5.out.1 q hq7
                  simp only [if_true] at h
                  rw [hqn]; exact h
                have f0 : wx.frozen? ⟨wo.heap.size, Q.toNat, none⟩ = false := HS5.out.2 _
                have HB1 : Hid (Truths (wx.setCell ⟨wo.heap.size, q, none⟩ (.int .u64 (upW l q p))) (w.heap.size + 1) (inW l)) := HA1.out.other (by omega)
                have HB2 : Hid (Words (wx.setCell ⟨wo.heap.size, q, none⟩ (.int .u64 (upW l q p))) w.heap.size (wordL [])) := HA2.out.other (by omega)
                have HB3 : Hid (Words (wx.setCell ⟨wo.heap.size, q, none⟩ (.int .u64 (upW l q p))) wo.heap.size (partW l q p)) := HS5.out.set q hq7 _ (partW_at l q p) (fun j _ hj => by simp only [if_neg hj]; exact partW_ne l q p (p + 1) j hj)
                have hb6 : Below w.heap.size w (wx.setCell ⟨wo.heap.size, q, none⟩ (.int .u64 (upW l q p))) := hb5.setCell (by show w.heap.size ≤ wo.heap.size; omega) _
                have hs6 : wo.heap.size < (wx.setCell ⟨wo.heap.size, q, none⟩ (.int .u64 (upW l q p))).heap.size := by simpa using hs5
                rw [HUU.out] at HB1 HB2 hb6 hs6
                have HB3' : Hid (Words (wx.setCell ⟨wo.heap.size, q, none⟩ (.int .u64 (2 * upW l q (p + 1) + 1))) wo.heap.size (partW l q p)) := by rw [← HUU.out]; exact HB3.out
                clear hb' HU HA3 HS5 hi2 hQ hP hqn HI1 HB3
                go_wp2
                obtain rfl := HQ.out
                obtain rfl := HPP.out
                (try simp only [Int.toNat_natCast])
                go_roundw
                case rel =>
                  refine ⟨_, ⟨p, by omega, rfl, ?_⟩, ?_⟩
                  · (repeat' (with_reducible refine And.intro ?_ ?_))
                    all_goals (with_reducible assumption)
                  · exact ⟨trivial, rfl, trivial⟩
                case measure => simp [intOf]; omega
        · obtain rfl : q = 7 := by omega
          have HS7 : Hid (Words wr wo.heap.size (wordL l)) := ⟨fun j hj => by rw [HS.out.1 j hj]; unfold doneW; rw [if_pos hj], HS.out.2⟩
          have g0 := HS7.out.1 0 (by decide)
          have g1 := HS7.out.1 1 (by decide)
          have g2 := HS7.out.1 2 (by decide)
          have g3 := HS7.out.1 3 (by decide)
          have g4 := HS7.out.1 4 (by decide)
          have g5 := HS7.out.1 5 (by decide)
          have g6 := HS7.out.1 6 (by decide)
          have z0 := HZ2.out.1 0 (by decide)
          have z1 := HZ2.out.1 1 (by decide)
          have z2 := HZ2.out.1 2 (by decide)
          have z3 := HZ2.out.1 3 (by decide)
          have z4 := HZ2.out.1 4 (by decide)
          have z5 := HZ2.out.1 5 (by decide)
          have z6 := HZ2.out.1 6 (by decide)
          have f0 := HZ2.out.2
          clear HS HT2
          go_wp2
          (try simp only [Exit.inBlock, Exit.then])
          refine bodyPost_ret (v := wideV l) ?_ rfl ⟨rfl, ?_⟩
          · rw [results_cell1 rfl]
            go_simp
          · have hl := hb3
            (repeat' (first | (with_reducible exact Below.refl _ _) | (with_reducible assumption) | (with_reducible refine below_drewN ?_ _) | (with_reducible refine Below.alloc ?_ ?_ _) | (with_reducible refine Below.drew ?_) | (with_reducible refine Below.setCell ?_ ?_ _) | go_size))
end Go.Proofs.Ytgliminiiciflaa
