/- The walks of package cal: Check and Same. -/
import Derived.Test.YtochhmkdhdadhaaGreatWCalR
import Derived.Test.YtochhmkdhdadhaaGreatWCalH
import Derived.Test.YtochhmkdhdadhaaGreatWCron2
namespace Go.Proofs.YtochhmkdhdadhaaGreat
open Go.RowKit
set_option linter.unusedSimpArgs false
set_option linter.unusedVariables false

theorem calL_slot (c : CalV) {k : Nat} (hk : k < 7) : calL c (kslot k) = kget c k := by
  obtain rfl | rfl | rfl | rfl | rfl | rfl | rfl : k = 0 ∨ k = 1 ∨ k = 2 ∨ k = 3 ∨ k = 4 ∨ k = 5 ∨ k = 6 := by omega
  all_goals rfl
theorem kslot_ok {k : Nat} (hk : k < 7) : kslot k < 8 ∧ kslot k ≠ 4 := by unfold kslot; split <;> omega
/-- An event's lists in memory. -/
def RdEv (w : World) (A : Nat → Option Addr) (n : Nat → Nat) (c : CalV) : Prop := ∀ j, j < 8 → j ≠ 4 → RdIts w (A j) (n j) (calL c j)
theorem RdEv.below {w w' : World} {A : Nat → Option Addr} {n : Nat → Nat} {c : CalV} (h : RdEv w A n c) (hb : Below w.heap.size w w') : RdEv w' A n c := fun j hj h4 => Rd.below (h j hj h4) hb (Nat.le_refl _)
theorem RdEv.slot {w : World} {A : Nat → Option Addr} {n : Nat → Nat} {c : CalV} (h : RdEv w A n c) {k : Nat} (hk : k < 7) : RdIts w (A (kslot k)) (n (kslot k)) (kget c k) := by
  have := h (kslot k) (kslot_ok hk).1 (kslot_ok hk).2
  rwa [calL_slot c hk] at this
theorem kchkN_at {l : Nat → List It} : ∀ (q k : Nat), q ≤ 7 → 7 - q ≤ k → k < 7 → (∀ j, j < k → kfault j (l j) = 0) → kfault k (l k) ≠ 0 → kchkN l q = ((k : Int), kfault k (l k)) := by
  intro q
  induction q with
  | zero => intro k _ h1 h2; omega
  | succ q ih =>
    intro k hq h1 h2 H hk
    unfold kchkN
    by_cases e : 6 - q = k
    · rw [e, if_neg hk]
    · rw [if_pos (H _ (by omega))]
      exact ih k (by omega) (by omega) h2 H hk
theorem kchk_at {c : CalV} {k : Nat} (hk : k < 7) (H : ∀ j, j < k → kfault j (kget c j) = 0) (h : kfault k (kget c k) ≠ 0) : kchk c = ((k : Int), kfault k (kget c k)) :=
  kchkN_at 7 k (Nat.le_refl _) (by omega) hk H h
theorem kfault_len {f : Int} {l : List It} (h : kfault f l = 0) : l.length ≤ kMost f := by
  unfold kfault at h
  by_cases h0 : l.length = 0
  · omega
  · rw [if_neg h0] at h
    by_cases h1 : kMost f < l.length
    · rw [if_pos h1] at h; cases h
    · omega
theorem kchkN_all {l : Nat → List It} : ∀ (q : Nat), q ≤ 7 → kchkN l q = (7, 0) → ∀ k, 7 - q ≤ k → k < 7 → kfault k (l k) = 0 := by
  intro q
  induction q with
  | zero => intro _ _ k h1 h2; omega
  | succ q ih =>
    intro hq h k h1 h2
    unfold kchkN at h
    by_cases e : kfault ((6 - q : Nat) : Int) (l (6 - q)) = 0
    · rw [if_pos e] at h
      by_cases e2 : k = 6 - q
      · subst e2; exact e
      · exact ih (by omega) h k (by omega) h2
    · rw [if_neg e] at h
      injection h with h3 h4
      exact absurd h4 e
theorem kchk_len {c : CalV} (h : kchk c = (7, 0)) : ∀ j, j < 8 → j ≠ 4 → (calL c j).length ≤ 400 := by
  have H := kchkN_all 7 (Nat.le_refl _) h
  have hm : ∀ f : Int, kMost f ≤ 400 := fun f => by unfold kMost; split <;> decide
  have G : ∀ k, k < 7 → (calL c (kslot k)).length ≤ 400 := fun k hk => by
    rw [calL_slot c hk]
    exact Nat.le_trans (kfault_len (H k (by omega) hk)) (hm _)
  intro j hj h4
  by_cases h5 : j < 4
  · have := G j (by omega); rwa [show kslot j = j from if_pos h5] at this
  · have := G (j - 1) (by omega); rwa [show kslot (j - 1) = j by unfold kslot; rw [if_neg (by omega)]; omega] at this
set_option maxHeartbeats 1000000 in
theorem kcheck_any (A : Nat → Option Addr) (n m : Nat → Nat) (c : CalV) (bk : Bool) (w : World) (hA : RdEv w A n c) (hn : ∀ k, k < 7 → n (kslot k) ≤ 9223372036854775807) :
    Calls Tryz.prog 18 #[evV A n m bk] w (Ret (.tuple #[.int .i64 (kchk c).1, .int .i64 (kchk c).2]) w) := by
  have HA := Lib.hid hA
  have HN := Lib.hid hn
  clear hA hn
  have HE0 := Lib.hid (evAt_new w A n m bk 24)
  unfold evV
  go_enter Tryz.func18, Tryz.ntmps18
  go_wp2
  go_loopw [6] (fun i wr => ∃ k : Nat, k ≤ 7 ∧ i = .int .i64 k ∧ Hid (∀ j : Nat, j < k → kfault j (kget c j) = 0) ∧ Hid (EvAt wr w.heap.size A n m bk) ∧ w.heap.size < wr.heap.size ∧ Below w.heap.size w wr) (fun i _ => 7 - (intOf i).toNat)
  case atStart => exact ⟨0, by omega, rfl, fun j h => absurd h (Nat.not_lt_zero _), HE0, by (first | (simp; done) | (simp; omega)), by (repeat' (first | (with_reducible exact Below.refl _ _) | (with_reducible assumption) | (with_reducible refine below_drewN ?_ _) | (with_reducible refine Below.alloc ?_ ?_ _) | (with_reducible refine Below.drew ?_) | (with_reducible refine Below.setCell ?_ ?_ _) | go_size))⟩
  case round =>
    obtain ⟨k, hk, rfl, H, HC, hlt, hb⟩ := hrel
    have hsz := hb.size
    by_cases h5 : k < 7
    · have h5' : (k : Int) < 7 := by omega
      have HL := Lib.hid (klist_in k h5 w.heap.size A n m bk wr HC.out)
      have HF := Lib.hid (fun w1 (hb1 : Below wr.heap.size wr w1) => kfault_any k h5 (A (kslot k)) (n (kslot k)) (m (kslot k)) (kget c k) w1 (Rd.below (((HA.out.slot h5).below hb (Nat.le_refl _))) hb1 (Nat.le_refl _)) (HN.out k h5))
      by_cases hf : kfault k (kget c k) = 0
      · have Hf := Lib.hid hf
        rw [hf] at HF
        clear hf
        go_wp2_with fail
        refine HL.out.mono ?_
        rintro e w1 ⟨rfl, q, rfl⟩
        go_wp2_with fail
        refine (HF.out _ (below_drewN (Below.refl _ _) q)).mono ?_
        rintro e w1 ⟨rfl, hb1⟩
        go_wp2
        go_roundw
        case rel =>
          have hb2 : Below wr.heap.size wr w1 := (below_drewN (Below.refl _ wr) q).trans hb1
          exact ⟨k + 1, by omega, by go_num, upto_succ H.out Hf.out, HC.out.below hb2, Nat.lt_of_lt_of_le hlt hb2.size, bthen hb hb2 hsz⟩
        case measure => simp [intOf]; omega
      · have HK : Hid (kchk c = ((k : Int), kfault k (kget c k))) := kchk_at h5 H.out hf
        have hf' : (kfault k (kget c k) != 0) = true := by simpa using hf
        clear hf
        generalize kfault k (kget c k) = q at HF HK hf'
        go_wp2_with fail
        refine HL.out.mono ?_
        rintro e w1 ⟨rfl, q, rfl⟩
        go_wp2_with fail
        refine (HF.out _ (below_drewN (Below.refl _ _) _)).mono ?_
        rintro e w1 ⟨rfl, hb1⟩
        go_wp2
        go_ret2
        have hb2 : Below wr.heap.size wr w1 := (below_drewN (Below.refl _ wr) _).trans hb1
        exact ⟨by rw [HK.out]; rfl, bthen hb hb2 hsz⟩
    · obtain rfl : k = 7 := by omega
      have HK : Hid (kchk c = (7, 0)) := kchk_all H.out
      go_wp2
      go_ret2
      exact ⟨by rw [HK.out]; rfl, hb⟩
/-- Are two events the same? -/
def sameK (c d : CalV) : Bool := ((List.range 7).all fun k => sameIts (kget c k) (kget d k)) && (c.back == d.back)
theorem sameK_no {c d : CalV} {k : Nat} (hk : k < 7) (h : sameIts (kget c k) (kget d k) = false) : sameK c d = false := by
  have : ((List.range 7).all fun k => sameIts (kget c k) (kget d k)) = false := by
    rw [List.all_eq_false]
    exact ⟨k, List.mem_range.2 hk, by simp [h]⟩
  rw [sameK, this, Bool.false_and]
theorem sameK_yes {c d : CalV} (H : ∀ k, k < 7 → sameIts (kget c k) (kget d k) = true) : sameK c d = (c.back == d.back) := by
  have : ((List.range 7).all fun k => sameIts (kget c k) (kget d k)) = true := by
    rw [List.all_eq_true]
    exact fun k hk => H k (List.mem_range.1 hk)
  rw [sameK, this, Bool.true_and]
theorem sameK_self (c : CalV) : sameK c c = true := by rw [sameK_yes fun k _ => by simp [sameIts]]; simp
set_option maxHeartbeats 2000000 in
theorem rfield28_in (k : Nat) (hk : k < 7) (A : Nat → Option Addr) (n m : Nat → Nat) (bk : Bool) (w : World) : Calls Tryz.prog 17 #[evV A n m bk, .int .i64 k] w (Ret (.slice (A (kslot k)) (n (kslot k)) (m (kslot k))) w) := by
  unfold evV
  obtain rfl | rfl | rfl | rfl | rfl | rfl | rfl : k = 0 ∨ k = 1 ∨ k = 2 ∨ k = 3 ∨ k = 4 ∨ k = 5 ∨ k = 6 := by omega
  all_goals
    go_enter Tryz.func17, Tryz.ntmps17
    go_wp2
    go_ret
    exact ⟨rfl, by (repeat' (first | (with_reducible exact Below.refl _ _) | (with_reducible assumption) | (with_reducible refine below_drewN ?_ _) | (with_reducible refine Below.alloc ?_ ?_ _) | (with_reducible refine Below.drew ?_) | (with_reducible refine Below.setCell ?_ ?_ _) | go_size))⟩
set_option maxRecDepth 10000 in
set_option maxHeartbeats 1000000 in
theorem klist_out (f : Int) (h : f < 0 ∨ 7 ≤ f) (p : Value) (w : World) : Calls Tryz.prog 52 #[p, .int .i64 f] w (RetN (.slice none 0 0) w) := by
  rcases h with h | h
  · go_enter Tryz.func52, Tryz.ntmps52
    go_wp2
    go_ret
    exact ⟨rfl, 0, rfl⟩
  · have h' : ¬ f < 0 := by omega
    go_enter Tryz.func52, Tryz.ntmps52
    go_wp2
    go_ret
    exact ⟨rfl, 0, rfl⟩
theorem rd_none {α : Type} {k : Nat} {enc : α → List Value} {w : World} {A : Option Addr} {n : Nat} {l : List α} (h : Rd k enc w A n l) (hA : A = none) : n = 0 := by
  rcases Nat.eq_zero_or_pos n with h0 | h0
  · exact h0
  · obtain ⟨b, o, e, _⟩ := h.2 h0
    rw [hA] at e; cases e
theorem kfield_in (k : Nat) (hk : k < 7) (c : CalV) (A : Nat → Option Addr) (n m : Nat → Nat) (bk : Bool) (w : World) (hA : RdEv w A n c) (hn : ∀ j, j < 8 → j ≠ 4 → n j ≤ 4294967296) :
    Calls Tryz.prog 22 #[evV A n m bk, .int .i64 k] w (RetIts (n (kslot k)) (kget c k) w) := by
  have HA := Lib.hid (hA.slot hk)
  have HL := Lib.hid (fun W h => klist_in k hk w.heap.size A n m bk W h)
  have HC := Lib.hid (fun W (hb : Below w.heap.size w W) => clone_any (A (kslot k)) (n (kslot k)) (m (kslot k)) (kget c k) W (HA.out.below hb (Nat.le_refl _)) (hn _ (kslot_ok hk).1 (kslot_ok hk).2) (rd_none HA.out))
  have HE0 := Lib.hid (evAt_new w A n m bk 24)
  clear hA hn
  unfold evV
  go_enter Tryz.func22, Tryz.ntmps22
  go_wp2_with fail
  refine (HL.out _ HE0.out).mono ?_
  rintro e w1 ⟨rfl, q, rfl⟩
  go_wp2_with fail
  refine (HC.out _ (by (repeat' (first | (with_reducible exact Below.refl _ _) | (with_reducible assumption) | (with_reducible refine below_drewN ?_ _) | (with_reducible refine Below.alloc ?_ ?_ _) | (with_reducible refine Below.drew ?_) | (with_reducible refine Below.setCell ?_ ?_ _) | go_size)))).mono ?_
  rintro e w1 ⟨A', c', rfl, hr, hb1⟩
  go_wp2
  go_ret
  exact ⟨A', c', rfl, hr, bthen (below_drewN ((Below.refl _ w).alloc (Nat.le_refl _) _) q) hb1 (by simp)⟩
end Go.Proofs.YtochhmkdhdadhaaGreat
