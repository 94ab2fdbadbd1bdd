/- The walks of package cal: what may stand in a field. -/
import Derived.Test.YtochhmkdhdadhaaGreatWCron
import Derived.Test.YtochhmkdhdadhaaGreatWCalC
import Derived.Test.YtochhmkdhdadhaaGreatRCalMay
namespace Go.Proofs.YtochhmkdhdadhaaGreat
open Go.RowKit
set_option linter.unusedSimpArgs false
set_option linter.unusedVariables false

/-- The cell of a field. -/
def kslot (f : Nat) : Nat := if f < 4 then f else f + 1
/-- An event's cells in a block. -/
structure EvAt (w : World) (b : Nat) (A : Nat → Option Addr) (n c : Nat → Nat) (bk : Bool) : Prop where
  h0 : w.cell? ⟨b, 0, none⟩ = some (.slice (A 0) (n 0) (c 0))
  h1 : w.cell? ⟨b, 1, none⟩ = some (.slice (A 1) (n 1) (c 1))
  h2 : w.cell? ⟨b, 2, none⟩ = some (.slice (A 2) (n 2) (c 2))
  h3 : w.cell? ⟨b, 3, none⟩ = some (.slice (A 3) (n 3) (c 3))
  h4 : w.cell? ⟨b, 4, none⟩ = some (.bool bk)
  h5 : w.cell? ⟨b, 5, none⟩ = some (.slice (A 5) (n 5) (c 5))
  h6 : w.cell? ⟨b, 6, none⟩ = some (.slice (A 6) (n 6) (c 6))
  h7 : w.cell? ⟨b, 7, none⟩ = some (.slice (A 7) (n 7) (c 7))
/-- The value of an event. -/
def evV (A : Nat → Option Addr) (n c : Nat → Nat) (bk : Bool) : Value := .agg #[.slice (A 0) (n 0) (c 0), .slice (A 1) (n 1) (c 1), .slice (A 2) (n 2) (c 2), .slice (A 3) (n 3) (c 3), .bool bk, .slice (A 5) (n 5) (c 5), .slice (A 6) (n 6) (c 6), .slice (A 7) (n 7) (c 7)]
theorem EvAt.below {w w' : World} {b : Nat} {A : Nat → Option Addr} {n c : Nat → Nat} {bk : Bool} (h : EvAt w b A n c bk) (hb : Below w.heap.size w w') : EvAt w' b A n c bk := by
  have hl := World.block_lt_of_cell? _ _ h.h0
  exact ⟨(hb.cell (p := ⟨b, 0, none⟩) hl).trans h.h0, (hb.cell (p := ⟨b, 1, none⟩) hl).trans h.h1, (hb.cell (p := ⟨b, 2, none⟩) hl).trans h.h2, (hb.cell (p := ⟨b, 3, none⟩) hl).trans h.h3, (hb.cell (p := ⟨b, 4, none⟩) hl).trans h.h4, (hb.cell (p := ⟨b, 5, none⟩) hl).trans h.h5, (hb.cell (p := ⟨b, 6, none⟩) hl).trans h.h6, (hb.cell (p := ⟨b, 7, none⟩) hl).trans h.h7⟩
theorem evAt_new (w : World) (A : Nat → Option Addr) (n c : Nat → Nat) (bk : Bool) (t : TypeId) : EvAt (w.alloc (.cells #[.slice (A 0) (n 0) (c 0), .slice (A 1) (n 1) (c 1), .slice (A 2) (n 2) (c 2), .slice (A 3) (n 3) (c 3), .bool bk, .slice (A 5) (n 5) (c 5), .slice (A 6) (n 6) (c 6), .slice (A 7) (n 7) (c 7)] t)) w.heap.size A n c bk :=
  ⟨cell_new rfl rfl, cell_new rfl rfl, cell_new rfl rfl, cell_new rfl rfl, cell_new rfl rfl, cell_new rfl rfl, cell_new rfl rfl, cell_new rfl rfl⟩
theorem klist_ix (k : Nat) (hk : k < 7) (A : Nat → Option Addr) (n c : Nat → Nat) (w : World) : (Instr.index 140 (.agg #[.slice (A 0) (n 0) (c 0), .slice (A 1) (n 1) (c 1), .slice (A 2) (n 2) (c 2), .slice (A 3) (n 3) (c 3), .slice (A 5) (n 5) (c 5), .slice (A 6) (n 6) (c 6), .slice (A 7) (n 7) (c 7)]) (.int .i64 k)).run Tryz.prog w = .ok (.slice (A (kslot k)) (n (kslot k)) (c (kslot k))) w := by
  obtain rfl | rfl | rfl | rfl | rfl | rfl | rfl : k = 0 ∨ k = 1 ∨ k = 2 ∨ k = 3 ∨ k = 4 ∨ k = 5 ∨ k = 6 := by omega
  all_goals kernel_rfl
set_option maxRecDepth 10000 in
set_option maxHeartbeats 1000000 in
theorem klist_in (k : Nat) (hk : k < 7) (b : Nat) (A : Nat → Option Addr) (n c : Nat → Nat) (bk : Bool) (w : World) (h : EvAt w b A n c bk) :
    Calls Tryz.prog 52 #[.pointer (some ⟨b, 0, none⟩), .int .i64 k] w (RetN (.slice (A (kslot k)) (n (kslot k)) (c (kslot k))) w) := by
  obtain ⟨h0, h1, h2, h3, h4, h5, h6, h7⟩ := h
  have hix := fun W => klist_ix k hk A n c W
  have q1 : ¬ (k : Int) < 0 := by omega
  have q2 : ¬ (7 : Int) ≤ k := by omega
  go_enter Tryz.func52, Tryz.ntmps52
  go_wp2
  go_quiet (fail)
  go_wp2
  go_ret
  exact ⟨rfl, _, rfl⟩
theorem kmost_any (k : Nat) (w : World) : Calls Tryz.prog 83 #[.int .i64 k] w (RetQ (.int .i64 (kMost k)) w) := by
  by_cases h : k = 1
  · subst h
    go_enter Tryz.func83, Tryz.ntmps83
    go_wp2
    go_ret
    exact ⟨rfl, rfl⟩
  · have h' : ((k : Int) == 1) = false := by simp; omega
    have HR : Hid (((kMost k : Nat) : Int) = 64) := by show _ = _; unfold kMost; rw [if_neg (by omega)]; rfl
    clear h
    go_enter Tryz.func83, Tryz.ntmps83
    go_wp2
    go_ret
    exact ⟨ret_int HR.out.symm, rfl⟩
theorem kodd0 {k : Nat} (hk : k = 0) (m : Nat) (i : It) : kOdd (k : Int) (m : Int) i = decide (i.k = 0 ∨ i.k = 3 ∨ 1 < i.s) := by subst hk; rfl
theorem kodd1 {k : Nat} (hk : k ≠ 0) (m : Nat) (i : It) : kOdd (k : Int) (m : Int) i = decide (i.k = 0 ∧ (1 < (m : Int) ∨ 1 < i.s)) := by unfold kOdd; rw [if_neg (by omega)]
set_option maxHeartbeats 1000000 in
theorem kodd_any (k : Nat) (m : Nat) (i : It) (w : World) : Calls Tryz.prog 87 #[.int .i64 k, .int .i64 m, itV i] w (Ret (.bool (kOdd k m i)) w) := by
  by_cases h : k = 0
  · rw [kodd0 h m i]
    have hk : ((k : Int) == 0) = true := by simp; omega
    clear h
    by_cases h0 : i.k = 0
    · have h0' : (i.k == 0) = true := by simpa using h0
      rw [decide_eq_true (Or.inl h0)]
      clear h0
      go_enter Tryz.func87, Tryz.ntmps87
      go_wp2
      go_ret
      exact ⟨rfl, by (repeat' (first | (with_reducible exact Below.refl _ _) | (with_reducible assumption) | (with_reducible refine below_drewN ?_ _) | (with_reducible refine Below.alloc ?_ ?_ _) | (with_reducible refine Below.drew ?_) | (with_reducible refine Below.setCell ?_ ?_ _) | go_size))⟩
    · have h0' : (i.k == 0) = false := by simpa using h0
      by_cases h3 : i.k = 3
      · have h3' : (i.k == 3) = true := by simpa using h3
        rw [decide_eq_true (Or.inr (Or.inl h3))]
        clear h0 h3
        go_enter Tryz.func87, Tryz.ntmps87
        go_wp2
        go_ret
        exact ⟨rfl, by (repeat' (first | (with_reducible exact Below.refl _ _) | (with_reducible assumption) | (with_reducible refine below_drewN ?_ _) | (with_reducible refine Below.alloc ?_ ?_ _) | (with_reducible refine Below.drew ?_) | (with_reducible refine Below.setCell ?_ ?_ _) | go_size))⟩
      · have h3' : (i.k == 3) = false := by simpa using h3
        have HR : Hid (decide (i.k = 0 ∨ i.k = 3 ∨ 1 < i.s) = decide (1 < i.s)) := by show _ = _; simp [h0, h3]
        generalize decide (i.k = 0 ∨ i.k = 3 ∨ 1 < i.s) = R at *
        clear h0 h3
        go_enter Tryz.func87, Tryz.ntmps87
        go_wp2
        go_ret
        exact ⟨ret_bool HR.out.symm, by (repeat' (first | (with_reducible exact Below.refl _ _) | (with_reducible assumption) | (with_reducible refine below_drewN ?_ _) | (with_reducible refine Below.alloc ?_ ?_ _) | (with_reducible refine Below.drew ?_) | (with_reducible refine Below.setCell ?_ ?_ _) | go_size))⟩
  · rw [kodd1 h m i]
    have hk : ((k : Int) == 0) = false := by simp; omega
    clear h
    by_cases h0 : i.k = 0
    · have h0' : (i.k == 0) = true := by simpa using h0
      by_cases hm : 1 < (m : Int)
      · rw [decide_eq_true ⟨h0, Or.inl hm⟩]
        clear h0
        go_enter Tryz.func87, Tryz.ntmps87
        go_wp2
        go_ret
        exact ⟨rfl, by (repeat' (first | (with_reducible exact Below.refl _ _) | (with_reducible assumption) | (with_reducible refine below_drewN ?_ _) | (with_reducible refine Below.alloc ?_ ?_ _) | (with_reducible refine Below.drew ?_) | (with_reducible refine Below.setCell ?_ ?_ _) | go_size))⟩
      · have HR : Hid (decide (i.k = 0 ∧ (1 < (m : Int) ∨ 1 < i.s)) = decide (1 < i.s)) := by show _ = _; simp only [h0, hm, true_and, false_or]
        generalize decide (i.k = 0 ∧ (1 < (m : Int) ∨ 1 < i.s)) = R at *
        clear h0
        go_enter Tryz.func87, Tryz.ntmps87
        go_wp2
        go_ret
        exact ⟨ret_bool HR.out.symm, by (repeat' (first | (with_reducible exact Below.refl _ _) | (with_reducible assumption) | (with_reducible refine below_drewN ?_ _) | (with_reducible refine Below.alloc ?_ ?_ _) | (with_reducible refine Below.drew ?_) | (with_reducible refine Below.setCell ?_ ?_ _) | go_size))⟩
    · have h0' : (i.k == 0) = false := by simpa using h0
      rw [decide_eq_false (fun x => h0 x.1)]
      clear h0
      go_enter Tryz.func87, Tryz.ntmps87
      go_wp2
      go_ret
      exact ⟨rfl, by (repeat' (first | (with_reducible exact Below.refl _ _) | (with_reducible assumption) | (with_reducible refine below_drewN ?_ _) | (with_reducible refine Below.alloc ?_ ?_ _) | (with_reducible refine Below.drew ?_) | (with_reducible refine Below.setCell ?_ ?_ _) | go_size))⟩
theorem kfault1_any (b b' : Nat) (k : Nat) (A : Option Addr) (n c : Nat) (w : World) (h0 : w.cell? ⟨b, 0, none⟩ = some (.int .i64 k)) (h1 : w.cell? ⟨b', 0, none⟩ = some (.slice A n c)) :
    PredIt 86 #[.pointer (some ⟨b, 0, none⟩), .pointer (some ⟨b', 0, none⟩)] (fun i => kOdd k n i) w := by
  intro W x hB
  have hb := World.block_lt_of_cell? _ _ h0
  have hb' := World.block_lt_of_cell? _ _ h1
  have g0 : W.cell? ⟨b, 0, none⟩ = some (.int .i64 k) := (hB.cell (p := ⟨b, 0, none⟩) hb).trans h0
  have g1 : W.cell? ⟨b', 0, none⟩ = some (.slice A n c) := (hB.cell (p := ⟨b', 0, none⟩) hb').trans h1
  have hb2 : b < W.heap.size := Nat.lt_of_lt_of_le hb hB.size
  have hb3 : b' < W.heap.size := Nat.lt_of_lt_of_le hb' hB.size
  have HO := Lib.hid (fun W' => kodd_any k n x W')
  clear h0 h1 hB hb hb'
  go_enter Tryz.func86, Tryz.ntmps86
  go_wp2_with fail
  refine (HO.out _).mono ?_
  rintro e w1 ⟨rfl, hb1⟩
  go_wp2
  go_ret
  exact ⟨rfl, ((Below.refl _ W).alloc (Nat.le_refl _) _).trans (hb1.mono (by simp))⟩
theorem kfault_nil {k : Nat} {l : List It} (h : l.length = 0) : kfault k l = if k = 0 then 0 else 11 := by
  unfold kfault; rw [if_pos h]
  by_cases hk : k = 0
  · subst hk; rfl
  · rw [if_neg (by omega), if_neg hk]
theorem kfault_long {k : Nat} {l : List It} (h : kMost k < l.length) : kfault k l = 5 := by
  unfold kfault; rw [if_neg (by omega), if_pos h]
theorem kfault_right {k : Nat} {l : List It} (h0 : 0 < l.length) (h1 : l.length ≤ kMost k) (h : rightB (kLo k) (kHi k) (kMost k) l = false) : kfault k l = 1 := by
  unfold kfault; rw [if_neg (by omega), if_neg (by omega)]
  rw [rightB, decide_eq_true (by omega), Bool.true_and] at h
  rw [if_pos]
  rw [List.all_eq_not_any_not] at h
  simp only [Bool.not_eq_false'] at h
  rw [List.any_eq_true] at h ⊢
  obtain ⟨x, hx, hm⟩ := h
  exact ⟨x, hx, by rw [hm, Bool.or_true]⟩
theorem kfault_rest {k : Nat} {l : List It} (h0 : 0 < l.length) (h1 : l.length ≤ kMost k) (h : rightB (kLo k) (kHi k) (kMost k) l = true) : kfault k l = if l.any (fun i => kOdd k l.length i) then 1 else 0 := by
  unfold kfault; rw [if_neg (by omega), if_neg (by omega)]
  rw [rightB, decide_eq_true (by omega), Bool.true_and, List.all_eq_true] at h
  have e : l.any (fun i => kOdd k l.length i || !mayIt i (kLo k) (kHi k)) = l.any (fun i => kOdd k l.length i) := by
    rw [Bool.eq_iff_iff, List.any_eq_true, List.any_eq_true]
    constructor
    · rintro ⟨x, hx, hm⟩; exact ⟨x, hx, by rw [h x hx] at hm; simpa using hm⟩
    · rintro ⟨x, hx, hm⟩; exact ⟨x, hx, by rw [hm]; rfl⟩
  rw [e]
set_option maxRecDepth 10000 in
set_option maxHeartbeats 1000000 in
theorem kfault_any (k : Nat) (hk : k < 7) (A : Option Addr) (n c : Nat) (l : List It) (w : World) (hA : RdIts w A n l) (hn : n ≤ 9223372036854775807) :
    Calls Tryz.prog 51 #[.int .i64 k, .slice A n c] w (Ret (.int .i64 (kfault k l)) w) := by
  have HL : Hid (l.length = n) := hA.1
  have HA := Lib.hid hA
  clear hA
  have HB := Lib.hid (fun W => kbounds_any k hk W)
  have HM := Lib.hid (fun W => kmost_any k W)
  by_cases h0 : n = 0
  · subst h0
    have HR : Hid (kfault k l = if k = 0 then 0 else 11) := kfault_nil HL.out
    by_cases hk0 : k = 0
    · rw [if_pos hk0] at HR
      have hk0' : ((k : Int) == 0) = true := by simp; omega
      clear hk0
      go_enter Tryz.func51, Tryz.ntmps51
      go_wp2_with fail
      refine (HB.out _).mono ?_
      rintro e w1 ⟨rfl, hb1⟩
      obtain ⟨hc, hf⟩ := bcell hb1
      go_wp2
      go_ret
      exact ⟨ret_int HR.out.symm, ((((Below.refl _ w).alloc (Nat.le_refl _) _).alloc (by simp) _).trans (hb1.mono (by simp; omega)))⟩
    · rw [if_neg hk0] at HR
      have hk0' : ((k : Int) == 0) = false := by simp; omega
      clear hk0
      go_enter Tryz.func51, Tryz.ntmps51
      go_wp2_with fail
      refine (HB.out _).mono ?_
      rintro e w1 ⟨rfl, hb1⟩
      obtain ⟨hc, hf⟩ := bcell hb1
      go_wp2
      go_ret
      exact ⟨ret_int HR.out.symm, ((((Below.refl _ w).alloc (Nat.le_refl _) _).alloc (by simp) _).trans (hb1.mono (by simp; omega)))⟩
  have h0' : ((n : Int) == 0) = false := by simp; omega
  by_cases h64 : kMost k < n
  · have HR : Hid (kfault k l = 5) := kfault_long (by have := HL.out; omega)
    have h64' : ((kMost k : Nat) : Int) < (n : Int) := by omega
    generalize ((kMost k : Nat) : Int) = m at *
    clear h64
    go_enter Tryz.func51, Tryz.ntmps51
    go_wp2_with fail
    refine (HB.out _).mono ?_
    rintro e w1 ⟨rfl, hb1⟩
    obtain ⟨hc, hf⟩ := bcell hb1
    go_wp2
    go_quiet ((go_at_call 83; exact quietQ (HM.out _)))
    go_wp2
    go_ret
    exact ⟨ret_int HR.out.symm, below_drewN ((((Below.refl _ w).alloc (Nat.le_refl _) _).alloc (by simp) _).trans (hb1.mono (by simp; omega))) _⟩
  have h64' : ¬ ((kMost k : Nat) : Int) < (n : Int) := by omega
  have HMr := Lib.hid (fun W => (kmost_any k W).mono (fun e w' h => (⟨h.1, h.2 ▸ Below.refl _ _⟩ : Ret (.int .i64 (kMost k)) W e w')))
  cases hr : rightB (kLo k) (kHi k) (kMost k) l with
  | false =>
    have HR : Hid (kfault k l = 1) := kfault_right (by have := HL.out; omega) (by have := HL.out; omega) hr
    have HF := Lib.hid (fun W (hb : Below w.heap.size w W) => right_any A n c l (kLo k) (kHi k) (kMost k) W (HA.out.below hb (Nat.le_refl _)) hn)
    rw [hr] at HF
    generalize ((kMost k : Nat) : Int) = m at *
    generalize kLo (k : Int) = lo at *
    generalize kHi (k : Int) = hi at *
    clear hr h64
    go_enter Tryz.func51, Tryz.ntmps51
    go_wp2_with fail
    refine (HB.out _).mono ?_
    rintro e w1 ⟨rfl, hb1⟩
    obtain ⟨hc, hf⟩ := bcell hb1
    have hbw0 : Below w.heap.size w w1 := (((Below.refl _ w).alloc (Nat.le_refl _) _).alloc (by simp) _).trans (hb1.mono (by simp; omega))
    have hz1 := hb1.size
    have p0 : w1.cell? ⟨w.heap.size, 0, none⟩ = some (.int .i64 k) := (hc _ _ (by simp; omega)).trans (by simp [go_sem])
    have p1 : w1.cell? ⟨w.heap.size + 1, 0, none⟩ = some (.slice A n c) := (hc _ _ (by simp)).trans (by simp [go_sem])
    clear hc hf hb1
    go_wp2
    go_quiet ((go_at_call 83; exact quietQ (HM.out _)))
    go_wp2
    have hbw : Below w.heap.size w (w1.drewN nq) := below_drewN hbw0 _
    have p0' : (w1.drewN nq).cell? ⟨w.heap.size, 0, none⟩ = some (.int .i64 k) := p0
    have p1' : (w1.drewN nq).cell? ⟨w.heap.size + 1, 0, none⟩ = some (.slice A n c) := p1
    clear p0 p1 hz1
    generalize World.drewN w1 nq = w2 at *
    have c0 : ∀ x : Ext w2, x.W.cell? ⟨w.heap.size, 0, none⟩ = some (.int .i64 k) := fun x => x.cell p0'
    have c1 : ∀ x : Ext w2, x.W.cell? ⟨w.heap.size + 1, 0, none⟩ = some (.slice A n c) := fun x => x.cell p1'
    have HFx := Lib.hid (fun x : Ext w2 => HF.out x.W (bthen hbw x.h hbw.size))
    have HMx := Lib.hid (fun x : Ext w2 => HMr.out x.W)
    refine wp_region_grew (by kernel_rfl) (by kernel_rfl) ?_
    repeat (first | go_big_quiet_skip | (go_big_quiet_want; go_big_quiet_op; (first | go_big_quiet_on | go_big_quiet_call ((with_reducible first | exact ext_call _ (HMx.out _) | exact ext_call _ (HFx.out _))))))
    refine wpQuiet_nil ?_
    rintro _ ⟨xw, rfl⟩
    have q0 := c0 xw
    have q1 := c1 xw
    have hbx : Below w.heap.size w xw.W := bthen hbw xw.h hbw.size
    go_wp2
    go_ret
    exact ⟨ret_int HR.out.symm, bthen hbw xw.h hbw.size⟩
  | true =>
    have HR : Hid (kfault k l = if l.any (fun i => kOdd k n i) then 1 else 0) := by have := kfault_rest (k := k) (by have := HL.out; omega) (by have := HL.out; omega) hr; rw [HL.out] at this; exact this
    have HF := Lib.hid (fun W (hb : Below w.heap.size w W) => right_any A n c l (kLo k) (kHi k) (kMost k) W (HA.out.below hb (Nat.le_refl _)) hn)
    rw [hr] at HF
    generalize ((kMost k : Nat) : Int) = m at *
    generalize kLo (k : Int) = lo at *
    generalize kHi (k : Int) = hi at *
    clear hr h64
    have eg : ∀ args w, (callFunc 86 args).run Tryz.prog w = .ok (.enter 86 args) w := enters_of Tryz.func86 (by kernel_rfl) rfl
    have HG := Lib.hid (fun w1 (hb1 : Below w.heap.size w w1) (q0 : w1.cell? ⟨w.heap.size, 0, none⟩ = some (.int .i64 k)) (q1 : w1.cell? ⟨w.heap.size + 1, 0, none⟩ = some (.slice A n c)) => containsFunc_any A n c l 86 #[.pointer (some ⟨w.heap.size, 0, none⟩), .pointer (some ⟨w.heap.size + 1, 0, none⟩)] _ w1 (HA.out.below hb1 (Nat.le_refl _)) hn eg (kfault1_any w.heap.size (w.heap.size + 1) k A n c w1 q0 q1))
    clear eg
    cases hq : l.any (fun i => kOdd k n i) with
    | true =>
      rw [hq] at HG HR
      clear hq
      go_enter Tryz.func51, Tryz.ntmps51
      go_wp2_with fail
      refine (HB.out _).mono ?_
      rintro e w1 ⟨rfl, hb1⟩
      obtain ⟨hc, hf⟩ := bcell hb1
      have hbw0 : Below w.heap.size w w1 := (((Below.refl _ w).alloc (Nat.le_refl _) _).alloc (by simp) _).trans (hb1.mono (by simp; omega))
      have hz1 := hb1.size
      have p0 : w1.cell? ⟨w.heap.size, 0, none⟩ = some (.int .i64 k) := (hc _ _ (by simp; omega)).trans (by simp [go_sem])
      have p1 : w1.cell? ⟨w.heap.size + 1, 0, none⟩ = some (.slice A n c) := (hc _ _ (by simp)).trans (by simp [go_sem])
      clear hc hf hb1
      go_wp2
      go_quiet ((go_at_call 83; exact quietQ (HM.out _)))
      go_wp2
      have hbw : Below w.heap.size w (w1.drewN nq) := below_drewN hbw0 _
      have p0' : (w1.drewN nq).cell? ⟨w.heap.size, 0, none⟩ = some (.int .i64 k) := p0
      have p1' : (w1.drewN nq).cell? ⟨w.heap.size + 1, 0, none⟩ = some (.slice A n c) := p1
      clear p0 p1 hz1
      generalize World.drewN w1 nq = w2 at *
      have c0 : ∀ x : Ext w2, x.W.cell? ⟨w.heap.size, 0, none⟩ = some (.int .i64 k) := fun x => x.cell p0'
      have c1 : ∀ x : Ext w2, x.W.cell? ⟨w.heap.size + 1, 0, none⟩ = some (.slice A n c) := fun x => x.cell p1'
      have HFx := Lib.hid (fun x : Ext w2 => HF.out x.W (bthen hbw x.h hbw.size))
      have HMx := Lib.hid (fun x : Ext w2 => HMr.out x.W)
      refine wp_region_grew (by kernel_rfl) (by kernel_rfl) ?_
      repeat (first | go_big_quiet_skip | (go_big_quiet_want; go_big_quiet_op; (first | go_big_quiet_on | go_big_quiet_call ((with_reducible first | exact ext_call _ (HMx.out _) | exact ext_call _ (HFx.out _))))))
      refine wpQuiet_nil ?_
      rintro _ ⟨xw, rfl⟩
      have q0 := c0 xw
      have q1 := c1 xw
      have hbx : Below w.heap.size w xw.W := bthen hbw xw.h hbw.size
      go_wp2_with fail
      refine (HG.out _ hbx q0 q1).mono ?_
      rintro e w3 ⟨rfl, hb3⟩
      go_wp2
      go_ret
      exact ⟨ret_int HR.out.symm, bthen hbx hb3 hbx.size⟩
    | false =>
      rw [hq] at HG HR
      clear hq
      go_enter Tryz.func51, Tryz.ntmps51
      go_wp2_with fail
      refine (HB.out _).mono ?_
      rintro e w1 ⟨rfl, hb1⟩
      obtain ⟨hc, hf⟩ := bcell hb1
      have hbw0 : Below w.heap.size w w1 := (((Below.refl _ w).alloc (Nat.le_refl _) _).alloc (by simp) _).trans (hb1.mono (by simp; omega))
      have hz1 := hb1.size
      have p0 : w1.cell? ⟨w.heap.size, 0, none⟩ = some (.int .i64 k) := (hc _ _ (by simp; omega)).trans (by simp [go_sem])
      have p1 : w1.cell? ⟨w.heap.size + 1, 0, none⟩ = some (.slice A n c) := (hc _ _ (by simp)).trans (by simp [go_sem])
      clear hc hf hb1
      go_wp2
      go_quiet ((go_at_call 83; exact quietQ (HM.out _)))
      go_wp2
      have hbw : Below w.heap.size w (w1.drewN nq) := below_drewN hbw0 _
      have p0' : (w1.drewN nq).cell? ⟨w.heap.size, 0, none⟩ = some (.int .i64 k) := p0
      have p1' : (w1.drewN nq).cell? ⟨w.heap.size + 1, 0, none⟩ = some (.slice A n c) := p1
      clear p0 p1 hz1
      generalize World.drewN w1 nq = w2 at *
      have c0 : ∀ x : Ext w2, x.W.cell? ⟨w.heap.size, 0, none⟩ = some (.int .i64 k) := fun x => x.cell p0'
      have c1 : ∀ x : Ext w2, x.W.cell? ⟨w.heap.size + 1, 0, none⟩ = some (.slice A n c) := fun x => x.cell p1'
      have HFx := Lib.hid (fun x : Ext w2 => HF.out x.W (bthen hbw x.h hbw.size))
      have HMx := Lib.hid (fun x : Ext w2 => HMr.out x.W)
      refine wp_region_grew (by kernel_rfl) (by kernel_rfl) ?_
      repeat (first | go_big_quiet_skip | (go_big_quiet_want; go_big_quiet_op; (first | go_big_quiet_on | go_big_quiet_call ((with_reducible first | exact ext_call _ (HMx.out _) | exact ext_call _ (HFx.out _))))))
      refine wpQuiet_nil ?_
      rintro _ ⟨xw, rfl⟩
      have q0 := c0 xw
      have q1 := c1 xw
      have hbx : Below w.heap.size w xw.W := bthen hbw xw.h hbw.size
      go_wp2_with fail
      refine (HG.out _ hbx q0 q1).mono ?_
      rintro e w3 ⟨rfl, hb3⟩
      go_wp2
      go_ret
      exact ⟨ret_int HR.out.symm, bthen hbx hb3 hbx.size⟩
end Go.Proofs.YtochhmkdhdadhaaGreat
