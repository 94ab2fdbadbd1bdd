/- The walks of package cronlow. -/
import Derived.Test.YtochhmkdhdadhaaGreatDoorWClAQ
import Derived.Test.YtochhmkdhdadhaaGreatDoorRClow
import Derived.Test.YtochhmkdhdadhaaGreatDoorWCron2
import Derived.Test.YtochhmkdhdadhaaGreatDoorLCron3
import Derived.Test.YtochhmkdhdadhaaGreatDoorWClM
namespace Go.Proofs.YtochhmkdhdadhaaGreatDoor
open Go.RowKit
set_option linter.unusedSimpArgs false
set_option linter.unusedVariables false

theorem lineAt_ld {w : World} {B : Nat} {A : Nat → Option Addr} {n c : Nat → Nat} (h : LineAt w B 0 A n c) : w.cell? ⟨B, 0, none⟩ = some (.slice (A 0) (n 0) (c 0)) ∧ w.cell? ⟨B, 1, none⟩ = some (.slice (A 1) (n 1) (c 1)) ∧ w.cell? ⟨B, 2, none⟩ = some (.slice (A 2) (n 2) (c 2)) ∧ w.cell? ⟨B, 3, none⟩ = some (.slice (A 3) (n 3) (c 3)) ∧ w.cell? ⟨B, 4, none⟩ = some (.slice (A 4) (n 4) (c 4)) := by
  obtain ⟨h0, h1, h2, h3, h4⟩ := h
  simp only [Nat.zero_add] at h1 h2 h3 h4
  exact ⟨h0, h1, h2, h3, h4⟩
/-- While a line's clause is made: the line, the clause, the place of the result. -/
structure LowS (w W : World) (b : Nat) (A : Nat → Option Addr) (n c : Nat → Nat) (g : Nat → Value) : Prop where
  line : LineAt W w.heap.size 0 A n c
  arr : Arr W b 30 g
  out : W.there (w.heap.size + 1) 0 30
  lt : w.heap.size + 1 < b
  below : Below w.heap.size w W
theorem LowS.later {w W W' : World} {b : Nat} {A : Nat → Option Addr} {n c : Nat → Nat} {g : Nat → Value} (h : LowS w W b A n c g) (hb : Below W.heap.size W W') : LowS w W' b A n c g :=
  have hl := Arr.lt h.arr (by decide)
  ⟨LineAt.below h.line (fun o => hb.cell (p := ⟨_, o, none⟩) (by show w.heap.size < _; have := h.lt; omega)), Arr.below h.arr hl hb, there_below h.out (by have := h.lt; omega) hb, h.lt, bthen h.below hb h.below.size⟩
theorem LowS.updG {w W : World} {b : Nat} {A : Nat → Option Addr} {n c : Nat → Nat} {g : Nat → Value} (h : LowS w W b A n c g) (i : Nat) (hi : i < 30) (v : Value) : LowS w (W.setCell ⟨b, i, none⟩ v) b A n c (updG g i v) :=
  ⟨LineAt.below h.line (fun o => World.cell?_setCell_other _ _ _ _ (by intro e; injection e with e1; have := h.lt; omega)), Arr.updG h.arr i hi v, there_set h.out (by have := h.lt; omega), h.lt, h.below.setCell (by show w.heap.size ≤ b; have := h.lt; omega) _⟩
set_option maxHeartbeats 1000000 in
/-- The mask of a field. -/
theorem cronlow1_any (k : Nat) (hk : k < 5) (b : Nat) (A : Nat → Option Addr) (n c : Nat → Nat) (l : Nat → List It) (W : World) (hL : LineAt W b 0 A n c) (hA : RdLine W A n l) (hn : n k ≤ 100000) (hnil : A k = none → n k = 0) :
    Calls Tryz.prog 20 #[.int .i64 (k : Int), .pointer (some ⟨b, 0, none⟩)] W (Ret (.int .u64 (maskL (refVal (l k) (cLo k) (cHi k)))) W) := by
  have HB := Lib.hid (fun W => bounds_in k hk W)
  have HF := Lib.hid (fun W' (hb : Below W.heap.size W W') => field_in k hk A n c l W' (hA.below hb (Nat.le_refl _)) (by omega) hnil)
  have HM := Lib.hid (fun A' c' W' (h : RdIts W' A' (n k) (l k)) => imask_any (cLo k) (cHi k) A' (n k) c' (l k) W' h hn)
  have hbl := World.block_lt_of_cell? _ _ hL.1
  have HL := Lib.hid hL
  clear hA hL
  generalize cLo k = lo at *
  generalize cHi k = hi at *
  generalize maskL (refVal (l k) lo hi) = M at *
  go_enter Tryz.func20, Tryz.ntmps20
  go_wp2_with fail
  refine (HB.out _).mono ?_
  rintro e w1 ⟨rfl, hb1⟩
  have HL1 := Lib.hid (LineAt.below HL.out (fun o => hb1.cell (p := ⟨_, o, none⟩) hbl))
  obtain ⟨l0, l1, l2, l3, l4⟩ := lineAt_ld HL1.out
  go_wp2_with fail
  refine (HF.out _ hb1).mono ?_
  rintro e w2 ⟨A', c', rfl, hr, hb2⟩
  have hbW := bthen hb1 hb2 hb1.size
  clear l0 l1 l2 l3 l4 HL1 hb1 hb2
  go_wp2_with fail
  refine (HM.out _ _ _ hr).mono ?_
  rintro e w3 ⟨rfl, hb3⟩
  go_wp2
  go_ret
  exact ⟨rfl, bthen hbW hb3 hbW.size⟩
set_option maxRecDepth 20000 in
set_option maxHeartbeats 4000000 in
theorem lowClause_bad (A : Nat → Option Addr) (n c : Nat → Nat) (l : Nat → List It) (w : World) (hA : RdLine w A n l) (hn : ∀ k, n k ≤ 9223372036854775807) (h : (chk l).2 ≠ 0) :
    Calls Tryz.prog 9 #[crV A n c] w (Ret (.tuple #[.agg (clA zeroC), .int .i64 (chk l).2]) w) := by
  have HK := Lib.hid (fun W (hb : Below w.heap.size w W) => check_any A n c l W (hA.below hb (Nat.le_refl _)) hn)
  have HI := Lib.hid (cl_info zeroC)
  have H1 := Lib.hid (clA_cells zeroC)
  have he : ((chk l).2 != 0) = true := by simpa using h
  clear hA hn h
  generalize (chk l).1 = f at *
  generalize (chk l).2 = e at *
  have HZ : Hid (Value.agg (clA zeroC) = .agg #[.int .u64 0, .int .u64 0, .int .u64 0, .int .u64 0, .int .u64 0, .int .u64 0, .int .u64 0, .bool false, .int .i64 0, .bool false, .int .u64 0, .int .u64 0, .int .u64 0, .int .u64 0, .int .u64 0, .int .u64 0, .int .u64 0, .int .u64 0, .int .u64 0, .int .u64 0, .int .u64 0, .int .u64 0, .int .u64 0, .int .u64 0, .int .u64 0, .int .i64 0, .int .i64 0, .int .i64 0, .int .i64 0, .int .i64 0]) := rfl
  rw [HZ.out]
  clear HZ HI H1
  go_enter Tryz.func9, Tryz.ntmps9
  go_wp2_with fail
  refine (HK.out _ (by (repeat' (first | (with_reducible exact Below.refl _ _) | (with_reducible assumption) | (with_reducible refine below_drewN ?_ _) | (with_reducible refine Below.alloc ?_ ?_ _) | (with_reducible refine Below.drew ?_) | (with_reducible refine Below.setCell ?_ ?_ _) | go_size)))).mono ?_
  rintro x w1 ⟨rfl, hb1⟩
  have hbW : Below w.heap.size w w1 := (((Below.refl _ w).alloc (Nat.le_refl _) _).alloc (by simp) _).trans (hb1.mono (by simp; omega))
  have hT := there_below (there_new (w.alloc (.cells #[.slice (A 0) (n 0) (c 0), .slice (A 1) (n 1) (c 1), .slice (A 2) (n 2) (c 2), .slice (A 3) (n 3) (c 3), .slice (A 4) (n 4) (c 4)] 24)) #[.int .u64 0, .int .u64 0, .int .u64 0, .int .u64 0, .int .u64 0, .int .u64 0, .int .u64 0, .bool false, .int .i64 0, .bool false, .int .u64 0, .int .u64 0, .int .u64 0, .int .u64 0, .int .u64 0, .int .u64 0, .int .u64 0, .int .u64 0, .int .u64 0, .int .u64 0, .int .u64 0, .int .u64 0, .int .u64 0, .int .u64 0, .int .u64 0, .int .i64 0, .int .i64 0, .int .i64 0, .int .i64 0, .int .i64 0] 37) (by simp) hb1
  rw [show (w.alloc (.cells #[.slice (A 0) (n 0) (c 0), .slice (A 1) (n 1) (c 1), .slice (A 2) (n 2) (c 2), .slice (A 3) (n 3) (c 3), .slice (A 4) (n 4) (c 4)] 24)).heap.size = w.heap.size + 1 by simp] at hT
  clear hb1
  go_wp2_with (refine wp_store_at (w := w) rfl 37 _ _ rfl #[.int .u64 0, .int .u64 0, .int .u64 0, .int .u64 0, .int .u64 0, .int .u64 0, .int .u64 0, .bool false, .int .i64 0, .bool false, .int .u64 0, .int .u64 0, .int .u64 0, .int .u64 0, .int .u64 0, .int .u64 0, .int .u64 0, .int .u64 0, .int .u64 0, .int .u64 0, .int .u64 0, .int .u64 0, .int .u64 0, .int .u64 0, .int .u64 0, .int .i64 0, .int .i64 0, .int .i64 0, .int .i64 0, .int .i64 0] (w.heap.size + 1) (by omega) rfl rfl Tryz.underlying37 rfl (by kernel_rfl) (by kernel_rfl) hbW hT ?_; intro W' hLd hbE)
  (try simp only [Exit.inBlock, Exit.then])
  refine bodyPost_ret (v := .tuple #[.agg #[.int .u64 0, .int .u64 0, .int .u64 0, .int .u64 0, .int .u64 0, .int .u64 0, .int .u64 0, .bool false, .int .i64 0, .bool false, .int .u64 0, .int .u64 0, .int .u64 0, .int .u64 0, .int .u64 0, .int .u64 0, .int .u64 0, .int .u64 0, .int .u64 0, .int .u64 0, .int .u64 0, .int .u64 0, .int .u64 0, .int .u64 0, .int .u64 0, .int .i64 0, .int .i64 0, .int .i64 0, .int .i64 0, .int .i64 0], .int .i64 e]) ?_ rfl ⟨rfl, hbE⟩
  rw [results_cell_b rfl]
  show ((loadVar 37 ⟨w.heap.size + 1, 0, none⟩).run Tryz.prog W').andThen (fun v w₂ => Result.ok (Value.tuple #[v, Value.int .i64 e]) w₂) = _
  rw [hLd.out]
  rfl
def mkC (a0 a1 a2 a3 a4 a6 : Int) (E : Bool) : Cl := { m := fun i => if i = 0 then a0 else if i = 1 then a1 else if i = 2 then a2 else if i = 3 then a3 else if i = 4 then a4 else if i = 5 then spanM 1 31 else a6, or := E, oi := 0, ob := false, od := fun _ => 0, y := fullW, u := 0, s := 1, a := 0, f := 0, t := 12622780799 }
theorem line_upd (a0 a1 a2 a3 a4 a6 : Int) (E : Bool) : ∀ j, j < 30 → updG (updG (updG (updG (updG (updG (updG (fun j => (clA fullC).getD j undef) 0 (.int .u64 a0)) 1 (.int .u64 a1)) 2 (.int .u64 a2)) 4 (.int .u64 a4)) 3 (.int .u64 a3)) 6 (.int .u64 a6)) 7 (.bool E) j = (clA (mkC a0 a1 a2 a3 a4 a6 E)).getD j undef := by
  intro j hj
  obtain rfl | rfl | rfl | rfl | rfl | rfl | rfl | rfl | rfl | rfl | rfl | rfl | rfl | rfl | rfl | rfl | rfl | rfl | rfl | rfl | rfl | rfl | rfl | rfl | rfl | rfl | rfl | rfl | rfl | rfl : j = 0 ∨ j = 1 ∨ j = 2 ∨ j = 3 ∨ j = 4 ∨ j = 5 ∨ j = 6 ∨ j = 7 ∨ j = 8 ∨ j = 9 ∨ j = 10 ∨ j = 11 ∨ j = 12 ∨ j = 13 ∨ j = 14 ∨ j = 15 ∨ j = 16 ∨ j = 17 ∨ j = 18 ∨ j = 19 ∨ j = 20 ∨ j = 21 ∨ j = 22 ∨ j = 23 ∨ j = 24 ∨ j = 25 ∨ j = 26 ∨ j = 27 ∨ j = 28 ∨ j = 29 := by omega
  all_goals rfl
theorem lineC_mk (l : Nat → List It) : lineC l = mkC 1 (maskL (refVal (l 0) 0 59)) (maskL (refVal (l 1) 0 23)) (maskL (refVal (l 3) 1 12)) (maskL (refVal (l 2) 1 31)) (maskL (wkL (refVal (l 4) 0 7))) (eitherB l) := rfl
set_option maxRecDepth 20000 in
set_option maxHeartbeats 8000000 in
theorem lowClause_ok (A : Nat → Option Addr) (n c : Nat → Nat) (l : Nat → List It) (w : World) (hA : RdLine w A n l) (hn : ∀ k, n k ≤ 100000) (hnil : ∀ k, A k = none → n k = 0) (h : (chk l).2 = 0) :
    Calls Tryz.prog 9 #[crV A n c] w (Ret (.tuple #[.agg (clA (lineC l)), .int .i64 0]) w) := by
  have HK := Lib.hid (fun W (hb : Below w.heap.size w W) => check_any A n c l W (hA.below hb (Nat.le_refl _)) (fun k => by have := hn k; omega))
  rw [h] at HK
  have HF := Lib.hid (fun W => cfull_any W)
  have HO := Lib.hid (fun b W h => maskOf_any (some ⟨b, 0, none⟩) 1 1 [0] W h (by decide))
  rw [← one_mask] at HO
  have eg : ∀ args w, (callFunc 20 args).run Tryz.prog w = .ok (.enter 20 args) w := enters_of Tryz.func20 (by kernel_rfl) rfl
  have H0 := Lib.hid (fun b W (hb : Below w.heap.size w W) (h : LineAt W b 0 A n c) => cronlow1_any 0 (by decide) b A n c l W h (hA.below hb (Nat.le_refl _)) (hn 0) (hnil 0))
  have H1 := Lib.hid (fun b W (hb : Below w.heap.size w W) (h : LineAt W b 0 A n c) => cronlow1_any 1 (by decide) b A n c l W h (hA.below hb (Nat.le_refl _)) (hn 1) (hnil 1))
  have H2 := Lib.hid (fun b W (hb : Below w.heap.size w W) (h : LineAt W b 0 A n c) => cronlow1_any 2 (by decide) b A n c l W h (hA.below hb (Nat.le_refl _)) (hn 2) (hnil 2))
  have H3 := Lib.hid (fun b W (hb : Below w.heap.size w W) (h : LineAt W b 0 A n c) => cronlow1_any 3 (by decide) b A n c l W h (hA.below hb (Nat.le_refl _)) (hn 3) (hnil 3))
  have HW := Lib.hid (fun W (hb : Below w.heap.size w W) => weekdays_any (A 4) (n 4) (c 4) (l 4) W ((hA 4 (by decide)).below hb (Nat.le_refl _)) (hn 4))
  have HE := Lib.hid (fun W (hb : Below w.heap.size w W) => either_any A n c l W (hA.below hb (Nat.le_refl _)))
  have HI := Lib.hid (cl_info fullC)
  have HC := Lib.hid (clA_cells fullC)
  have HI2 := Lib.hid (cl_info (lineC l))
  have HC2 := Lib.hid (clA_cells (lineC l))
  have hsz : (clA fullC).size = 30 := rfl
  have HG : Hid (∀ j, j < 30 → updG (updG (updG (updG (updG (updG (updG (fun j => (clA fullC).getD j undef) 0 (.int .u64 1)) 1 (.int .u64 (maskL (refVal (l 0) 0 59)))) 2 (.int .u64 (maskL (refVal (l 1) 0 23)))) 4 (.int .u64 (maskL (refVal (l 2) 1 31)))) 3 (.int .u64 (maskL (refVal (l 3) 1 12)))) 6 (.int .u64 (maskL (wkL (refVal (l 4) 0 7))))) 7 (.bool (eitherB l)) j = (clA (lineC l)).getD j undef) := by
    show ∀ j, _
    rw [lineC_mk]
    exact line_upd _ _ _ _ _ _ _
  have e0 : maskL (refVal (l 0) (cLo (0 : Nat)) (cHi (0 : Nat))) = maskL (refVal (l 0) 0 59) := by rw [show cLo ((0 : Nat) : Int) = 0 from rfl, show cHi ((0 : Nat) : Int) = 59 from rfl]
  have e1 : maskL (refVal (l 1) (cLo (1 : Nat)) (cHi (1 : Nat))) = maskL (refVal (l 1) 0 23) := by rw [show cLo ((1 : Nat) : Int) = 0 from rfl, show cHi ((1 : Nat) : Int) = 23 from rfl]
  have e2 : maskL (refVal (l 2) (cLo (2 : Nat)) (cHi (2 : Nat))) = maskL (refVal (l 2) 1 31) := by rw [show cLo ((2 : Nat) : Int) = 1 from rfl, show cHi ((2 : Nat) : Int) = 31 from rfl]
  have e3 : maskL (refVal (l 3) (cLo (3 : Nat)) (cHi (3 : Nat))) = maskL (refVal (l 3) 1 12) := by rw [show cLo ((3 : Nat) : Int) = 1 from rfl, show cHi ((3 : Nat) : Int) = 12 from rfl]
  rw [e0] at H0
  rw [e1] at H1
  rw [e2] at H2
  rw [e3] at H3
  have HZs : Hid (30 = (clA fullC).size ∧ (clA fullC).size = 30) := ⟨rfl, rfl⟩
  have HS30 : Hid ((clA (lineC l)).size = 30) := rfl
  clear hA hn hnil h hsz e0 e1 e2 e3
  generalize clA fullC = cs at *
  generalize clA (lineC l) = zs at *
  generalize maskL (refVal (l 0) 0 59) = M0 at *
  generalize maskL (refVal (l 1) 0 23) = M1 at *
  generalize maskL (refVal (l 2) 1 31) = M2 at *
  generalize maskL (refVal (l 3) 1 12) = M3 at *
  generalize maskL (wkL (refVal (l 4) 0 7)) = M4 at *
  generalize eitherB l = E at *
  generalize (chk l).1 = fd at *
  go_enter Tryz.func9, Tryz.ntmps9
  go_wp2_with fail
  refine (HK.out _ (by (repeat' (first | (with_reducible exact Below.refl _ _) | (with_reducible assumption) | (with_reducible refine below_drewN ?_ _) | (with_reducible refine Below.alloc ?_ ?_ _) | (with_reducible refine Below.drew ?_) | (with_reducible refine Below.setCell ?_ ?_ _) | go_size)))).mono ?_
  rintro x w1 ⟨rfl, hq1⟩
  have hb1 : Below w.heap.size w w1 := (((Below.refl _ w).alloc (Nat.le_refl _) _).alloc (by simp) _).trans (hq1.mono (by simp; omega))
  have hT := there_below (there_new (w.alloc (.cells #[.slice (A 0) (n 0) (c 0), .slice (A 1) (n 1) (c 1), .slice (A 2) (n 2) (c 2), .slice (A 3) (n 3) (c 3), .slice (A 4) (n 4) (c 4)] 24)) #[.int .u64 0, .int .u64 0, .int .u64 0, .int .u64 0, .int .u64 0, .int .u64 0, .int .u64 0, .bool false, .int .i64 0, .bool false, .int .u64 0, .int .u64 0, .int .u64 0, .int .u64 0, .int .u64 0, .int .u64 0, .int .u64 0, .int .u64 0, .int .u64 0, .int .u64 0, .int .u64 0, .int .u64 0, .int .u64 0, .int .u64 0, .int .u64 0, .int .i64 0, .int .i64 0, .int .i64 0, .int .i64 0, .int .i64 0] 37) (by simp) hq1
  rw [show (w.alloc (.cells #[.slice (A 0) (n 0) (c 0), .slice (A 1) (n 1) (c 1), .slice (A 2) (n 2) (c 2), .slice (A 3) (n 3) (c 3), .slice (A 4) (n 4) (c 4)] 24)).heap.size = w.heap.size + 1 by simp] at hT
  have hL : LineAt ((w.alloc (.cells #[.slice (A 0) (n 0) (c 0), .slice (A 1) (n 1) (c 1), .slice (A 2) (n 2) (c 2), .slice (A 3) (n 3) (c 3), .slice (A 4) (n 4) (c 4)] 24)).alloc (.cells #[.int .u64 0, .int .u64 0, .int .u64 0, .int .u64 0, .int .u64 0, .int .u64 0, .int .u64 0, .bool false, .int .i64 0, .bool false, .int .u64 0, .int .u64 0, .int .u64 0, .int .u64 0, .int .u64 0, .int .u64 0, .int .u64 0, .int .u64 0, .int .u64 0, .int .u64 0, .int .u64 0, .int .u64 0, .int .u64 0, .int .u64 0, .int .u64 0, .int .i64 0, .int .i64 0, .int .i64 0, .int .i64 0, .int .i64 0] 37)) w.heap.size 0 A n c := ⟨by simp [go_sem], by simp [go_sem], by simp [go_sem], by simp [go_sem], by simp [go_sem]⟩
  have HL1 := Lib.hid (LineAt.below hL (fun o => hq1.cell (p := ⟨_, o, none⟩) (by simp; omega)))
  have HT1 := Lib.hid hT
  have hz1 : w.heap.size + 2 ≤ w1.heap.size := by have := hq1.size; simp at this; omega
  clear hq1 hT hL HK
  go_wp2_with fail
  refine (HF.out _).mono ?_
  rintro x w2 ⟨rfl, hq2⟩
  have hb2 := bthen hb1 hq2 hb1.size
  have HL2 := Lib.hid (LineAt.below HL1.out (fun o => hq2.cell (p := ⟨_, o, none⟩) (by show w.heap.size < w1.heap.size; omega)))
  have HT2 := Lib.hid (there_below HT1.out (by omega) hq2)
  have hz2 : w.heap.size + 2 ≤ w2.heap.size := by have := hq2.size; omega
  clear HL1 HT1 hb1 hq2 hz1 HF
  go_wp2_with (refine wp_store_new (by rfl) 37 _ _ rfl cs _ rfl rfl HI.out HC.out HZs.out.1 ?_; intro w3 hq3 HA3 hz3)
  have HS3 : Hid (LowS w w3 w2.heap.size A n c (fun j => cs.getD j undef)) :=
    ⟨LineAt.below HL2.out (fun o => hq3.cell (p := ⟨_, o, none⟩) (by show w.heap.size < w2.heap.size; omega)), by rw [← HZs.out.2]; exact HA3, there_below HT2.out (by omega) hq3, by omega, bthen hb2 hq3 hb2.size⟩
  have hz3' : w2.heap.size < w3.heap.size := by omega
  clear hq3 HA3 HL2 HT2 hb2
  have HS4 := Lib.hid (HS3.out.later ((Below.refl _ w3).alloc (Nat.le_refl _) (.cells #[.int .i64 0] 3)))
  generalize hB : w2.heap.size = B at *
  refine (HO.out _ _ ?_).mono ?_
  · refine rdInts_one _ _ 0 ?_ ?_
    · rw [← hz3]; simp
    · rw [← hz3]; exact cell_new rfl rfl
  rintro x w4 ⟨rfl, rfl⟩
  clear HS3 hz3 hz3' HO
  generalize World.alloc w3 _ = w4 at *
  have c0 := HS4.out.arr.1 0 (by decide)
  have f0 := HS4.out.arr.2 0
  go_wp2_with fail
  have HS5 := Lib.hid (HS4.out.updG 0 (by decide) (.int .u64 1))
  clear HS4 c0 f0
  generalize World.setCell w4 _ _ = w5 at *
  refine (H0.out _ _ HS5.out.below HS5.out.line).mono ?_
  rintro x w6 ⟨rfl, hq⟩
  have HS6 := Lib.hid (HS5.out.later hq)
  clear HS5 hq H0
  go_wp2_with fail
  refine (H1.out _ _ HS6.out.below HS6.out.line).mono ?_
  rintro x w7 ⟨rfl, hq⟩
  have HS7 := Lib.hid (HS6.out.later hq)
  clear HS6 hq H1
  go_wp2_with fail
  refine (H2.out _ _ HS7.out.below HS7.out.line).mono ?_
  rintro x w8 ⟨rfl, hq⟩
  have HS8 := Lib.hid (HS7.out.later hq)
  clear HS7 hq H2
  go_wp2_with fail
  refine (H3.out _ _ HS8.out.below HS8.out.line).mono ?_
  rintro x w9 ⟨rfl, hq⟩
  have HS9 := Lib.hid (HS8.out.later hq)
  clear HS8 hq H3
  have c1 := HS9.out.arr.1 1 (by decide)
  have c2 := HS9.out.arr.1 2 (by decide)
  have c3 := HS9.out.arr.1 3 (by decide)
  have c4 := HS9.out.arr.1 4 (by decide)
  have f1 := HS9.out.arr.2 1
  have f2 := HS9.out.arr.2 2
  have f3 := HS9.out.arr.2 3
  have f4 := HS9.out.arr.2 4
  obtain ⟨l0, l1, l2, l3, l4⟩ := lineAt_ld HS9.out.line
  have hlt1 : w.heap.size < B := by have := HS9.out.lt; omega
  go_wp2_with fail
  have HS10 := Lib.hid ((((HS9.out.updG 1 (by decide) (.int .u64 M0)).updG 2 (by decide) (.int .u64 M1)).updG 4 (by decide) (.int .u64 M2)).updG 3 (by decide) (.int .u64 M3))
  clear HS9 c1 c2 c3 c4 f1 f2 f3 f4 l0 l1 l2 l3 l4
  generalize World.setCell (World.setCell (World.setCell (World.setCell w9 _ _) _ _) _ _) _ _ = w10 at *
  refine (HW.out _ HS10.out.below).mono ?_
  rintro x w11 ⟨rfl, hq⟩
  have HS11 := Lib.hid (HS10.out.later hq)
  clear HS10 hq HW
  have c6 := HS11.out.arr.1 6 (by decide)
  have f6 := HS11.out.arr.2 6
  obtain ⟨l0, l1, l2, l3, l4⟩ := lineAt_ld HS11.out.line
  go_wp2_with fail
  have HS12 := Lib.hid (HS11.out.updG 6 (by decide) (.int .u64 M4))
  clear HS11 c6 f6 l0 l1 l2 l3 l4
  generalize World.setCell w11 _ _ = w12 at *
  refine (HE.out _ HS12.out.below).mono ?_
  rintro x w13 ⟨rfl, hq⟩
  have HS13 := Lib.hid (HS12.out.later hq)
  clear HS12 hq HE
  have c7 := HS13.out.arr.1 7 (by decide)
  have f7 := HS13.out.arr.2 7
  have HS14 := Lib.hid (HS13.out.updG 7 (by decide) (.bool E))
  clear HS13
  have HZ14 : Hid (∀ j v, zs[j]? = some v → (w13.setCell ⟨B, 7, none⟩ (.bool E)).cell? ⟨B, 0 + j, none⟩ = some v) := fun j v hj => by
    have hl : j < 30 := by rw [← HS30.out]; exact (Array.getElem?_eq_some_iff.1 hj).1
    rw [Nat.zero_add, HS14.out.arr.1 j hl, HG.out j hl, Array.getD_eq_getD_getElem?, hj]
    rfl
  have HT14 : Hid ((w13.setCell ⟨B, 7, none⟩ (.bool E)).there (w.heap.size + 1) 0 zs.size) := by show World.there _ _ _ _; rw [HS30.out]; exact HS14.out.out
  have HB14 := Lib.hid HS14.out.below
  clear HG HS14
  go_wp2_with (first
    | (refine wp_load_arr (by rfl) 37 _ rfl zs B 0 rfl Tryz.underlying37 rfl HI2.out HZ14.out ?_)
    | (refine wp_store_at (w := w) rfl 37 _ _ rfl zs (w.heap.size + 1) (by omega) rfl rfl Tryz.underlying37 rfl HI2.out HC2.out HB14.out HT14.out ?_; intro W' hLd hbE))
  (try simp only [Exit.inBlock, Exit.then])
  refine bodyPost_ret (v := .tuple #[.agg zs, .int .i64 0]) ?_ rfl ⟨rfl, hbE⟩
  rw [results_cell_b rfl]
  show ((loadVar 37 ⟨w.heap.size + 1, 0, none⟩).run Tryz.prog W').andThen (fun v w₂ => Result.ok (Value.tuple #[v, Value.int .i64 0]) w₂) = _
  rw [hLd.out]
  rfl
end Go.Proofs.YtochhmkdhdadhaaGreatDoor
