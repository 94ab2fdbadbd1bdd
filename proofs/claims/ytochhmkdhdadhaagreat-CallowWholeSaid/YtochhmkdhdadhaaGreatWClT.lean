/- The walks of clause.Days, Day. -/
import Derived.Test.YtochhmkdhdadhaaGreatWClP
import Derived.Test.YtochhmkdhdadhaaGreatWMoB
import Derived.Test.YtochhmkdhdadhaaGreatWClF
import Derived.Test.YtochhmkdhdadhaaGreatWClL
/- Towards the walk of clause.May. -/
namespace Go.Proofs.YtochhmkdhdadhaaGreat
open Go.RowKit
set_option linter.unusedSimpArgs false
set_option linter.unusedVariables false

theorem rdPrs7 (w : World) (t : TypeId) (p0 q0 p1 q1 p2 q2 p3 q3 p4 q4 p5 q5 p6 q6 : Int) : RdPrs (w.alloc (.cells #[.int .u64 p0, .int .u64 q0, .int .u64 p1, .int .u64 q1, .int .u64 p2, .int .u64 q2, .int .u64 p3, .int .u64 q3, .int .u64 p4, .int .u64 q4, .int .u64 p5, .int .u64 q5, .int .u64 p6, .int .u64 q6] t)) (some ⟨w.heap.size, 0, none⟩) 7 [(p0, q0), (p1, q1), (p2, q2), (p3, q3), (p4, q4), (p5, q5), (p6, q6)] :=
  ⟨rfl, fun _ => ⟨w.heap.size, 0, rfl, by simp, fun i x hx j v hj => by
    have hi : i < 7 := (List.getElem?_eq_some_iff.1 hx).1
    have hj2 : j < 2 := (List.getElem?_eq_some_iff.1 hj).1
    obtain rfl | rfl : j = 0 ∨ j = 1 := by omega
    all_goals
      obtain rfl | rfl | rfl | rfl | rfl | rfl | rfl : i = 0 ∨ i = 1 ∨ i = 2 ∨ i = 3 ∨ i = 4 ∨ i = 5 ∨ i = 6 := by omega
      all_goals (cases hx; cases hj; exact cell_new rfl rfl)⟩⟩
def gC (c : Cl) (j : Nat) : Value := (clA c).getD j undef
theorem gC_new (w : World) (c : Cl) (t : TypeId) : Arr (w.alloc (.cells (clA c) t)) w.heap.size 30 (gC c) :=
  arr_new w (clA c) t (gC c) (fun j hj => by unfold gC; rw [Array.getElem?_eq_getElem hj, Array.getD_eq_getD_getElem?, Array.getElem?_eq_getElem hj]; rfl)
end Go.Proofs.YtochhmkdhdadhaaGreat

/- The walk of clause.May. -/
namespace Go.Proofs.YtochhmkdhdadhaaGreat
open Go.RowKit
set_option linter.unusedSimpArgs false
set_option linter.unusedVariables false

def prsC (c F : Cl) : List (Int × Int) := [(c.m 0, F.m 0), (c.m 1, F.m 1), (c.m 2, F.m 2), (c.m 3, F.m 3), (c.m 4, F.m 4), (c.m 5, F.m 5), (c.m 6, F.m 6)]
/-- May a clause be? -/
def mayG (c F : Cl) : Bool := (prsC c F).all noMore && (ordC c && (eqW (andW c.y) c.y && (!(unT c.u).isEmpty && (decide (1 ≤ c.s) && inC c.a))))
theorem size_setC (b : Nat) : ∀ (vs : List Value) (o : Nat) (w : World), (w.setCells b o vs).heap.size = w.heap.size
  | [], _, _ => rfl
  | v :: vs, o, w => by rw [World.setCells, size_setC b vs (o + 1) _]; simp
theorem wp_store_cells {ops : Array Oper} {rest : List Oper} {op : Oper} {a : Act} {Q : Exit → Act → World → Prop} {W : World} (hgd : op.guard = none) (t : TypeId) (x y : Operand) (ho : op.op = .store t x y) (cs : Array Value) (b : Nat) (B : Nat) (w0 : World) (hB : B ≤ b)
    (hx : a.eval x = .pointer (some ⟨b, 0, none⟩)) (hy : a.eval y = .agg cs) (hi : (Tryz.prog.info? t).map (·.size) = some cs.size) (h1 : cs.all (·.oneCell') = true)
    (hb : Below B w0 W) (ht : W.there b 0 cs.size)
    (h : ∀ W', Below B w0 W' → (∀ j v, cs[j]? = some v → W'.cell? ⟨b, j, none⟩ = some v) → W'.heap.size = W.heap.size → wpList Tryz.prog ops Q rest (a.put op.dst undef) W') : wpList Tryz.prog ops Q (op :: rest) a W := by
  refine wpList_store_mid (P := Tryz.prog) hgd t x y ho b 0 cs hx hy ht hi h1 (h _ (below_setCells hB _ _ _ hb) (fun j v hv => ?_) (size_setC _ _ _ _))
  have := World.rangeAt_setCells_same W b 0 cs.toList (by simpa using ht) j v (by simpa using hv)
  rwa [Nat.zero_add] at this
set_option maxRecDepth 20000 in
set_option maxHeartbeats 8000000 in
theorem clmay_gen (c F : Cl) (hF : ∀ W, Calls Tryz.prog 16 #[] W (Ret (.agg (clA F)) W)) (w : World) : Calls Tryz.prog 12 #[.agg (clA c)] w (Ret (.bool (mayG c F)) w) := by
  have HF := Lib.hid hF
  clear hF
  have HWi := Lib.hid (fun A W (h : RdPrs W A 7 (prsC c F)) => cwithin_any A 7 7 (prsC c F) W h (by decide))
  have HO := Lib.hid (fun W => ordinal_c c W)
  have HY := Lib.hid (fun W => wmayW_any c.y W)
  have HN := Lib.hid (fun W => uname_any c.u W)
  have HI := Lib.hid (fun W => in_any c.a W)
  have hP : ∀ (W : World), RdPrs (W.alloc (.cells #[.int .u64 (c.m 0), .int .u64 (F.m 0), .int .u64 (c.m 1), .int .u64 (F.m 1), .int .u64 (c.m 2), .int .u64 (F.m 2), .int .u64 (c.m 3), .int .u64 (F.m 3), .int .u64 (c.m 4), .int .u64 (F.m 4), .int .u64 (c.m 5), .int .u64 (F.m 5), .int .u64 (c.m 6), .int .u64 (F.m 6)] 66)) (some ⟨W.heap.size, 0, none⟩) 7 (prsC c F) := fun W => rdPrs7 W _ _ _ _ _ _ _ _ _ _ _ _ _ _ _
  have HP := Lib.hid hP
  have hM : Hid (mayG c F = ((prsC c F).all noMore && (ordC c && (eqW (andW c.y) c.y && (!(unT c.u).isEmpty && (decide (1 ≤ c.s) && inC c.a)))))) := rfl
  rw [hM.out]
  clear hM hP
  generalize (prsC c F).all noMore = B1 at *
  generalize prsC c F = L at *
  generalize ordC c = B2 at *
  generalize eqW (andW c.y) c.y = B3 at *
  generalize inC c.a = B6 at *
  have HC0 := Lib.hid (gC_new w c 37)
  have f0 : (clA F)[0]? = some (.int .u64 (F.m 0)) := rfl
  have f1 : (clA F)[1]? = some (.int .u64 (F.m 1)) := rfl
  have f2 : (clA F)[2]? = some (.int .u64 (F.m 2)) := rfl
  have f3 : (clA F)[3]? = some (.int .u64 (F.m 3)) := rfl
  have f4 : (clA F)[4]? = some (.int .u64 (F.m 4)) := rfl
  have f5 : (clA F)[5]? = some (.int .u64 (F.m 5)) := rfl
  have f6 : (clA F)[6]? = some (.int .u64 (F.m 6)) := rfl
  have fs : (clA F).size = 30 := rfl
  have fa : (clA F).all (·.oneCell') = true := by kernel_rfl
  generalize clA F = cs at *
  have Hf : Hid (cs[0]? = some (.int .u64 (F.m 0)) ∧ cs[1]? = some (.int .u64 (F.m 1)) ∧ cs[2]? = some (.int .u64 (F.m 2)) ∧ cs[3]? = some (.int .u64 (F.m 3)) ∧ cs[4]? = some (.int .u64 (F.m 4)) ∧ cs[5]? = some (.int .u64 (F.m 5)) ∧ cs[6]? = some (.int .u64 (F.m 6)) ∧ cs.size = 30 ∧ cs.all (·.oneCell') = true) := ⟨f0, f1, f2, f3, f4, f5, f6, fs, fa⟩
  clear f0 f1 f2 f3 f4 f5 f6 fs fa
  unfold clA wdV ordA at *
  go_enter Tryz.func12, Tryz.ntmps12
  go_wp2_with fail
  generalize hV : World.alloc w _ = V at *
  have hbV : Below w.heap.size w V := by rw [← hV]; exact (Below.refl _ _).alloc (Nat.le_refl _) _
  clear hV
  generalize Value.agg #[.int .u64 (c.m 0), .int .u64 (c.m 1), .int .u64 (c.m 2), .int .u64 (c.m 3), .int .u64 (c.m 4), .int .u64 (c.m 5), .int .u64 (c.m 6), .bool c.or, .int .i64 c.oi, .bool c.ob, .int .u64 (c.od 0), .int .u64 (c.od 1), .int .u64 (c.od 2), .int .u64 (c.od 3), .int .u64 (c.od 4), .int .u64 (c.od 5), .int .u64 (c.od 6), .int .u64 (c.od 7), .int .u64 (c.y 0), .int .u64 (c.y 1), .int .u64 (c.y 2), .int .u64 (c.y 3), .int .u64 (c.y 4), .int .u64 (c.y 5), .int .u64 (c.y 6), .int .i64 c.u, .int .i64 c.s, .int .i64 c.a, .int .i64 c.f, .int .i64 c.t] = va
  refine (HF.out _).mono ?_
  rintro e w1 ⟨rfl, hb1⟩
  have HC := Lib.hid (Arr.below HC0.out (Arr.lt HC0.out (by decide)) hb1)
  have hb := bthen hbV hb1 hbV.size
  clear hb1 hbV HF HC0
  have m0 : w1.cell? ⟨w.heap.size, 0, none⟩ = some (.int .u64 (c.m 0)) := HC.out.1 0 (by decide)
  have m1 : w1.cell? ⟨w.heap.size, 1, none⟩ = some (.int .u64 (c.m 1)) := HC.out.1 1 (by decide)
  have m2 : w1.cell? ⟨w.heap.size, 2, none⟩ = some (.int .u64 (c.m 2)) := HC.out.1 2 (by decide)
  have m3 : w1.cell? ⟨w.heap.size, 3, none⟩ = some (.int .u64 (c.m 3)) := HC.out.1 3 (by decide)
  have m4 : w1.cell? ⟨w.heap.size, 4, none⟩ = some (.int .u64 (c.m 4)) := HC.out.1 4 (by decide)
  have m5 : w1.cell? ⟨w.heap.size, 5, none⟩ = some (.int .u64 (c.m 5)) := HC.out.1 5 (by decide)
  have m6 : w1.cell? ⟨w.heap.size, 6, none⟩ = some (.int .u64 (c.m 6)) := HC.out.1 6 (by decide)
  have z1 : w.heap.size < w1.heap.size := Arr.lt HC.out (by decide)
  have hT := there_new w1 #[.int .u64 0, .int .u64 0, .int .u64 0, .int .u64 0, .int .u64 0, .int .u64 0, .int .u64 0, .bool false, .int .i64 0, .bool false, .int .u64 0, .int .u64 0, .int .u64 0, .int .u64 0, .int .u64 0, .int .u64 0, .int .u64 0, .int .u64 0, .int .u64 0, .int .u64 0, .int .u64 0, .int .u64 0, .int .u64 0, .int .u64 0, .int .u64 0, .int .i64 0, .int .i64 0, .int .i64 0, .int .i64 0, .int .i64 0] 37
  have hbA := (Below.refl w1.heap.size w1).alloc (Nat.le_refl _) (.cells #[.int .u64 0, .int .u64 0, .int .u64 0, .int .u64 0, .int .u64 0, .int .u64 0, .int .u64 0, .bool false, .int .i64 0, .bool false, .int .u64 0, .int .u64 0, .int .u64 0, .int .u64 0, .int .u64 0, .int .u64 0, .int .u64 0, .int .u64 0, .int .u64 0, .int .u64 0, .int .u64 0, .int .u64 0, .int .u64 0, .int .u64 0, .int .u64 0, .int .i64 0, .int .i64 0, .int .i64 0, .int .i64 0, .int .i64 0] 37)
  go_wp2_with (refine wp_store_cells rfl 37 _ _ rfl cs w1.heap.size w1.heap.size w1 (Nat.le_refl _) rfl rfl (by rw [Hf.out.2.2.2.2.2.2.2.1]; kernel_rfl) Hf.out.2.2.2.2.2.2.2.2 hbA (by rw [Hf.out.2.2.2.2.2.2.2.1]; exact hT) ?_; intro W' hbW hcW hsW; have n0 : W'.cell? ⟨w.heap.size, 0, none⟩ = some (.int .u64 (c.m 0)) := (hbW.cell (p := ⟨w.heap.size, 0, none⟩) z1).trans m0; have n1 : W'.cell? ⟨w.heap.size, 1, none⟩ = some (.int .u64 (c.m 1)) := (hbW.cell (p := ⟨w.heap.size, 1, none⟩) z1).trans m1; have n2 : W'.cell? ⟨w.heap.size, 2, none⟩ = some (.int .u64 (c.m 2)) := (hbW.cell (p := ⟨w.heap.size, 2, none⟩) z1).trans m2; have n3 : W'.cell? ⟨w.heap.size, 3, none⟩ = some (.int .u64 (c.m 3)) := (hbW.cell (p := ⟨w.heap.size, 3, none⟩) z1).trans m3; have n4 : W'.cell? ⟨w.heap.size, 4, none⟩ = some (.int .u64 (c.m 4)) := (hbW.cell (p := ⟨w.heap.size, 4, none⟩) z1).trans m4; have n5 : W'.cell? ⟨w.heap.size, 5, none⟩ = some (.int .u64 (c.m 5)) := (hbW.cell (p := ⟨w.heap.size, 5, none⟩) z1).trans m5; have n6 : W'.cell? ⟨w.heap.size, 6, none⟩ = some (.int .u64 (c.m 6)) := (hbW.cell (p := ⟨w.heap.size, 6, none⟩) z1).trans m6; have g0 : W'.cell? ⟨w1.heap.size, 0, none⟩ = some (.int .u64 (F.m 0)) := hcW 0 _ Hf.out.1; have g1 : W'.cell? ⟨w1.heap.size, 1, none⟩ = some (.int .u64 (F.m 1)) := hcW 1 _ Hf.out.2.1; have g2 : W'.cell? ⟨w1.heap.size, 2, none⟩ = some (.int .u64 (F.m 2)) := hcW 2 _ Hf.out.2.2.1; have g3 : W'.cell? ⟨w1.heap.size, 3, none⟩ = some (.int .u64 (F.m 3)) := hcW 3 _ Hf.out.2.2.2.1; have g4 : W'.cell? ⟨w1.heap.size, 4, none⟩ = some (.int .u64 (F.m 4)) := hcW 4 _ Hf.out.2.2.2.2.1; have g5 : W'.cell? ⟨w1.heap.size, 5, none⟩ = some (.int .u64 (F.m 5)) := hcW 5 _ Hf.out.2.2.2.2.2.1; have g6 : W'.cell? ⟨w1.heap.size, 6, none⟩ = some (.int .u64 (F.m 6)) := hcW 6 _ Hf.out.2.2.2.2.2.2.1; clear hcW)
  have hsW' : W'.heap.size = w1.heap.size + 1 := by rw [hsW]; simp
  have hp := HP.out W'
  rw [hsW'] at hp
  have HCW := Arr.below HC.out z1 hbW
  have HCA := Arr.alloc HCW (Arr.lt HCW (by decide)) (.cells #[.int .u64 (c.m 0), .int .u64 (F.m 0), .int .u64 (c.m 1), .int .u64 (F.m 1), .int .u64 (c.m 2), .int .u64 (F.m 2), .int .u64 (c.m 3), .int .u64 (F.m 3), .int .u64 (c.m 4), .int .u64 (F.m 4), .int .u64 (c.m 5), .int .u64 (F.m 5), .int .u64 (c.m 6), .int .u64 (F.m 6)] 66)
  have hbX : Below w.heap.size w (W'.alloc (.cells #[.int .u64 (c.m 0), .int .u64 (F.m 0), .int .u64 (c.m 1), .int .u64 (F.m 1), .int .u64 (c.m 2), .int .u64 (F.m 2), .int .u64 (c.m 3), .int .u64 (F.m 3), .int .u64 (c.m 4), .int .u64 (F.m 4), .int .u64 (c.m 5), .int .u64 (F.m 5), .int .u64 (c.m 6), .int .u64 (F.m 6)] 66)) := (bthen hb hbW hb.size).alloc (by omega) _
  have HC2 := Lib.hid HCA
  generalize W'.alloc (.cells #[.int .u64 (c.m 0), .int .u64 (F.m 0), .int .u64 (c.m 1), .int .u64 (F.m 1), .int .u64 (c.m 2), .int .u64 (F.m 2), .int .u64 (c.m 3), .int .u64 (F.m 3), .int .u64 (c.m 4), .int .u64 (F.m 4), .int .u64 (c.m 5), .int .u64 (F.m 5), .int .u64 (c.m 6), .int .u64 (F.m 6)] 66) = WA at *
  have hp' := Lib.hid hp
  clear hp HP HCW HCA n0 n1 n2 n3 n4 n5 n6 g0 g1 g2 g3 g4 g5 g6 m0 m1 m2 m3 m4 m5 m6 hsW hsW' hbW HC hb z1 hT hbA
  refine (HWi.out _ _ hp'.out).mono ?_
  rintro e w2 ⟨rfl, hq2⟩
  replace HC2 := Lib.hid (Arr.below HC2.out (Arr.lt HC2.out (by decide)) hq2)
  replace hbX := bthen hbX hq2 hbX.size
  clear hq2
  clear HWi hp'
  cases B1 with
  | false =>
    go_wp2
    go_ret
    exact ⟨rfl, hbX⟩
  | true =>
    have o8 : w2.cell? ⟨w.heap.size, 8, none⟩ = some (.int .i64 c.oi) := HC2.out.1 8 (by decide)
    have o9 : w2.cell? ⟨w.heap.size, 9, none⟩ = some (.bool c.ob) := HC2.out.1 9 (by decide)
    have o10 : w2.cell? ⟨w.heap.size, 10, none⟩ = some (.int .u64 (c.od 0)) := HC2.out.1 10 (by decide)
    have o11 : w2.cell? ⟨w.heap.size, 11, none⟩ = some (.int .u64 (c.od 1)) := HC2.out.1 11 (by decide)
    have o12 : w2.cell? ⟨w.heap.size, 12, none⟩ = some (.int .u64 (c.od 2)) := HC2.out.1 12 (by decide)
    have o13 : w2.cell? ⟨w.heap.size, 13, none⟩ = some (.int .u64 (c.od 3)) := HC2.out.1 13 (by decide)
    have o14 : w2.cell? ⟨w.heap.size, 14, none⟩ = some (.int .u64 (c.od 4)) := HC2.out.1 14 (by decide)
    have o15 : w2.cell? ⟨w.heap.size, 15, none⟩ = some (.int .u64 (c.od 5)) := HC2.out.1 15 (by decide)
    have o16 : w2.cell? ⟨w.heap.size, 16, none⟩ = some (.int .u64 (c.od 6)) := HC2.out.1 16 (by decide)
    have o17 : w2.cell? ⟨w.heap.size, 17, none⟩ = some (.int .u64 (c.od 7)) := HC2.out.1 17 (by decide)
    go_wp2_with fail
    refine (HO.out _).mono ?_
    rintro e w3 ⟨rfl, hq3⟩
    replace HC2 := Lib.hid (Arr.below HC2.out (Arr.lt HC2.out (by decide)) hq3)
    replace hbX := bthen hbX hq3 hbX.size
    clear hq3
    clear HO o8 o9 o10 o11 o12 o13 o14 o15 o16 o17
    cases B2 with
    | false =>
      go_wp2
      go_ret
      exact ⟨rfl, hbX⟩
    | true =>
      have o18 : w3.cell? ⟨w.heap.size, 18, none⟩ = some (.int .u64 (c.y 0)) := HC2.out.1 18 (by decide)
      have o19 : w3.cell? ⟨w.heap.size, 19, none⟩ = some (.int .u64 (c.y 1)) := HC2.out.1 19 (by decide)
      have o20 : w3.cell? ⟨w.heap.size, 20, none⟩ = some (.int .u64 (c.y 2)) := HC2.out.1 20 (by decide)
      have o21 : w3.cell? ⟨w.heap.size, 21, none⟩ = some (.int .u64 (c.y 3)) := HC2.out.1 21 (by decide)
      have o22 : w3.cell? ⟨w.heap.size, 22, none⟩ = some (.int .u64 (c.y 4)) := HC2.out.1 22 (by decide)
      have o23 : w3.cell? ⟨w.heap.size, 23, none⟩ = some (.int .u64 (c.y 5)) := HC2.out.1 23 (by decide)
      have o24 : w3.cell? ⟨w.heap.size, 24, none⟩ = some (.int .u64 (c.y 6)) := HC2.out.1 24 (by decide)
      go_wp2_with fail
      refine (HY.out _).mono ?_
      rintro e w4 ⟨rfl, hq4⟩
      replace HC2 := Lib.hid (Arr.below HC2.out (Arr.lt HC2.out (by decide)) hq4)
      replace hbX := bthen hbX hq4 hbX.size
      clear hq4
      clear HY o18 o19 o20 o21 o22 o23 o24
      cases B3 with
      | false =>
        go_wp2
        go_ret
        exact ⟨rfl, hbX⟩
      | true =>
        have o25 : w4.cell? ⟨w.heap.size, 25, none⟩ = some (.int .i64 c.u) := HC2.out.1 25 (by decide)
        go_wp2_with fail
        refine (HN.out _).mono ?_
        rintro e w5 ⟨rfl, hq5⟩
        replace HC2 := Lib.hid (Arr.below HC2.out (Arr.lt HC2.out (by decide)) hq5)
        replace hbX := bthen hbX hq5 hbX.size
        clear hq5
        clear HN o25
        have hE : (strB (unT c.u)).toList.isEmpty = (unT c.u).isEmpty := by rw [ByteArray.toList_eq, strB_data]
        generalize (unT c.u).isEmpty = B4 at *
        generalize strB (unT c.u) = nm at *
        cases B4 with
        | true =>
          go_wp2
          go_ret
          exact ⟨rfl, hbX⟩
        | false =>
          have o26 : w5.cell? ⟨w.heap.size, 26, none⟩ = some (.int .i64 c.s) := HC2.out.1 26 (by decide)
          have o27 : w5.cell? ⟨w.heap.size, 27, none⟩ = some (.int .i64 c.a) := HC2.out.1 27 (by decide)
          by_cases hs : 1 ≤ c.s
          · rw [decide_eq_true hs]
            go_wp2_with fail
            refine (HI.out _).mono ?_
            rintro e w6 ⟨rfl, rfl⟩
            go_wp2
            go_ret
            exact ⟨ret_bool (by simp [hs]), hbX⟩
          · rw [decide_eq_false hs]
            go_wp2
            go_ret
            exact ⟨ret_bool (by simp; omega), hbX⟩
theorem clmay_any (c : Cl) (w : World) : Calls Tryz.prog 12 #[.agg (clA c)] w (Ret (.bool (mayG c fullC)) w) := clmay_gen c fullC cfull_any w
end Go.Proofs.YtochhmkdhdadhaaGreat

/- The walks of clause.Days: the closures. -/
namespace Go.Proofs.YtochhmkdhdadhaaGreat
open Go.RowKit
set_option linter.unusedSimpArgs false
set_option linter.unusedVariables false

theorem cdays1_any (w : World) : PredSh 133 #[] (fun _ => false) w := by
  intro W _ n _ _
  have hV : ∃ g : Nat → Int, shV n = .agg #[.int .i64 (g 0), .int .i64 (g 1), .int .i64 (g 2), .int .i64 (g 3), .int .i64 (g 4), .int .i64 (g 5), .int .i64 (g 6), .int .i64 (g 7), .int .i64 (g 8), .int .i64 (g 9)] := ⟨_, rfl⟩
  obtain ⟨g, hg⟩ := hV
  rw [hg]
  clear hg
  go_enter Tryz.func133, Tryz.ntmps133
  go_wp2
  go_ret
  exact ⟨rfl, by (repeat' (first | (with_reducible exact Below.refl _ _) | (with_reducible assumption) | (with_reducible refine below_drewN ?_ _) | (with_reducible refine Below.alloc ?_ ?_ _) | (with_reducible refine Below.drew ?_) | (with_reducible refine Below.setCell ?_ ?_ _) | go_size))⟩
end Go.Proofs.YtochhmkdhdadhaaGreat

namespace Go.Proofs.YtochhmkdhdadhaaGreat
open Go.RowKit
set_option linter.unusedSimpArgs false
set_option linter.unusedVariables false

def BitsC (c : Cl) : Prop := (∀ k, k < 7 → M64 (c.m k)) ∧ (∀ k, k < 8 → M64 (c.od k)) ∧ ∀ k, k < 7 → M64 (c.y k)
/-- Has a clause a day, where p tells whether the day is on a step? -/
def dayP (c : Cl) (p : Int → Bool) (n : Int) : Bool :=
  ((hasM (c.m 4) (shN n (yD n) (mD n) (dD n) 3) && hasM (c.m 6) (shN n (yD n) (mD n) (dD n) 5)) || (c.or && (hasM (c.m 4) (shN n (yD n) (mD n) (dD n) 3) || hasM (c.m 6) (shN n (yD n) (mD n) (dD n) 5)))) &&
  (hasM (c.m 3) (shN n (yD n) (mD n) (dD n) 2) && (hasM (c.m 5) (shN n (yD n) (mD n) (dD n) 4) && (hasW c.y (shN n (yD n) (mD n) (dD n) 1 - 1970) && (nthC c n && p n))))
theorem keepc {w W : World} {b o : Nat} {v : Value} (hB : Below w.heap.size w W) (h : w.cell? ⟨b, o, none⟩ = some v) : W.cell? ⟨b, o, none⟩ = some v := (⟨W, hB⟩ : Ext w).cell h
theorem retQ_B {P : Program} {f : FuncId} {args : Array Value} {w : World} {v : Value} (h : Calls P f args w (RetQ v w)) : Calls P f args w (Ret v w) := h.mono fun _ _ h => h.toB
set_option maxRecDepth 20000 in
set_option maxHeartbeats 8000000 in
theorem cdays2_any (c : Cl) (hc : BitsC c) (bc bo : Nat) (g : Nat) (lb : Array Value) (p : Int → Bool) (w : World) (HC0 : Arr w bc 30 (gC c)) (co : w.cell? ⟨bo, 0, none⟩ = some (.func (.func g) #[] lb))
    (eg : ∀ args w, (callFunc g args).run Tryz.prog w = .ok (.enter g args) w) (hp : PredSh g lb p w) : PredSh 135 #[.pointer (some ⟨bc, 0, none⟩), .pointer (some ⟨bo, 0, none⟩)] (dayP c p) w := by
  intro W hW n h0 h1
  obtain ⟨_, _, _, _, y0, y1⟩ := date_in h0 h1
  have hbc := Arr.lt HC0 (by decide)
  have HA := Lib.hid (Arr.below HC0 hbc hW)
  have ho := keepc hW co
  have HP := Lib.hid (fun V (hV : Below W.heap.size W V) => hp V (hW.trans (hV.mono hW.size)) n h0 h1)
  have H4 := Lib.hid (fun V => retQ_B (mhas_any (c.m 4) (shN n (yD n) (mD n) (dD n) 3) (hc.1 4 (by decide)).1 (hc.1 4 (by decide)).2 V))
  have H6 := Lib.hid (fun V => retQ_B (mhas_any (c.m 6) (shN n (yD n) (mD n) (dD n) 5) (hc.1 6 (by decide)).1 (hc.1 6 (by decide)).2 V))
  have H3 := Lib.hid (fun V => retQ_B (mhas_any (c.m 3) (shN n (yD n) (mD n) (dD n) 2) (hc.1 3 (by decide)).1 (hc.1 3 (by decide)).2 V))
  have H5 := Lib.hid (fun V => retQ_B (mhas_any (c.m 5) (shN n (yD n) (mD n) (dD n) 4) (hc.1 5 (by decide)).1 (hc.1 5 (by decide)).2 V))
  have HY := Lib.hid (fun V => whasW_any c.y hc.2.2 (shN n (yD n) (mD n) (dD n) 1 - 1970) V)
  have HN := Lib.hid (fun V => nth_any c n hc.2.1 V)
  have hV : shV n = .agg #[.int .i64 (shN n (yD n) (mD n) (dD n) 0), .int .i64 (shN n (yD n) (mD n) (dD n) 1), .int .i64 (shN n (yD n) (mD n) (dD n) 2), .int .i64 (shN n (yD n) (mD n) (dD n) 3), .int .i64 (shN n (yD n) (mD n) (dD n) 4), .int .i64 (shN n (yD n) (mD n) (dD n) 5), .int .i64 (shN n (yD n) (mD n) (dD n) 6), .int .i64 (shN n (yD n) (mD n) (dD n) 7), .int .i64 (shN n (yD n) (mD n) (dD n) 8), .int .i64 (shN n (yD n) (mD n) (dD n) 9)] := rfl
  have e1 : shN n (yD n) (mD n) (dD n) 1 = yD n := rfl
  rw [← e1] at y0 y1
  unfold dayP
  rw [hV] at HP HN ⊢
  clear hV e1 hp hW co HC0 hbc hc
  generalize shN n (yD n) (mD n) (dD n) = G at *
  generalize hasM (c.m 4) (G 3) = D at *
  generalize hasM (c.m 6) (G 5) = K at *
  generalize hasM (c.m 3) (G 2) = B3 at *
  generalize hasM (c.m 5) (G 4) = B5 at *
  generalize hasW c.y (G 1 - 1970) = BY at *
  generalize nthC c n = BN at *
  generalize p n = BP at *
  unfold wdV ordA at *
  clear h0 h1
  have HG := Lib.hid eg
  clear eg
  go_enter Tryz.func135, Tryz.ntmps135
  go_wp2_with fail
  generalize hW1 : World.alloc W _ = W1
  have hb1 : Below W.heap.size W W1 := by rw [← hW1]; exact (Below.refl _ _).alloc (Nat.le_refl _) _
  have HA1 := Lib.hid (Arr.below HA.out (Arr.lt HA.out (by decide)) hb1)
  have ho1 := keepc hb1 ho
  have HS1 : Hid (Arr W1 W.heap.size 10 (fun j => .int .i64 (G j))) := by
    show Arr _ _ _ _
    rw [← hW1]
    refine arr_new W #[.int .i64 (G 0), .int .i64 (G 1), .int .i64 (G 2), .int .i64 (G 3), .int .i64 (G 4), .int .i64 (G 5), .int .i64 (G 6), .int .i64 (G 7), .int .i64 (G 8), .int .i64 (G 9)] _ _ (fun j hj => ?_)
    have hj' : j < 10 := hj
    obtain rfl | rfl | rfl | rfl | rfl | rfl | rfl | rfl | rfl | rfl : j = 0 ∨ j = 1 ∨ j = 2 ∨ j = 3 ∨ j = 4 ∨ j = 5 ∨ j = 6 ∨ j = 7 ∨ j = 8 ∨ j = 9 := by omega
    all_goals rfl
  clear hW1 HA ho
  have f4 : ∀ y : Ext W1, y.W.cell? ⟨bc, 4, none⟩ = some (.int .u64 (c.m 4)) := fun y => y.cell (HA1.out.1 4 (by decide))
  have f6 : ∀ y : Ext W1, y.W.cell? ⟨bc, 6, none⟩ = some (.int .u64 (c.m 6)) := fun y => y.cell (HA1.out.1 6 (by decide))
  have s3 : ∀ y : Ext W1, y.W.cell? ⟨W.heap.size, 3, none⟩ = some (.int .i64 (G 3)) := fun y => y.cell (HS1.out.1 3 (by decide))
  have s5 : ∀ y : Ext W1, y.W.cell? ⟨W.heap.size, 5, none⟩ = some (.int .i64 (G 5)) := fun y => y.cell (HS1.out.1 5 (by decide))
  refine wp_region_grew (by kernel_rfl) (by kernel_rfl) ?_
  repeat (first | go_big_quiet_skip | (go_big_quiet_want; go_big_quiet_op; (first | go_big_quiet_on | go_big_quiet_call ((with_reducible first | exact ext_call _ (H4.out _) | exact ext_call _ (H6.out _))))))
  refine wpQuiet_nil ?_
  rintro _ ⟨xw, rfl⟩
  have hq2 : Below W1.heap.size W1 xw.W := Ext.h xw
  clear f4 f6 s3 s5 H4 H6
  generalize xw.W = W2 at *
  have hb2 := bthen hb1 hq2 hb1.size
  have HA2 := Lib.hid (Arr.below HA1.out (Arr.lt HA1.out (by decide)) hq2)
  have HS2 := Lib.hid (Arr.below HS1.out (Arr.lt HS1.out (by decide)) hq2)
  have ho2 := keepc hq2 ho1
  clear HA1 HS1 ho1 hq2 hb1 xw
  have f7 : W2.cell? ⟨bc, 7, none⟩ = some (.bool c.or) := HA2.out.1 7 (by decide)
  have f3 : W2.cell? ⟨bc, 3, none⟩ = some (.int .u64 (c.m 3)) := HA2.out.1 3 (by decide)
  have s2 : W2.cell? ⟨W.heap.size, 2, none⟩ = some (.int .i64 (G 2)) := HS2.out.1 2 (by decide)
  generalize c.or = O at *
  cases D <;> cases K <;> cases O
  case false.false.false => go_wp2; go_ret; exact ⟨rfl, hb2⟩
  case false.false.true => go_wp2; go_ret; exact ⟨rfl, hb2⟩
  case false.true.false => go_wp2; go_ret; exact ⟨rfl, hb2⟩
  case true.false.false => go_wp2; go_ret; exact ⟨rfl, hb2⟩
  all_goals (
    go_wp2_with fail
    refine (H3.out _).mono ?_
    rintro e w3 ⟨rfl, hq3⟩
    have hb3 := bthen hb2 hq3 hb2.size
    have HA3 := Lib.hid (Arr.below HA2.out (Arr.lt HA2.out (by decide)) hq3)
    have HS3 := Lib.hid (Arr.below HS2.out (Arr.lt HS2.out (by decide)) hq3)
    have ho3 := Lib.hid (keepc hq3 ho2)
    clear f3 s2 f7 ho2 hq3 HA2 HS2 H3 hb2
    cases B3 with
    | false =>
      go_wp2
      go_ret
      exact ⟨rfl, hb3⟩
    | true =>
      have f5 : w3.cell? ⟨bc, 5, none⟩ = some (.int .u64 (c.m 5)) := HA3.out.1 5 (by decide)
      have s4 : w3.cell? ⟨W.heap.size, 4, none⟩ = some (.int .i64 (G 4)) := HS3.out.1 4 (by decide)
      go_wp2_with fail
      refine (H5.out _).mono ?_
      rintro e w4 ⟨rfl, hq4⟩
      have hb4 := bthen hb3 hq4 hb3.size
      have HA4 := Lib.hid (Arr.below HA3.out (Arr.lt HA3.out (by decide)) hq4)
      have HS4 := Lib.hid (Arr.below HS3.out (Arr.lt HS3.out (by decide)) hq4)
      have ho4 := Lib.hid (keepc hq4 ho3.out)
      clear f5 s4 hq4 HA3 HS3 H5 hb3 ho3
      cases B5 with
      | false =>
        go_wp2
        go_ret
        exact ⟨rfl, hb4⟩
      | true =>
        have f18 : w4.cell? ⟨bc, 18, none⟩ = some (.int .u64 (c.y 0)) := HA4.out.1 18 (by decide)
        have f19 : w4.cell? ⟨bc, 19, none⟩ = some (.int .u64 (c.y 1)) := HA4.out.1 19 (by decide)
        have f20 : w4.cell? ⟨bc, 20, none⟩ = some (.int .u64 (c.y 2)) := HA4.out.1 20 (by decide)
        have f21 : w4.cell? ⟨bc, 21, none⟩ = some (.int .u64 (c.y 3)) := HA4.out.1 21 (by decide)
        have f22 : w4.cell? ⟨bc, 22, none⟩ = some (.int .u64 (c.y 4)) := HA4.out.1 22 (by decide)
        have f23 : w4.cell? ⟨bc, 23, none⟩ = some (.int .u64 (c.y 5)) := HA4.out.1 23 (by decide)
        have f24 : w4.cell? ⟨bc, 24, none⟩ = some (.int .u64 (c.y 6)) := HA4.out.1 24 (by decide)
        have s1 : w4.cell? ⟨W.heap.size, 1, none⟩ = some (.int .i64 (G 1)) := HS4.out.1 1 (by decide)
        go_wp2_with fail
        refine (HY.out _).mono ?_
        rintro e w5 ⟨rfl, hq5⟩
        have hb5 := bthen hb4 hq5 hb4.size
        have HA5 := Lib.hid (Arr.below HA4.out (Arr.lt HA4.out (by decide)) hq5)
        have HS5 := Lib.hid (Arr.below HS4.out (Arr.lt HS4.out (by decide)) hq5)
        have ho5 := Lib.hid (keepc hq5 ho4.out)
        clear f18 f19 f20 f21 f22 f23 f24 s1 hq5 HA4 HS4 HY hb4 ho4
        cases BY with
        | false =>
          go_wp2
          go_ret
          exact ⟨rfl, hb5⟩
        | true =>
          have f8 : w5.cell? ⟨bc, 8, none⟩ = some (.int .i64 c.oi) := HA5.out.1 8 (by decide)
          have f9 : w5.cell? ⟨bc, 9, none⟩ = some (.bool c.ob) := HA5.out.1 9 (by decide)
          have f10 : w5.cell? ⟨bc, 10, none⟩ = some (.int .u64 (c.od 0)) := HA5.out.1 10 (by decide)
          have f11 : w5.cell? ⟨bc, 11, none⟩ = some (.int .u64 (c.od 1)) := HA5.out.1 11 (by decide)
          have f12 : w5.cell? ⟨bc, 12, none⟩ = some (.int .u64 (c.od 2)) := HA5.out.1 12 (by decide)
          have f13 : w5.cell? ⟨bc, 13, none⟩ = some (.int .u64 (c.od 3)) := HA5.out.1 13 (by decide)
          have f14 : w5.cell? ⟨bc, 14, none⟩ = some (.int .u64 (c.od 4)) := HA5.out.1 14 (by decide)
          have f15 : w5.cell? ⟨bc, 15, none⟩ = some (.int .u64 (c.od 5)) := HA5.out.1 15 (by decide)
          have f16 : w5.cell? ⟨bc, 16, none⟩ = some (.int .u64 (c.od 6)) := HA5.out.1 16 (by decide)
          have f17 : w5.cell? ⟨bc, 17, none⟩ = some (.int .u64 (c.od 7)) := HA5.out.1 17 (by decide)
          have s0 : w5.cell? ⟨W.heap.size, 0, none⟩ = some (.int .i64 (G 0)) := HS5.out.1 0 (by decide)
          have s1 : w5.cell? ⟨W.heap.size, 1, none⟩ = some (.int .i64 (G 1)) := HS5.out.1 1 (by decide)
          have s2 : w5.cell? ⟨W.heap.size, 2, none⟩ = some (.int .i64 (G 2)) := HS5.out.1 2 (by decide)
          have s3 : w5.cell? ⟨W.heap.size, 3, none⟩ = some (.int .i64 (G 3)) := HS5.out.1 3 (by decide)
          have s4 : w5.cell? ⟨W.heap.size, 4, none⟩ = some (.int .i64 (G 4)) := HS5.out.1 4 (by decide)
          have s5 : w5.cell? ⟨W.heap.size, 5, none⟩ = some (.int .i64 (G 5)) := HS5.out.1 5 (by decide)
          have s6 : w5.cell? ⟨W.heap.size, 6, none⟩ = some (.int .i64 (G 6)) := HS5.out.1 6 (by decide)
          have s7 : w5.cell? ⟨W.heap.size, 7, none⟩ = some (.int .i64 (G 7)) := HS5.out.1 7 (by decide)
          have s8 : w5.cell? ⟨W.heap.size, 8, none⟩ = some (.int .i64 (G 8)) := HS5.out.1 8 (by decide)
          have s9 : w5.cell? ⟨W.heap.size, 9, none⟩ = some (.int .i64 (G 9)) := HS5.out.1 9 (by decide)
          go_wp2_with fail
          refine (HN.out _).mono ?_
          rintro e w6 ⟨rfl, hq6⟩
          have hb6 := bthen hb5 hq6 hb5.size
          have HA6 := Lib.hid (Arr.below HA5.out (Arr.lt HA5.out (by decide)) hq6)
          have HS6 := Lib.hid (Arr.below HS5.out (Arr.lt HS5.out (by decide)) hq6)
          have ho6 := Lib.hid (keepc hq6 ho5.out)
          clear f8 f9 f10 f11 f12 f13 f14 f15 f16 f17 s0 s1 s2 s3 s4 s5 s6 s7 s8 s9 hq6 HA5 HS5 HN hb5 ho5
          cases BN with
          | false =>
            go_wp2
            go_ret
            exact ⟨rfl, hb6⟩
          | true =>
            have s0 : w6.cell? ⟨W.heap.size, 0, none⟩ = some (.int .i64 (G 0)) := HS6.out.1 0 (by decide)
            have s1 : w6.cell? ⟨W.heap.size, 1, none⟩ = some (.int .i64 (G 1)) := HS6.out.1 1 (by decide)
            have s2 : w6.cell? ⟨W.heap.size, 2, none⟩ = some (.int .i64 (G 2)) := HS6.out.1 2 (by decide)
            have s3 : w6.cell? ⟨W.heap.size, 3, none⟩ = some (.int .i64 (G 3)) := HS6.out.1 3 (by decide)
            have s4 : w6.cell? ⟨W.heap.size, 4, none⟩ = some (.int .i64 (G 4)) := HS6.out.1 4 (by decide)
            have s5 : w6.cell? ⟨W.heap.size, 5, none⟩ = some (.int .i64 (G 5)) := HS6.out.1 5 (by decide)
            have s6 : w6.cell? ⟨W.heap.size, 6, none⟩ = some (.int .i64 (G 6)) := HS6.out.1 6 (by decide)
            have s7 : w6.cell? ⟨W.heap.size, 7, none⟩ = some (.int .i64 (G 7)) := HS6.out.1 7 (by decide)
            have s8 : w6.cell? ⟨W.heap.size, 8, none⟩ = some (.int .i64 (G 8)) := HS6.out.1 8 (by decide)
            have s9 : w6.cell? ⟨W.heap.size, 9, none⟩ = some (.int .i64 (G 9)) := HS6.out.1 9 (by decide)
            have hoP := ho6.out
            have eg := HG.out
            have hcall := Lib.hid (HP.out w6 hb6)
            go_wp2_with (go_at_fn g; refine hcall.out.mono ?_; rintro e w7 ⟨rfl, hq7⟩)
            have hb7 := bthen hb6 hq7 hb6.size
            go_wp2
            go_ret
            exact ⟨rfl, hb7⟩)
end Go.Proofs.YtochhmkdhdadhaaGreat
