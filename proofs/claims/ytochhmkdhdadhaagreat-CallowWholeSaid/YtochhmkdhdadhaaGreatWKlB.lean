/- The walks of package callow: Clause. -/
import Derived.Test.YtochhmkdhdadhaaGreatWClAQ
import Derived.Test.YtochhmkdhdadhaaGreatWClM
import Derived.Test.YtochhmkdhdadhaaGreatWCalS
import Derived.Test.YtochhmkdhdadhaaGreatWRefVal
import Derived.Test.YtochhmkdhdadhaaGreatWWide2
/- The walks of the document's shapes of days, and of what an event means. -/
namespace Go.Proofs.YtochhmkdhdadhaaGreat
open Go.RowKit
set_option linter.unusedSimpArgs false
set_option linter.unusedVariables false

set_option maxHeartbeats 1000000 in
theorem rordinal05_any (y m d : Int) (hy0 : 0 ≤ y) (hy1 : y ≤ 10000) (hm1 : 1 ≤ m) (hm2 : m ≤ 12) (hd0 : 0 ≤ d) (hd1 : d ≤ 31) (w : World) : Calls Tryz.prog 104 #[.int .i64 y, .int .i64 m, .int .i64 d] w (RetQ (.int .i64 (cumC y m + d)) w) := by
  have HL := Lib.hid (fun (j : Int) (h1 : 1 ≤ j) (h2 : j ≤ 12) W => length05_any y j hy0 (by omega) h1 h2 W)
  have HC : Hid (∀ j : Int, 1 ≤ j → j ≤ 12 → cumC y (j + 1) = cumC y j + lenC y j) := fun j h1 h2 => cumC_succ h1 h2
  have HP : Hid (∀ j : Int, 1 ≤ j → j ≤ 12 → 28 ≤ lenC y j ∧ lenC y j ≤ 31) := fun j h1 h2 => lenC_pos h1 h2
  have HB : Hid (∀ j : Int, 1 ≤ j → j ≤ 13 → 0 ≤ cumC y j ∧ cumC y j ≤ 366) := fun j h1 h2 => by
    have e1 := cumC_mono (y := y) (a := 1) (b := j) (by omega) h1 h2
    have e2 := cumC_mono (y := y) (a := j) (b := 13) h1 h2 (by omega)
    rw [cumC_one] at e1
    rw [cumC_end] at e2
    have := lpC_01 y
    omega
  have HO : Hid (cumC y 1 = 0) := cumC_one y
  go_enter Tryz.func104, Tryz.ntmps104
  go_wp2
  go_loopw [7, 8] (fun v i wr => ∃ j x : Int, 1 ≤ j ∧ j ≤ m ∧ i = .int .i64 j ∧ v = .int .i64 (d + x) ∧ Hid (x = cumC y j) ∧ wr = w) (fun _ i _ => (m - intOf i).toNat)
  case atStart => exact ⟨1, 0, by omega, hm1, rfl, by simp, HO.out.symm, rfl⟩
  case round =>
    obtain ⟨j, x, hj1, hj2, rfl, rfl, HX, rfl⟩ := hrel
    have hx := HB.out j hj1 (by omega)
    rw [← HX.out] at hx
    obtain ⟨hx0, hx1⟩ := hx
    by_cases hlt : j < m
    · have hp := HP.out j hj1 (by omega)
      have HXN : Hid (x + lenC y j = cumC y (j + 1)) := by show _ = _; rw [HX.out]; exact (HC.out j hj1 (by omega)).symm
      have HLj := Lib.hid (fun W => HL.out j hj1 (by omega) W)
      clear HX
      generalize lenC y j = L at *
      obtain ⟨hp0, hp1⟩ := hp
      go_wp2_with fail
      refine (HLj.out _).mono ?_
      rintro e w1 ⟨rfl, rfl⟩
      go_wp2
      go_roundw
      case rel => exact ⟨j + 1, x + L, by omega, by omega, by go_num, by rw [Int.add_assoc], HXN.out, trivial⟩
      case measure => simp [intOf]; omega
    · obtain rfl : j = m := by omega
      go_wp2
      go_ret
      exact ⟨by rw [← HX.out, Int.add_comm x d]; rfl, rfl⟩
set_option maxHeartbeats 1000000 in
theorem rwhich06_any (a l : Int) (h1 : 1 ≤ a) (h2 : a ≤ l) (h3 : l ≤ 400) (w : World) : Calls Tryz.prog 103 #[.int .i64 a, .int .i64 l] w (RetQ (.tuple #[.int .i64 (in1D a l), .int .i64 (in2D a l)]) w) := by
  have HR : Hid (in1D a l = (a - 1) / 7 + 1 ∧ in2D a l = (l - a) / 7 + 1) := ⟨if_neg (by omega), if_neg (by omega)⟩
  have hx : 0 ≤ a - 1 := by omega
  have hy : 0 ≤ l - a := by omega
  have hz : ¬ a < 1 := by omega
  have hz2 : ¬ l < a := by omega
  have E1 : Int.tdiv (a - 1) 7 = (a - 1) / 7 := Int.tdiv_eq_ediv_of_nonneg hx
  have E2 : Int.tdiv (l - a) 7 = (l - a) / 7 := Int.tdiv_eq_ediv_of_nonneg hy
  have hb1 : 0 ≤ (a - 1) / 7 ∧ (a - 1) / 7 ≤ 1000000 := by omega
  have hb2 : 0 ≤ (l - a) / 7 ∧ (l - a) / 7 ≤ 1000000 := by omega
  obtain ⟨b0, b1⟩ := hb1
  obtain ⟨c0, c1⟩ := hb2
  go_enter Tryz.func103, Tryz.ntmps103
  go_wp2
  (try simp only [Exit.inBlock, Exit.then])
  refine bodyPost_ret (results_tmp2 rfl _ _ _) rfl ?_
  exact ⟨by rw [HR.out.1, HR.out.2]; rfl, rfl⟩
set_option maxRecDepth 20000 in
set_option maxHeartbeats 4000000 in
theorem rshape06_any (n : Int) (h : 0 ≤ n) (h1 : n < 146097) (w : World) : Calls Tryz.prog 69 #[.int .i64 n] w (Ret (shV n) w) := by
  obtain ⟨y0, y1, m0, m1, d0, d1, l0, l1, c0, c1⟩ := date_bds h h1
  have hp := lpC_01 (yD n)
  have hd : cumC (yD n) (mD n) + dD n ≤ 365 + lpC (yD n) := by
    have e2 := cumC_mono (y := yD n) (a := mD n + 1) (b := 13) (by omega) (by omega) (by omega)
    rw [cumC_end, cumC_succ m0 m1] at e2
    omega
  have HT0 := Lib.hid (fun W => date05_any n h h1 W)
  have HL := Lib.hid (fun W => length05_any (yD n) (mD n) y0 (by omega) m0 m1 W)
  have HY := Lib.hid (fun W => year05_any (yD n) y0 (by omega) W)
  have HO := Lib.hid (fun W => rordinal05_any (yD n) (mD n) (dD n) y0 (by omega) m0 m1 (by omega) (by omega) W)
  have HD := Lib.hid (fun W => rday06_any n h (by omega) W)
  have HW1 := Lib.hid (fun W => rwhich06_any (dD n) (lenC (yD n) (mD n)) d0 d1 (by omega) W)
  have HW2 := Lib.hid (fun W => rwhich06_any (cumC (yD n) (mD n) + dD n) (365 + lpC (yD n)) (by omega) hd (by omega) W)
  have HS : Hid (shV n = .agg #[.int .i64 n, .int .i64 (yD n), .int .i64 (mD n), .int .i64 (dD n), .int .i64 (lenC (yD n) (mD n) + 1 - dD n), .int .i64 (wdD n), .int .i64 (in1D (dD n) (lenC (yD n) (mD n))), .int .i64 (in2D (dD n) (lenC (yD n) (mD n))), .int .i64 (in1D (cumC (yD n) (mD n) + dD n) (365 + lpC (yD n))), .int .i64 (in2D (cumC (yD n) (mD n) + dD n) (365 + lpC (yD n)))]) := by
    show _ = _
    rw [show lenC (yD n) (mD n) + 1 - dD n = lenC (yD n) (mD n) - dD n + 1 by omega]; rfl
  rw [HS.out]
  have hn1 : n ≤ 146097 := by omega
  clear HS hp hd
  generalize in1D (dD n) (lenC (yD n) (mD n)) = a1 at *
  generalize in2D (dD n) (lenC (yD n) (mD n)) = a2 at *
  generalize in1D (cumC (yD n) (mD n) + dD n) _ = a3 at *
  generalize in2D (cumC (yD n) (mD n) + dD n) _ = a4 at *
  generalize hO : cumC (yD n) (mD n) + dD n = o at *
  generalize hP : 365 + lpC (yD n) = p at *
  clear hO hP
  generalize lenC (yD n) (mD n) = L at *
  generalize cumC (yD n) (mD n) = C at *
  generalize wdD n = wd at *
  generalize yD n = y at *
  generalize mD n = m at *
  generalize dD n = d at *
  clear c0 c1
  go_enter Tryz.func69, Tryz.ntmps69
  go_wp2_with fail
  have hbw : Below w.heap.size w (w.alloc (.cells #[.int .i64 0, .int .i64 0, .int .i64 0, .int .i64 0, .int .i64 0, .int .i64 0, .int .i64 0, .int .i64 0, .int .i64 0, .int .i64 0] 114)) := (Below.refl _ w).alloc (Nat.le_refl _) _
  have HT : Hid ((w.alloc (.cells #[.int .i64 0, .int .i64 0, .int .i64 0, .int .i64 0, .int .i64 0, .int .i64 0, .int .i64 0, .int .i64 0, .int .i64 0, .int .i64 0] 114)).there w.heap.size 0 10) := there_new w #[.int .i64 0, .int .i64 0, .int .i64 0, .int .i64 0, .int .i64 0, .int .i64 0, .int .i64 0, .int .i64 0, .int .i64 0, .int .i64 0] 114
  have hz1 : w.heap.size < (w.alloc (.cells #[.int .i64 0, .int .i64 0, .int .i64 0, .int .i64 0, .int .i64 0, .int .i64 0, .int .i64 0, .int .i64 0, .int .i64 0, .int .i64 0] 114)).heap.size := by simp
  refine (HT0.out _).mono ?_
  rintro e w2 ⟨rfl, rfl⟩
  go_wp2_with fail
  refine (HL.out _).mono ?_
  rintro e w2 ⟨rfl, rfl⟩
  go_wp2_with fail
  refine (HW1.out _).mono ?_
  rintro e w2 ⟨rfl, rfl⟩
  go_wp2_with fail
  refine (HO.out _).mono ?_
  rintro e w2 ⟨rfl, rfl⟩
  go_wp2_with fail
  refine (HY.out _).mono ?_
  rintro e w2 ⟨rfl, rfl⟩
  go_wp2_with fail
  refine (HW2.out _).mono ?_
  rintro e w2 ⟨rfl, rfl⟩
  go_wp2_with fail
  refine (HD.out _).mono ?_
  rintro e w2 ⟨rfl, hq⟩
  have hbx := bthen hbw hq hbw.size
  have HTx := Lib.hid (there_below HT.out hz1 hq)
  clear HT hbw hz1 hq
  go_wp2_with (refine wp_store_out (w := w) rfl 114 _ _ rfl #[.int .i64 n, .int .i64 y, .int .i64 m, .int .i64 d, .int .i64 (L + 1 - d), .int .i64 wd, .int .i64 a1, .int .i64 a2, .int .i64 a3, .int .i64 a4] rfl rfl Tryz.underlying114 rfl (by kernel_rfl) (by kernel_rfl) hbx HTx.out ?_; intro W' hLd hbE)
  (try simp only [Exit.inBlock, Exit.then])
  refine bodyPost_ret (v := .agg #[.int .i64 n, .int .i64 y, .int .i64 m, .int .i64 d, .int .i64 (L + 1 - d), .int .i64 wd, .int .i64 a1, .int .i64 a2, .int .i64 a3, .int .i64 a4]) ?_ rfl ⟨rfl, hbE⟩
  rw [results_cell1 rfl]
  exact hLd.out
/-- While an event's meaning is asked: the event, the stamp, the shape. -/
structure KMs (w W : World) (b : Nat) (A : Nat → Option Addr) (n m : Nat → Nat) (bk : Bool) (S X : Nat → Int) : Prop where
  ev : EvAt W w.heap.size A n m bk
  st : ∀ j, j < 6 → W.cell? ⟨w.heap.size + 1, j, none⟩ = some (.int .i64 (S j))
  sh : ∀ j, j < 10 → W.cell? ⟨b, j, none⟩ = some (.int .i64 (X j))
  below : Below w.heap.size w W
theorem KMs.later {w W W' : World} {b : Nat} {A : Nat → Option Addr} {n m : Nat → Nat} {bk : Bool} {S X : Nat → Int} (h : KMs w W b A n m bk S X) (hb : Below W.heap.size W W') : KMs w W' b A n m bk S X :=
  ⟨h.ev.below hb, fun j hj => keepc hb (h.st j hj), fun j hj => keepc hb (h.sh j hj), bthen h.below hb h.below.size⟩
theorem kms_sh {w : World} {b : Nat} {X : Nat → Int} (h : Arr w b 10 (fun j => (#[.int .i64 (X 0), .int .i64 (X 1), .int .i64 (X 2), .int .i64 (X 3), .int .i64 (X 4), .int .i64 (X 5), .int .i64 (X 6), .int .i64 (X 7), .int .i64 (X 8), .int .i64 (X 9)] : Array Value).getD j undef)) : ∀ j, j < 10 → w.cell? ⟨b, j, none⟩ = some (.int .i64 (X j)) := by
  intro j hj
  have h1 := h.1 j hj
  obtain rfl | rfl | rfl | rfl | rfl | rfl | rfl | rfl | rfl | rfl : j = 0 ∨ j = 1 ∨ j = 2 ∨ j = 3 ∨ j = 4 ∨ j = 5 ∨ j = 6 ∨ j = 7 ∨ j = 8 ∨ j = 9 := by omega
  all_goals exact h1
/-- Does an event mean an instant, by the parts of its stamp and its day's shape? -/
def meansK (c : CalV) (S X : Nat → Int) : Bool :=
  inB (kget c 1) 1970 2369 (S 0) && (inB (kget c 2) 1 12 (S 1) && (inB (kget c 3) 1 31 (if c.back then X 4 else X 3) && ((decide ((kget c 0).length = 0) || inB (kget c 0) 1 7 (X 5)) &&
  (inB (kget c 4) 0 23 (S 3) && (inB (kget c 5) 0 59 (S 4) && inB (kget c 6) 0 59 (S 5))))))
set_option maxRecDepth 20000 in
set_option maxHeartbeats 8000000 in
theorem rmeans28_any (A : Nat → Option Addr) (n m : Nat → Nat) (c : CalV) (S : Nat → Int) (q : Int) (h0 : 0 ≤ q) (h1 : q < 146097) (w : World) (hA : RdEv w A n c) (hn : ∀ j, j < 8 → j ≠ 4 → n j ≤ 100000) :
    Calls Tryz.prog 41 #[evV A n m c.back, .agg #[.int .i64 (S 0), .int .i64 (S 1), .int .i64 (S 2), .int .i64 (S 3), .int .i64 (S 4), .int .i64 (S 5)], .int .i64 q] w (Ret (.bool (meansK c S (shN q (yD q) (mD q) (dD q)))) w) := by
  have HS := Lib.hid (fun W => rshape06_any q h0 h1 W)
  unfold shV at HS
  obtain ⟨X, hX⟩ : ∃ X, X = shN q (yD q) (mD q) (dD q) := ⟨_, rfl⟩
  rw [← hX] at HS ⊢
  clear hX
  have hl0 : (kget c 0).length = n 0 := (hA.slot (k := 0) (by decide)).1
  have H1 := Lib.hid (fun W (hb : Below w.heap.size w W) => rin_any (A 1) (n 1) (m 1) (kget c 1) 1970 2369 (S 0) W ((hA.slot (k := 1) (by decide)).below hb (Nat.le_refl _)) (by have := hn 1 (by decide) (by decide); omega))
  have H2 := Lib.hid (fun W (hb : Below w.heap.size w W) => rin_any (A 2) (n 2) (m 2) (kget c 2) 1 12 (S 1) W ((hA.slot (k := 2) (by decide)).below hb (Nat.le_refl _)) (by have := hn 2 (by decide) (by decide); omega))
  have H3 := Lib.hid (fun W (hb : Below w.heap.size w W) => rin_any (A 3) (n 3) (m 3) (kget c 3) 1 31 (if c.back then X 4 else X 3) W ((hA.slot (k := 3) (by decide)).below hb (Nat.le_refl _)) (by have := hn 3 (by decide) (by decide); omega))
  have H0 := Lib.hid (fun W (hb : Below w.heap.size w W) => rin_any (A 0) (n 0) (m 0) (kget c 0) 1 7 (X 5) W ((hA.slot (k := 0) (by decide)).below hb (Nat.le_refl _)) (by have := hn 0 (by decide) (by decide); omega))
  have H4 := Lib.hid (fun W (hb : Below w.heap.size w W) => rin_any (A 5) (n 5) (m 5) (kget c 4) 0 23 (S 3) W ((hA.slot (k := 4) (by decide)).below hb (Nat.le_refl _)) (by have := hn 5 (by decide) (by decide); omega))
  have H5 := Lib.hid (fun W (hb : Below w.heap.size w W) => rin_any (A 6) (n 6) (m 6) (kget c 5) 0 59 (S 4) W ((hA.slot (k := 5) (by decide)).below hb (Nat.le_refl _)) (by have := hn 6 (by decide) (by decide); omega))
  have H6 := Lib.hid (fun W (hb : Below w.heap.size w W) => rin_any (A 7) (n 7) (m 7) (kget c 6) 0 59 (S 5) W ((hA.slot (k := 6) (by decide)).below hb (Nat.le_refl _)) (by have := hn 7 (by decide) (by decide); omega))
  unfold meansK
  rw [hl0]
  clear hA hn hl0 h0 h1
  generalize inB (kget c 1) 1970 2369 (S 0) = b1 at *
  generalize inB (kget c 2) 1 12 (S 1) = b2 at *
  generalize inB (kget c 3) 1 31 (if c.back then X 4 else X 3) = b3 at *
  generalize inB (kget c 0) 1 7 (X 5) = b0 at *
  generalize inB (kget c 4) 0 23 (S 3) = b4 at *
  generalize inB (kget c 5) 0 59 (S 4) = b5 at *
  generalize inB (kget c 6) 0 59 (S 5) = b6 at *
  generalize hbk : c.back = bk at *
  clear hbk
  unfold evV
  cases bk with
  | true =>
    rw [if_pos rfl] at H3
    have HE0 := Lib.hid ((evAt_new w A n m true 24).below ((Below.refl _ _).alloc (Nat.le_refl _) (.cells #[.int .i64 (S 0), .int .i64 (S 1), .int .i64 (S 2), .int .i64 (S 3), .int .i64 (S 4), .int .i64 (S 5)] 76)))
    have HS0 : Hid (∀ j, j < 6 → ((w.alloc (.cells #[.slice (A 0) (n 0) (m 0), .slice (A 1) (n 1) (m 1), .slice (A 2) (n 2) (m 2), .slice (A 3) (n 3) (m 3), .bool true, .slice (A 5) (n 5) (m 5), .slice (A 6) (n 6) (m 6), .slice (A 7) (n 7) (m 7)] 24)).alloc (.cells #[.int .i64 (S 0), .int .i64 (S 1), .int .i64 (S 2), .int .i64 (S 3), .int .i64 (S 4), .int .i64 (S 5)] 76)).cell? ⟨w.heap.size + 1, j, none⟩ = some (.int .i64 (S j))) := by
      intro j hj
      have e : (w.alloc (.cells #[.slice (A 0) (n 0) (m 0), .slice (A 1) (n 1) (m 1), .slice (A 2) (n 2) (m 2), .slice (A 3) (n 3) (m 3), .bool true, .slice (A 5) (n 5) (m 5), .slice (A 6) (n 6) (m 6), .slice (A 7) (n 7) (m 7)] 24)).heap.size = w.heap.size + 1 := by simp
      rw [← e]
      obtain rfl | rfl | rfl | rfl | rfl | rfl : j = 0 ∨ j = 1 ∨ j = 2 ∨ j = 3 ∨ j = 4 ∨ j = 5 := by omega
      all_goals exact cell_new rfl rfl
    have HB0 : Hid (Below w.heap.size w ((w.alloc (.cells #[.slice (A 0) (n 0) (m 0), .slice (A 1) (n 1) (m 1), .slice (A 2) (n 2) (m 2), .slice (A 3) (n 3) (m 3), .bool true, .slice (A 5) (n 5) (m 5), .slice (A 6) (n 6) (m 6), .slice (A 7) (n 7) (m 7)] 24)).alloc (.cells #[.int .i64 (S 0), .int .i64 (S 1), .int .i64 (S 2), .int .i64 (S 3), .int .i64 (S 4), .int .i64 (S 5)] 76))) := by show Below _ _ _; (repeat' (first | (with_reducible exact Below.refl _ _) | (with_reducible assumption) | (with_reducible refine below_drewN ?_ _) | (with_reducible refine Below.alloc ?_ ?_ _) | (with_reducible refine Below.drew ?_) | (with_reducible refine Below.setCell ?_ ?_ _) | go_size))
    go_enter Tryz.func41, Tryz.ntmps41
    go_wp2_with fail
    generalize (w.alloc (.cells #[.slice (A 0) (n 0) (m 0), .slice (A 1) (n 1) (m 1), .slice (A 2) (n 2) (m 2), .slice (A 3) (n 3) (m 3), .bool true, .slice (A 5) (n 5) (m 5), .slice (A 6) (n 6) (m 6), .slice (A 7) (n 7) (m 7)] 24)).alloc (.cells #[.int .i64 (S 0), .int .i64 (S 1), .int .i64 (S 2), .int .i64 (S 3), .int .i64 (S 4), .int .i64 (S 5)] 76) = w0 at *
    refine (HS.out _).mono ?_
    rintro e w1 ⟨rfl, hq1⟩
    clear HS
    go_wp2_with (refine wp_store_new (by rfl) 114 _ _ rfl #[.int .i64 (X 0), .int .i64 (X 1), .int .i64 (X 2), .int .i64 (X 3), .int .i64 (X 4), .int .i64 (X 5), .int .i64 (X 6), .int .i64 (X 7), .int .i64 (X 8), .int .i64 (X 9)] _ rfl rfl (by kernel_rfl) (by kernel_rfl) rfl ?_; intro w2 hq2 HA2 hz2; have HK : Hid (KMs w w2 w1.heap.size A n m true S X) := ⟨(HE0.out.below hq1).below hq2, fun j hj => keepc hq2 (keepc hq1 (HS0.out j hj)), kms_sh HA2, bthen (bthen HB0.out hq1 HB0.out.size) hq2 (bthen HB0.out hq1 HB0.out.size).size⟩; clear hq1 hq2 HA2 HE0 HS0 HB0 hz2; generalize w1.heap.size = B at *; have e0 := HK.out.ev.h0; have e1 := HK.out.ev.h1; have e2 := HK.out.ev.h2; have e3 := HK.out.ev.h3; have e4 := HK.out.ev.h4; have e5 := HK.out.ev.h5; have e6 := HK.out.ev.h6; have e7 := HK.out.ev.h7; have s0 := HK.out.st 0 (by decide); have s1 := HK.out.st 1 (by decide); have s3 := HK.out.st 3 (by decide); have s4 := HK.out.st 4 (by decide); have s5 := HK.out.st 5 (by decide); have x3 := HK.out.sh 3 (by decide); have x4 := HK.out.sh 4 (by decide); have x5 := HK.out.sh 5 (by decide))
    refine (H1.out _ HK.out.below).mono ?_
    rintro e w3 ⟨rfl, hq⟩
    replace HK := Lib.hid (HK.out.later hq)
    clear e0 e1 e2 e3 e4 e5 e6 e7 s0 s1 s3 s4 s5 x3 x4 x5 hq H1
    have e0 := HK.out.ev.h0
    have e1 := HK.out.ev.h1
    have e2 := HK.out.ev.h2
    have e3 := HK.out.ev.h3
    have e4 := HK.out.ev.h4
    have e5 := HK.out.ev.h5
    have e6 := HK.out.ev.h6
    have e7 := HK.out.ev.h7
    have s0 := HK.out.st 0 (by decide)
    have s1 := HK.out.st 1 (by decide)
    have s3 := HK.out.st 3 (by decide)
    have s4 := HK.out.st 4 (by decide)
    have s5 := HK.out.st 5 (by decide)
    have x3 := HK.out.sh 3 (by decide)
    have x4 := HK.out.sh 4 (by decide)
    have x5 := HK.out.sh 5 (by decide)
    cases b1 with
    | false => go_wp2; go_ret; exact ⟨ret_bool (by simp), HK.out.below⟩
    | true =>
      go_wp2_with fail
      refine (H2.out _ HK.out.below).mono ?_
      rintro e w4 ⟨rfl, hq⟩
      replace HK := Lib.hid (HK.out.later hq)
      clear e0 e1 e2 e3 e4 e5 e6 e7 s0 s1 s3 s4 s5 x3 x4 x5 hq H2
      have e0 := HK.out.ev.h0
      have e1 := HK.out.ev.h1
      have e2 := HK.out.ev.h2
      have e3 := HK.out.ev.h3
      have e4 := HK.out.ev.h4
      have e5 := HK.out.ev.h5
      have e6 := HK.out.ev.h6
      have e7 := HK.out.ev.h7
      have s0 := HK.out.st 0 (by decide)
      have s1 := HK.out.st 1 (by decide)
      have s3 := HK.out.st 3 (by decide)
      have s4 := HK.out.st 4 (by decide)
      have s5 := HK.out.st 5 (by decide)
      have x3 := HK.out.sh 3 (by decide)
      have x4 := HK.out.sh 4 (by decide)
      have x5 := HK.out.sh 5 (by decide)
      cases b2 with
      | false => go_wp2; go_ret; exact ⟨ret_bool (by simp), HK.out.below⟩
      | true =>
        go_wp2_with fail
        refine (H3.out _ HK.out.below).mono ?_
        rintro e w5 ⟨rfl, hq⟩
        replace HK := Lib.hid (HK.out.later hq)
        clear e0 e1 e2 e3 e4 e5 e6 e7 s0 s1 s3 s4 s5 x3 x4 x5 hq H3
        have e0 := HK.out.ev.h0
        have e1 := HK.out.ev.h1
        have e2 := HK.out.ev.h2
        have e3 := HK.out.ev.h3
        have e4 := HK.out.ev.h4
        have e5 := HK.out.ev.h5
        have e6 := HK.out.ev.h6
        have e7 := HK.out.ev.h7
        have s0 := HK.out.st 0 (by decide)
        have s1 := HK.out.st 1 (by decide)
        have s3 := HK.out.st 3 (by decide)
        have s4 := HK.out.st 4 (by decide)
        have s5 := HK.out.st 5 (by decide)
        have x3 := HK.out.sh 3 (by decide)
        have x4 := HK.out.sh 4 (by decide)
        have x5 := HK.out.sh 5 (by decide)
        cases b3 with
        | false => go_wp2; go_ret; exact ⟨ret_bool (by simp), HK.out.below⟩
        | true =>
          by_cases hn0 : n 0 = 0
          · have hn0' : ((n 0 : Int) == 0) = true := by simpa using hn0
            have HN : Hid (decide (n 0 = 0) = true) := decide_eq_true hn0
            clear hn0
            go_wp2_with fail
            refine (H4.out _ HK.out.below).mono ?_
            rintro e w7 ⟨rfl, hq⟩
            replace HK := Lib.hid (HK.out.later hq)
            clear e0 e1 e2 e3 e4 e5 e6 e7 s0 s1 s3 s4 s5 x3 x4 x5 hq H4
            have e0 := HK.out.ev.h0
            have e1 := HK.out.ev.h1
            have e2 := HK.out.ev.h2
            have e3 := HK.out.ev.h3
            have e4 := HK.out.ev.h4
            have e5 := HK.out.ev.h5
            have e6 := HK.out.ev.h6
            have e7 := HK.out.ev.h7
            have s0 := HK.out.st 0 (by decide)
            have s1 := HK.out.st 1 (by decide)
            have s3 := HK.out.st 3 (by decide)
            have s4 := HK.out.st 4 (by decide)
            have s5 := HK.out.st 5 (by decide)
            have x3 := HK.out.sh 3 (by decide)
            have x4 := HK.out.sh 4 (by decide)
            have x5 := HK.out.sh 5 (by decide)
            cases b4 with
            | false => go_wp2; go_ret; exact ⟨ret_bool (by simp [HN.out]), HK.out.below⟩
            | true =>
              go_wp2_with fail
              refine (H5.out _ HK.out.below).mono ?_
              rintro e w8 ⟨rfl, hq⟩
              replace HK := Lib.hid (HK.out.later hq)
              clear e0 e1 e2 e3 e4 e5 e6 e7 s0 s1 s3 s4 s5 x3 x4 x5 hq H5
              have e0 := HK.out.ev.h0
              have e1 := HK.out.ev.h1
              have e2 := HK.out.ev.h2
              have e3 := HK.out.ev.h3
              have e4 := HK.out.ev.h4
              have e5 := HK.out.ev.h5
              have e6 := HK.out.ev.h6
              have e7 := HK.out.ev.h7
              have s0 := HK.out.st 0 (by decide)
              have s1 := HK.out.st 1 (by decide)
              have s3 := HK.out.st 3 (by decide)
              have s4 := HK.out.st 4 (by decide)
              have s5 := HK.out.st 5 (by decide)
              have x3 := HK.out.sh 3 (by decide)
              have x4 := HK.out.sh 4 (by decide)
              have x5 := HK.out.sh 5 (by decide)
              cases b5 with
              | false => go_wp2; go_ret; exact ⟨ret_bool (by simp [HN.out]), HK.out.below⟩
              | true =>
                go_wp2_with fail
                refine (H6.out _ HK.out.below).mono ?_
                rintro e w9 ⟨rfl, hq⟩
                replace HK := Lib.hid (HK.out.later hq)
                clear e0 e1 e2 e3 e4 e5 e6 e7 s0 s1 s3 s4 s5 x3 x4 x5 hq H6
                have e0 := HK.out.ev.h0
                have e1 := HK.out.ev.h1
                have e2 := HK.out.ev.h2
                have e3 := HK.out.ev.h3
                have e4 := HK.out.ev.h4
                have e5 := HK.out.ev.h5
                have e6 := HK.out.ev.h6
                have e7 := HK.out.ev.h7
                have s0 := HK.out.st 0 (by decide)
                have s1 := HK.out.st 1 (by decide)
                have s3 := HK.out.st 3 (by decide)
                have s4 := HK.out.st 4 (by decide)
                have s5 := HK.out.st 5 (by decide)
                have x3 := HK.out.sh 3 (by decide)
                have x4 := HK.out.sh 4 (by decide)
                have x5 := HK.out.sh 5 (by decide)
                go_wp2
                go_ret
                exact ⟨ret_bool (by simp [HN.out]), HK.out.below⟩
          · have hn0' : ((n 0 : Int) == 0) = false := by simpa using hn0
            have HN : Hid (decide (n 0 = 0) = false) := decide_eq_false hn0
            clear hn0
            go_wp2_with fail
            refine (H0.out _ HK.out.below).mono ?_
            rintro e w6 ⟨rfl, hq⟩
            replace HK := Lib.hid (HK.out.later hq)
            clear e0 e1 e2 e3 e4 e5 e6 e7 s0 s1 s3 s4 s5 x3 x4 x5 hq H0
            have e0 := HK.out.ev.h0
            have e1 := HK.out.ev.h1
            have e2 := HK.out.ev.h2
            have e3 := HK.out.ev.h3
            have e4 := HK.out.ev.h4
            have e5 := HK.out.ev.h5
            have e6 := HK.out.ev.h6
            have e7 := HK.out.ev.h7
            have s0 := HK.out.st 0 (by decide)
            have s1 := HK.out.st 1 (by decide)
            have s3 := HK.out.st 3 (by decide)
            have s4 := HK.out.st 4 (by decide)
            have s5 := HK.out.st 5 (by decide)
            have x3 := HK.out.sh 3 (by decide)
            have x4 := HK.out.sh 4 (by decide)
            have x5 := HK.out.sh 5 (by decide)
            cases b0 with
            | false => go_wp2; go_ret; exact ⟨ret_bool (by simp [HN.out]), HK.out.below⟩
            | true =>
              go_wp2_with fail
              refine (H4.out _ HK.out.below).mono ?_
              rintro e w7 ⟨rfl, hq⟩
              replace HK := Lib.hid (HK.out.later hq)
              clear e0 e1 e2 e3 e4 e5 e6 e7 s0 s1 s3 s4 s5 x3 x4 x5 hq H4
              have e0 := HK.out.ev.h0
              have e1 := HK.out.ev.h1
              have e2 := HK.out.ev.h2
              have e3 := HK.out.ev.h3
              have e4 := HK.out.ev.h4
              have e5 := HK.out.ev.h5
              have e6 := HK.out.ev.h6
              have e7 := HK.out.ev.h7
              have s0 := HK.out.st 0 (by decide)
              have s1 := HK.out.st 1 (by decide)
              have s3 := HK.out.st 3 (by decide)
              have s4 := HK.out.st 4 (by decide)
              have s5 := HK.out.st 5 (by decide)
              have x3 := HK.out.sh 3 (by decide)
              have x4 := HK.out.sh 4 (by decide)
              have x5 := HK.out.sh 5 (by decide)
              cases b4 with
              | false => go_wp2; go_ret; exact ⟨ret_bool (by simp [HN.out]), HK.out.below⟩
              | true =>
                go_wp2_with fail
                refine (H5.out _ HK.out.below).mono ?_
                rintro e w8 ⟨rfl, hq⟩
                replace HK := Lib.hid (HK.out.later hq)
                clear e0 e1 e2 e3 e4 e5 e6 e7 s0 s1 s3 s4 s5 x3 x4 x5 hq H5
                have e0 := HK.out.ev.h0
                have e1 := HK.out.ev.h1
                have e2 := HK.out.ev.h2
                have e3 := HK.out.ev.h3
                have e4 := HK.out.ev.h4
                have e5 := HK.out.ev.h5
                have e6 := HK.out.ev.h6
                have e7 := HK.out.ev.h7
                have s0 := HK.out.st 0 (by decide)
                have s1 := HK.out.st 1 (by decide)
                have s3 := HK.out.st 3 (by decide)
                have s4 := HK.out.st 4 (by decide)
                have s5 := HK.out.st 5 (by decide)
                have x3 := HK.out.sh 3 (by decide)
                have x4 := HK.out.sh 4 (by decide)
                have x5 := HK.out.sh 5 (by decide)
                cases b5 with
                | false => go_wp2; go_ret; exact ⟨ret_bool (by simp [HN.out]), HK.out.below⟩
                | true =>
                  go_wp2_with fail
                  refine (H6.out _ HK.out.below).mono ?_
                  rintro e w9 ⟨rfl, hq⟩
                  replace HK := Lib.hid (HK.out.later hq)
                  clear e0 e1 e2 e3 e4 e5 e6 e7 s0 s1 s3 s4 s5 x3 x4 x5 hq H6
                  have e0 := HK.out.ev.h0
                  have e1 := HK.out.ev.h1
                  have e2 := HK.out.ev.h2
                  have e3 := HK.out.ev.h3
                  have e4 := HK.out.ev.h4
                  have e5 := HK.out.ev.h5
                  have e6 := HK.out.ev.h6
                  have e7 := HK.out.ev.h7
                  have s0 := HK.out.st 0 (by decide)
                  have s1 := HK.out.st 1 (by decide)
                  have s3 := HK.out.st 3 (by decide)
                  have s4 := HK.out.st 4 (by decide)
                  have s5 := HK.out.st 5 (by decide)
                  have x3 := HK.out.sh 3 (by decide)
                  have x4 := HK.out.sh 4 (by decide)
                  have x5 := HK.out.sh 5 (by decide)
                  go_wp2
                  go_ret
                  exact ⟨ret_bool (by simp [HN.out]), HK.out.below⟩
  | false =>
    rw [if_neg Bool.false_ne_true] at H3
    have HE0 := Lib.hid ((evAt_new w A n m false 24).below ((Below.refl _ _).alloc (Nat.le_refl _) (.cells #[.int .i64 (S 0), .int .i64 (S 1), .int .i64 (S 2), .int .i64 (S 3), .int .i64 (S 4), .int .i64 (S 5)] 76)))
    have HS0 : Hid (∀ j, j < 6 → ((w.alloc (.cells #[.slice (A 0) (n 0) (m 0), .slice (A 1) (n 1) (m 1), .slice (A 2) (n 2) (m 2), .slice (A 3) (n 3) (m 3), .bool false, .slice (A 5) (n 5) (m 5), .slice (A 6) (n 6) (m 6), .slice (A 7) (n 7) (m 7)] 24)).alloc (.cells #[.int .i64 (S 0), .int .i64 (S 1), .int .i64 (S 2), .int .i64 (S 3), .int .i64 (S 4), .int .i64 (S 5)] 76)).cell? ⟨w.heap.size + 1, j, none⟩ = some (.int .i64 (S j))) := by
      intro j hj
      have e : (w.alloc (.cells #[.slice (A 0) (n 0) (m 0), .slice (A 1) (n 1) (m 1), .slice (A 2) (n 2) (m 2), .slice (A 3) (n 3) (m 3), .bool false, .slice (A 5) (n 5) (m 5), .slice (A 6) (n 6) (m 6), .slice (A 7) (n 7) (m 7)] 24)).heap.size = w.heap.size + 1 := by simp
      rw [← e]
      obtain rfl | rfl | rfl | rfl | rfl | rfl : j = 0 ∨ j = 1 ∨ j = 2 ∨ j = 3 ∨ j = 4 ∨ j = 5 := by omega
      all_goals exact cell_new rfl rfl
    have HB0 : Hid (Below w.heap.size w ((w.alloc (.cells #[.slice (A 0) (n 0) (m 0), .slice (A 1) (n 1) (m 1), .slice (A 2) (n 2) (m 2), .slice (A 3) (n 3) (m 3), .bool false, .slice (A 5) (n 5) (m 5), .slice (A 6) (n 6) (m 6), .slice (A 7) (n 7) (m 7)] 24)).alloc (.cells #[.int .i64 (S 0), .int .i64 (S 1), .int .i64 (S 2), .int .i64 (S 3), .int .i64 (S 4), .int .i64 (S 5)] 76))) := by show Below _ _ _; (repeat' (first | (with_reducible exact Below.refl _ _) | (with_reducible assumption) | (with_reducible refine below_drewN ?_ _) | (with_reducible refine Below.alloc ?_ ?_ _) | (with_reducible refine Below.drew ?_) | (with_reducible refine Below.setCell ?_ ?_ _) | go_size))
    go_enter Tryz.func41, Tryz.ntmps41
    go_wp2_with fail
    generalize (w.alloc (.cells #[.slice (A 0) (n 0) (m 0), .slice (A 1) (n 1) (m 1), .slice (A 2) (n 2) (m 2), .slice (A 3) (n 3) (m 3), .bool false, .slice (A 5) (n 5) (m 5), .slice (A 6) (n 6) (m 6), .slice (A 7) (n 7) (m 7)] 24)).alloc (.cells #[.int .i64 (S 0), .int .i64 (S 1), .int .i64 (S 2), .int .i64 (S 3), .int .i64 (S 4), .int .i64 (S 5)] 76) = w0 at *
    refine (HS.out _).mono ?_
    rintro e w1 ⟨rfl, hq1⟩
    clear HS
    go_wp2_with (refine wp_store_new (by rfl) 114 _ _ rfl #[.int .i64 (X 0), .int .i64 (X 1), .int .i64 (X 2), .int .i64 (X 3), .int .i64 (X 4), .int .i64 (X 5), .int .i64 (X 6), .int .i64 (X 7), .int .i64 (X 8), .int .i64 (X 9)] _ rfl rfl (by kernel_rfl) (by kernel_rfl) rfl ?_; intro w2 hq2 HA2 hz2; have HK : Hid (KMs w w2 w1.heap.size A n m false S X) := ⟨(HE0.out.below hq1).below hq2, fun j hj => keepc hq2 (keepc hq1 (HS0.out j hj)), kms_sh HA2, bthen (bthen HB0.out hq1 HB0.out.size) hq2 (bthen HB0.out hq1 HB0.out.size).size⟩; clear hq1 hq2 HA2 HE0 HS0 HB0 hz2; generalize w1.heap.size = B at *; have e0 := HK.out.ev.h0; have e1 := HK.out.ev.h1; have e2 := HK.out.ev.h2; have e3 := HK.out.ev.h3; have e4 := HK.out.ev.h4; have e5 := HK.out.ev.h5; have e6 := HK.out.ev.h6; have e7 := HK.out.ev.h7; have s0 := HK.out.st 0 (by decide); have s1 := HK.out.st 1 (by decide); have s3 := HK.out.st 3 (by decide); have s4 := HK.out.st 4 (by decide); have s5 := HK.out.st 5 (by decide); have x3 := HK.out.sh 3 (by decide); have x4 := HK.out.sh 4 (by decide); have x5 := HK.out.sh 5 (by decide))
    refine (H1.out _ HK.out.below).mono ?_
    rintro e w3 ⟨rfl, hq⟩
    replace HK := Lib.hid (HK.out.later hq)
    clear e0 e1 e2 e3 e4 e5 e6 e7 s0 s1 s3 s4 s5 x3 x4 x5 hq H1
    have e0 := HK.out.ev.h0
    have e1 := HK.out.ev.h1
    have e2 := HK.out.ev.h2
    have e3 := HK.out.ev.h3
    have e4 := HK.out.ev.h4
    have e5 := HK.out.ev.h5
    have e6 := HK.out.ev.h6
    have e7 := HK.out.ev.h7
    have s0 := HK.out.st 0 (by decide)
    have s1 := HK.out.st 1 (by decide)
    have s3 := HK.out.st 3 (by decide)
    have s4 := HK.out.st 4 (by decide)
    have s5 := HK.out.st 5 (by decide)
    have x3 := HK.out.sh 3 (by decide)
    have x4 := HK.out.sh 4 (by decide)
    have x5 := HK.out.sh 5 (by decide)
    cases b1 with
    | false => go_wp2; go_ret; exact ⟨ret_bool (by simp), HK.out.below⟩
    | true =>
      go_wp2_with fail
      refine (H2.out _ HK.out.below).mono ?_
      rintro e w4 ⟨rfl, hq⟩
      replace HK := Lib.hid (HK.out.later hq)
      clear e0 e1 e2 e3 e4 e5 e6 e7 s0 s1 s3 s4 s5 x3 x4 x5 hq H2
      have e0 := HK.out.ev.h0
      have e1 := HK.out.ev.h1
      have e2 := HK.out.ev.h2
      have e3 := HK.out.ev.h3
      have e4 := HK.out.ev.h4
      have e5 := HK.out.ev.h5
      have e6 := HK.out.ev.h6
      have e7 := HK.out.ev.h7
      have s0 := HK.out.st 0 (by decide)
      have s1 := HK.out.st 1 (by decide)
      have s3 := HK.out.st 3 (by decide)
      have s4 := HK.out.st 4 (by decide)
      have s5 := HK.out.st 5 (by decide)
      have x3 := HK.out.sh 3 (by decide)
      have x4 := HK.out.sh 4 (by decide)
      have x5 := HK.out.sh 5 (by decide)
      cases b2 with
      | false => go_wp2; go_ret; exact ⟨ret_bool (by simp), HK.out.below⟩
      | true =>
        go_wp2_with fail
        refine (H3.out _ HK.out.below).mono ?_
        rintro e w5 ⟨rfl, hq⟩
        replace HK := Lib.hid (HK.out.later hq)
        clear e0 e1 e2 e3 e4 e5 e6 e7 s0 s1 s3 s4 s5 x3 x4 x5 hq H3
        have e0 := HK.out.ev.h0
        have e1 := HK.out.ev.h1
        have e2 := HK.out.ev.h2
        have e3 := HK.out.ev.h3
        have e4 := HK.out.ev.h4
        have e5 := HK.out.ev.h5
        have e6 := HK.out.ev.h6
        have e7 := HK.out.ev.h7
        have s0 := HK.out.st 0 (by decide)
        have s1 := HK.out.st 1 (by decide)
        have s3 := HK.out.st 3 (by decide)
        have s4 := HK.out.st 4 (by decide)
        have s5 := HK.out.st 5 (by decide)
        have x3 := HK.out.sh 3 (by decide)
        have x4 := HK.out.sh 4 (by decide)
        have x5 := HK.out.sh 5 (by decide)
        cases b3 with
        | false => go_wp2; go_ret; exact ⟨ret_bool (by simp), HK.out.below⟩
        | true =>
          by_cases hn0 : n 0 = 0
          · have hn0' : ((n 0 : Int) == 0) = true := by simpa using hn0
            have HN : Hid (decide (n 0 = 0) = true) := decide_eq_true hn0
            clear hn0
            go_wp2_with fail
            refine (H4.out _ HK.out.below).mono ?_
            rintro e w7 ⟨rfl, hq⟩
            replace HK := Lib.hid (HK.out.later hq)
            clear e0 e1 e2 e3 e4 e5 e6 e7 s0 s1 s3 s4 s5 x3 x4 x5 hq H4
            have e0 := HK.out.ev.h0
            have e1 := HK.out.ev.h1
            have e2 := HK.out.ev.h2
            have e3 := HK.out.ev.h3
            have e4 := HK.out.ev.h4
            have e5 := HK.out.ev.h5
            have e6 := HK.out.ev.h6
            have e7 := HK.out.ev.h7
            have s0 := HK.out.st 0 (by decide)
            have s1 := HK.out.st 1 (by decide)
            have s3 := HK.out.st 3 (by decide)
            have s4 := HK.out.st 4 (by decide)
            have s5 := HK.out.st 5 (by decide)
            have x3 := HK.out.sh 3 (by decide)
            have x4 := HK.out.sh 4 (by decide)
            have x5 := HK.out.sh 5 (by decide)
            cases b4 with
            | false => go_wp2; go_ret; exact ⟨ret_bool (by simp [HN.out]), HK.out.below⟩
            | true =>
              go_wp2_with fail
              refine (H5.out _ HK.out.below).mono ?_
              rintro e w8 ⟨rfl, hq⟩
              replace HK := Lib.hid (HK.out.later hq)
              clear e0 e1 e2 e3 e4 e5 e6 e7 s0 s1 s3 s4 s5 x3 x4 x5 hq H5
              have e0 := HK.out.ev.h0
              have e1 := HK.out.ev.h1
              have e2 := HK.out.ev.h2
              have e3 := HK.out.ev.h3
              have e4 := HK.out.ev.h4
              have e5 := HK.out.ev.h5
              have e6 := HK.out.ev.h6
              have e7 := HK.out.ev.h7
              have s0 := HK.out.st 0 (by decide)
              have s1 := HK.out.st 1 (by decide)
              have s3 := HK.out.st 3 (by decide)
              have s4 := HK.out.st 4 (by decide)
              have s5 := HK.out.st 5 (by decide)
              have x3 := HK.out.sh 3 (by decide)
              have x4 := HK.out.sh 4 (by decide)
              have x5 := HK.out.sh 5 (by decide)
              cases b5 with
              | false => go_wp2; go_ret; exact ⟨ret_bool (by simp [HN.out]), HK.out.below⟩
              | true =>
                go_wp2_with fail
                refine (H6.out _ HK.out.below).mono ?_
                rintro e w9 ⟨rfl, hq⟩
                replace HK := Lib.hid (HK.out.later hq)
                clear e0 e1 e2 e3 e4 e5 e6 e7 s0 s1 s3 s4 s5 x3 x4 x5 hq H6
                have e0 := HK.out.ev.h0
                have e1 := HK.out.ev.h1
                have e2 := HK.out.ev.h2
                have e3 := HK.out.ev.h3
                have e4 := HK.out.ev.h4
                have e5 := HK.out.ev.h5
                have e6 := HK.out.ev.h6
                have e7 := HK.out.ev.h7
                have s0 := HK.out.st 0 (by decide)
                have s1 := HK.out.st 1 (by decide)
                have s3 := HK.out.st 3 (by decide)
                have s4 := HK.out.st 4 (by decide)
                have s5 := HK.out.st 5 (by decide)
                have x3 := HK.out.sh 3 (by decide)
                have x4 := HK.out.sh 4 (by decide)
                have x5 := HK.out.sh 5 (by decide)
                go_wp2
                go_ret
                exact ⟨ret_bool (by simp [HN.out]), HK.out.below⟩
          · have hn0' : ((n 0 : Int) == 0) = false := by simpa using hn0
            have HN : Hid (decide (n 0 = 0) = false) := decide_eq_false hn0
            clear hn0
            go_wp2_with fail
            refine (H0.out _ HK.out.below).mono ?_
            rintro e w6 ⟨rfl, hq⟩
            replace HK := Lib.hid (HK.out.later hq)
            clear e0 e1 e2 e3 e4 e5 e6 e7 s0 s1 s3 s4 s5 x3 x4 x5 hq H0
            have e0 := HK.out.ev.h0
            have e1 := HK.out.ev.h1
            have e2 := HK.out.ev.h2
            have e3 := HK.out.ev.h3
            have e4 := HK.out.ev.h4
            have e5 := HK.out.ev.h5
            have e6 := HK.out.ev.h6
            have e7 := HK.out.ev.h7
            have s0 := HK.out.st 0 (by decide)
            have s1 := HK.out.st 1 (by decide)
            have s3 := HK.out.st 3 (by decide)
            have s4 := HK.out.st 4 (by decide)
            have s5 := HK.out.st 5 (by decide)
            have x3 := HK.out.sh 3 (by decide)
            have x4 := HK.out.sh 4 (by decide)
            have x5 := HK.out.sh 5 (by decide)
            cases b0 with
            | false => go_wp2; go_ret; exact ⟨ret_bool (by simp [HN.out]), HK.out.below⟩
            | true =>
              go_wp2_with fail
              refine (H4.out _ HK.out.below).mono ?_
              rintro e w7 ⟨rfl, hq⟩
              replace HK := Lib.hid (HK.out.later hq)
              clear e0 e1 e2 e3 e4 e5 e6 e7 s0 s1 s3 s4 s5 x3 x4 x5 hq H4
              have e0 := HK.out.ev.h0
              have e1 := HK.out.ev.h1
              have e2 := HK.out.ev.h2
              have e3 := HK.out.ev.h3
              have e4 := HK.out.ev.h4
              have e5 := HK.out.ev.h5
              have e6 := HK.out.ev.h6
              have e7 := HK.out.ev.h7
              have s0 := HK.out.st 0 (by decide)
              have s1 := HK.out.st 1 (by decide)
              have s3 := HK.out.st 3 (by decide)
              have s4 := HK.out.st 4 (by decide)
              have s5 := HK.out.st 5 (by decide)
              have x3 := HK.out.sh 3 (by decide)
              have x4 := HK.out.sh 4 (by decide)
              have x5 := HK.out.sh 5 (by decide)
              cases b4 with
              | false => go_wp2; go_ret; exact ⟨ret_bool (by simp [HN.out]), HK.out.below⟩
              | true =>
                go_wp2_with fail
                refine (H5.out _ HK.out.below).mono ?_
                rintro e w8 ⟨rfl, hq⟩
                replace HK := Lib.hid (HK.out.later hq)
                clear e0 e1 e2 e3 e4 e5 e6 e7 s0 s1 s3 s4 s5 x3 x4 x5 hq H5
                have e0 := HK.out.ev.h0
                have e1 := HK.out.ev.h1
                have e2 := HK.out.ev.h2
                have e3 := HK.out.ev.h3
                have e4 := HK.out.ev.h4
                have e5 := HK.out.ev.h5
                have e6 := HK.out.ev.h6
                have e7 := HK.out.ev.h7
                have s0 := HK.out.st 0 (by decide)
                have s1 := HK.out.st 1 (by decide)
                have s3 := HK.out.st 3 (by decide)
                have s4 := HK.out.st 4 (by decide)
                have s5 := HK.out.st 5 (by decide)
                have x3 := HK.out.sh 3 (by decide)
                have x4 := HK.out.sh 4 (by decide)
                have x5 := HK.out.sh 5 (by decide)
                cases b5 with
                | false => go_wp2; go_ret; exact ⟨ret_bool (by simp [HN.out]), HK.out.below⟩
                | true =>
                  go_wp2_with fail
                  refine (H6.out _ HK.out.below).mono ?_
                  rintro e w9 ⟨rfl, hq⟩
                  replace HK := Lib.hid (HK.out.later hq)
                  clear e0 e1 e2 e3 e4 e5 e6 e7 s0 s1 s3 s4 s5 x3 x4 x5 hq H6
                  have e0 := HK.out.ev.h0
                  have e1 := HK.out.ev.h1
                  have e2 := HK.out.ev.h2
                  have e3 := HK.out.ev.h3
                  have e4 := HK.out.ev.h4
                  have e5 := HK.out.ev.h5
                  have e6 := HK.out.ev.h6
                  have e7 := HK.out.ev.h7
                  have s0 := HK.out.st 0 (by decide)
                  have s1 := HK.out.st 1 (by decide)
                  have s3 := HK.out.st 3 (by decide)
                  have s4 := HK.out.st 4 (by decide)
                  have s5 := HK.out.st 5 (by decide)
                  have x3 := HK.out.sh 3 (by decide)
                  have x4 := HK.out.sh 4 (by decide)
                  have x5 := HK.out.sh 5 (by decide)
                  go_wp2
                  go_ret
                  exact ⟨ret_bool (by simp [HN.out]), HK.out.below⟩
end Go.Proofs.YtochhmkdhdadhaaGreat

namespace Go.Proofs.YtochhmkdhdadhaaGreat
open Go.RowKit
set_option linter.unusedSimpArgs false
set_option linter.unusedVariables false

theorem EvAt.other {w : World} {b q o : Nat} {A : Nat → Option Addr} {n m : Nat → Nat} {bk : Bool} {v : Value} (h : EvAt w b A n m bk) (hne : q ≠ b) : EvAt (w.setCell ⟨q, o, none⟩ v) b A n m bk := by
  have hn : ∀ j, (w.setCell ⟨q, o, none⟩ v).cell? ⟨b, j, none⟩ = w.cell? ⟨b, j, none⟩ := fun j => World.cell?_setCell_other _ _ _ _ (by intro e; injection e with e1; exact hne e1)
  exact ⟨(hn 0).trans h.h0, (hn 1).trans h.h1, (hn 2).trans h.h2, (hn 3).trans h.h3, (hn 4).trans h.h4, (hn 5).trans h.h5, (hn 6).trans h.h6, (hn 7).trans h.h7⟩
/-- While an event's clause is made: the event, the clause, the place of the result. -/
structure LowK (w W : World) (b : Nat) (A : Nat → Option Addr) (n m : Nat → Nat) (bk : Bool) (g : Nat → Value) : Prop where
  ev : EvAt W w.heap.size A n m bk
  arr : Arr W b 30 g
  out : W.there (w.heap.size + 1) 0 30
  lt : w.heap.size + 1 < b
  below : Below w.heap.size w W
theorem LowK.later {w W W' : World} {b : Nat} {A : Nat → Option Addr} {n m : Nat → Nat} {bk : Bool} {g : Nat → Value} (h : LowK w W b A n m bk g) (hb : Below W.heap.size W W') : LowK w W' b A n m bk g :=
  have hl := Arr.lt h.arr (by decide)
  ⟨h.ev.below hb, Arr.below h.arr hl hb, there_below h.out (by have := h.lt; omega) hb, h.lt, bthen h.below hb h.below.size⟩
theorem LowK.updG {w W : World} {b : Nat} {A : Nat → Option Addr} {n m : Nat → Nat} {bk : Bool} {g : Nat → Value} (h : LowK w W b A n m bk g) (i : Nat) (hi : i < 30) (v : Value) : LowK w (W.setCell ⟨b, i, none⟩ v) b A n m bk (updG g i v) :=
  ⟨h.ev.other (by have := h.lt; omega), Arr.updG h.arr i hi v, there_set h.out (by have := h.lt; omega), h.lt, h.below.setCell (by show w.heap.size ≤ b; have := h.lt; omega) _⟩
theorem LowK.other {w W : World} {b q o : Nat} {A : Nat → Option Addr} {n m : Nat → Nat} {bk : Bool} {g : Nat → Value} (h : LowK w W b A n m bk g) (hq : b < q) (v : Value) : LowK w (W.setCell ⟨q, o, none⟩ v) b A n m bk g :=
  ⟨h.ev.other (by have := h.lt; omega), ⟨fun j hj => (World.cell?_setCell_other _ _ _ _ (by intro e; injection e with e1; omega)).trans (h.arr.1 j hj), fun j => by rw [World.frozen?_setCell]; exact h.arr.2 j⟩, there_set h.out (by have := h.lt; omega), h.lt, h.below.setCell (by show w.heap.size ≤ q; have := h.lt; omega) _⟩
def updL (g : Nat → Value) (o : Nat) : List Value → Nat → Value
  | [] => g
  | v :: vs => updL (updG g o v) (o + 1) vs
theorem LowK.updL {w : World} {b : Nat} {A : Nat → Option Addr} {n m : Nat → Nat} {bk : Bool} : ∀ (vs : List Value) (g : Nat → Value) (o : Nat) (W : World), LowK w W b A n m bk g → o + vs.length ≤ 30 → LowK w (W.setCells b o vs) b A n m bk (updL g o vs)
  | [], _, _, _, h, _ => h
  | v :: vs, g, o, W, h, hl => LowK.updL vs (Go.Proofs.YtochhmkdhdadhaaGreat.updG g o v) (o + 1) (W.setCell ⟨b, o, none⟩ v) (h.updG o (by simp at hl; omega) v) (by simp at hl; omega)
theorem arr_there {W : World} {b : Nat} {g : Nat → Value} (h : Arr W b 30 g) (o k : Nat) (hk : o + k ≤ 30) : W.there b o k := fun j hj => ⟨by rw [h.1 (o + j) (by omega)]; rfl, h.2 (o + j)⟩
theorem wp_store_rng {ops : Array Oper} {rest : List Oper} {op : Oper} {a : Act} {Q : Exit → Act → World → Prop} {W : World} (hgd : op.guard = none) (t : TypeId) (x y : Operand) (ho : op.op = .store t x y) (cs : Array Value) (b off : Nat)
    (hx : a.eval x = .pointer (some ⟨b, off, none⟩)) (hy : a.eval y = .agg cs) (hi : (Tryz.prog.info? t).map (·.size) = some cs.size) (h1 : cs.all (·.oneCell') = true) (ht : W.there b off cs.size)
    (h : wpList Tryz.prog ops Q rest (a.put op.dst undef) (W.setCells b off cs.toList)) : wpList Tryz.prog ops Q (op :: rest) a W :=
  wpList_store_mid (P := Tryz.prog) hgd t x y ho b off cs hx hy ht hi h1 h
/-- A clause by its parts. -/
def mkK (a0 a1 a2 a3 D : Int) (bk : Bool) (wk : Int) (y : Nat → Int) : Cl := { m := fun i => if i = 0 then a0 else if i = 1 then a1 else if i = 2 then a2 else if i = 3 then a3 else if i = 4 then (if bk then spanM 1 31 else D) else if i = 5 then (if bk then D else spanM 1 31) else wk, or := false, oi := 0, ob := false, od := fun _ => 0, y := y, u := 0, s := 1, a := 0, f := 0, t := 12622780799 }
def evWk (c : CalV) : Int := if (kget c 0).length = 0 then spanM 1 7 else maskL (refVal (kget c 0) 1 7)
def evY (c : CalV) : Nat → Int := wordL ((refVal (kget c 1) 1970 2369).map (· - 1970))
/-- The clause of an event. -/
def evC (c : CalV) : Cl := mkK (maskL (refVal (kget c 6) 0 59)) (maskL (refVal (kget c 5) 0 59)) (maskL (refVal (kget c 4) 0 23)) (maskL (refVal (kget c 2) 1 12)) (maskL (refVal (kget c 3) 1 31)) c.back (evWk c) (evY c)
def fullG : Nat → Value := fun j => (clA fullC).getD j undef
def yL (y : Nat → Int) : List Value := [.int .u64 (y 0), .int .u64 (y 1), .int .u64 (y 2), .int .u64 (y 3), .int .u64 (y 4), .int .u64 (y 5), .int .u64 (y 6)]
theorem j30 {p : Nat → Prop} (h : p 0 ∧ p 1 ∧ p 2 ∧ p 3 ∧ p 4 ∧ p 5 ∧ p 6 ∧ p 7 ∧ p 8 ∧ p 9 ∧ p 10 ∧ p 11 ∧ p 12 ∧ p 13 ∧ p 14 ∧ p 15 ∧ p 16 ∧ p 17 ∧ p 18 ∧ p 19 ∧ p 20 ∧ p 21 ∧ p 22 ∧ p 23 ∧ p 24 ∧ p 25 ∧ p 26 ∧ p 27 ∧ p 28 ∧ p 29) : ∀ j, j < 30 → p j := by
  intro j hj
  obtain rfl | rfl | rfl | rfl | rfl | rfl | rfl | rfl | rfl | rfl | rfl | rfl | rfl | rfl | rfl | rfl | rfl | rfl | rfl | rfl | rfl | rfl | rfl | rfl | rfl | rfl | rfl | rfl | rfl | rfl : j = 0 ∨ j = 1 ∨ j = 2 ∨ j = 3 ∨ j = 4 ∨ j = 5 ∨ j = 6 ∨ j = 7 ∨ j = 8 ∨ j = 9 ∨ j = 10 ∨ j = 11 ∨ j = 12 ∨ j = 13 ∨ j = 14 ∨ j = 15 ∨ j = 16 ∨ j = 17 ∨ j = 18 ∨ j = 19 ∨ j = 20 ∨ j = 21 ∨ j = 22 ∨ j = 23 ∨ j = 24 ∨ j = 25 ∨ j = 26 ∨ j = 27 ∨ j = 28 ∨ j = 29 := by omega
  all_goals simp only [h]
theorem ev_upd1 (a0 a1 a2 a3 D wk : Int) (y : Nat → Int) : ∀ j, j < 30 → updG (updG (updG (updG (updG (updL (updG fullG 6 (.int .u64 wk)) 18 (yL y)) 3 (.int .u64 a3)) 2 (.int .u64 a2)) 1 (.int .u64 a1)) 0 (.int .u64 a0)) 5 (.int .u64 D) j = (clA (mkK a0 a1 a2 a3 D true wk y)).getD j undef :=
  j30 ⟨rfl, rfl, rfl, rfl, rfl, rfl, rfl, rfl, rfl, rfl, rfl, rfl, rfl, rfl, rfl, rfl, rfl, rfl, rfl, rfl, rfl, rfl, rfl, rfl, rfl, rfl, rfl, rfl, rfl, rfl⟩
theorem ev_upd2 (a0 a1 a2 a3 D wk : Int) (y : Nat → Int) : ∀ j, j < 30 → updG (updG (updG (updG (updG (updL (updG fullG 6 (.int .u64 wk)) 18 (yL y)) 3 (.int .u64 a3)) 2 (.int .u64 a2)) 1 (.int .u64 a1)) 0 (.int .u64 a0)) 4 (.int .u64 D) j = (clA (mkK a0 a1 a2 a3 D false wk y)).getD j undef :=
  j30 ⟨rfl, rfl, rfl, rfl, rfl, rfl, rfl, rfl, rfl, rfl, rfl, rfl, rfl, rfl, rfl, rfl, rfl, rfl, rfl, rfl, rfl, rfl, rfl, rfl, rfl, rfl, rfl, rfl, rfl, rfl⟩
theorem ev_upd3 (a0 a1 a2 a3 D : Int) (y : Nat → Int) : ∀ j, j < 30 → updG (updG (updG (updG (updG (updL fullG 18 (yL y)) 3 (.int .u64 a3)) 2 (.int .u64 a2)) 1 (.int .u64 a1)) 0 (.int .u64 a0)) 5 (.int .u64 D) j = (clA (mkK a0 a1 a2 a3 D true (spanM 1 7) y)).getD j undef :=
  j30 ⟨rfl, rfl, rfl, rfl, rfl, rfl, rfl, rfl, rfl, rfl, rfl, rfl, rfl, rfl, rfl, rfl, rfl, rfl, rfl, rfl, rfl, rfl, rfl, rfl, rfl, rfl, rfl, rfl, rfl, rfl⟩
theorem ev_upd4 (a0 a1 a2 a3 D : Int) (y : Nat → Int) : ∀ j, j < 30 → updG (updG (updG (updG (updG (updL fullG 18 (yL y)) 3 (.int .u64 a3)) 2 (.int .u64 a2)) 1 (.int .u64 a1)) 0 (.int .u64 a0)) 4 (.int .u64 D) j = (clA (mkK a0 a1 a2 a3 D false (spanM 1 7) y)).getD j undef :=
  j30 ⟨rfl, rfl, rfl, rfl, rfl, rfl, rfl, rfl, rfl, rfl, rfl, rfl, rfl, rfl, rfl, rfl, rfl, rfl, rfl, rfl, rfl, rfl, rfl, rfl, rfl, rfl, rfl, rfl, rfl, rfl⟩
theorem imaskK_any (lo hi : Int) (A : Option Addr) (n c : Nat) (l : List It) (w : World) (hA : RdIts w A n l) (hn : n ≤ 100000) :
    Calls Tryz.prog 21 #[.int .i64 lo, .int .i64 hi, .slice A n c] w (Ret (.int .u64 (maskL (refVal l lo hi))) w) := by
  have HV := Lib.hid (values_any lo hi A n c l w hA hn)
  have hlen : (valL lo hi l).length ≤ 1000000000 := by
    have h1 := rawL_len lo hi l
    have h2 := compact_len ((rawL lo hi l).mergeSort fun x y => decide (x ≤ y))
    rw [sortL_len] at h2
    have h3 : l.length = n := hA.1
    unfold valL
    omega
  rw [← val_eq]
  generalize valL lo hi l = V at *
  clear hA
  go_enter Tryz.func21, Tryz.ntmps21
  go_wp2_with fail
  refine HV.out.mono ?_
  rintro e w1 ⟨v, rfl, hown, hb⟩
  obtain ⟨A', c', rfl, _, _, hrd, _⟩ := OwnInts.rd hown
  have HM := Lib.hid (maskOf_any A' V.length c' V w1 hrd (by omega))
  clear hown hrd
  go_wp2_with fail
  refine HM.out.mono ?_
  rintro e w2 ⟨rfl, rfl⟩
  go_wp2
  go_ret
  exact ⟨rfl, hb⟩

set_option maxHeartbeats 1000000 in
/-- The mask of a field. -/
theorem callow1_any (k : Nat) (hk : k < 7) (lo hi : Int) (hlo : kLo k = lo) (hhi : kHi k = hi) (b : Nat) (A : Nat → Option Addr) (n m : Nat → Nat) (c : CalV) (W : World) (hE : EvAt W b A n m c.back) (hA : RdEv W A n c) (hn : ∀ j, j < 8 → j ≠ 4 → n j ≤ 100000) :
    Calls Tryz.prog 19 #[.int .i64 (k : Int), .pointer (some ⟨b, 0, none⟩)] W (Ret (.int .u64 (maskL (refVal (kget c k) lo hi))) W) := by
  have HB := Lib.hid (fun W => kbounds_any k hk W)
  have HF := Lib.hid (fun W' (hb : Below W.heap.size W W') => kfield_in k hk c A n m c.back W' (hA.below hb) (fun j h1 h2 => by have := hn j h1 h2; omega))
  have HM := Lib.hid (fun A' c' W' (h : RdIts W' A' (n (kslot k)) (kget c k)) => imaskK_any lo hi A' (n (kslot k)) c' (kget c k) W' h (hn _ (kslot_ok hk).1 (kslot_ok hk).2))
  rw [hlo, hhi] at HB
  have HE := Lib.hid hE
  unfold evV at HF
  clear hA hE hlo hhi hn
  generalize maskL (refVal (kget c k) lo hi) = M at *
  generalize c.back = bk at *
  go_enter Tryz.func19, Tryz.ntmps19
  go_wp2_with fail
  refine (HB.out _).mono ?_
  rintro e w1 ⟨rfl, hb1⟩
  have HE1 := Lib.hid (HE.out.below hb1)
  have e0 := HE1.out.h0
  have e1 := HE1.out.h1
  have e2 := HE1.out.h2
  have e3 := HE1.out.h3
  have e4 := HE1.out.h4
  have e5 := HE1.out.h5
  have e6 := HE1.out.h6
  have e7 := HE1.out.h7
  go_wp2_with fail
  refine (HF.out _ hb1).mono ?_
  rintro e w2 ⟨A', c', rfl, hr, hb2⟩
  have hbW := bthen hb1 hb2 hb1.size
  clear e0 e1 e2 e3 e4 e5 e6 e7 HE1 hb1 hb2
  go_wp2_with fail
  refine (HM.out _ _ _ hr).mono ?_
  rintro e w3 ⟨rfl, hb3⟩
  go_wp2
  go_ret
  exact ⟨rfl, bthen hbW hb3 hbW.size⟩
theorem val_ref (l : List It) (lo hi : Int) : valL lo hi l = refVal l lo hi := val_eq lo hi l
set_option maxRecDepth 20000 in
set_option maxHeartbeats 8000000 in
theorem klowClause_ok (A : Nat → Option Addr) (n m : Nat → Nat) (c : CalV) (w : World) (hA : RdEv w A n c) (hn : ∀ j, j < 8 → j ≠ 4 → n j ≤ 100000) (h : kchk c = (7, 0)) :
    Calls Tryz.prog 9 #[evV A n m c.back] w (Ret (.tuple #[.agg (clA (evC c)), .int .i64 0]) w) := by
  have HK := Lib.hid (fun W (hb : Below w.heap.size w W) => kcheck_any A n m c c.back W (hA.below hb) (fun k hk => by have := hn _ (kslot_ok hk).1 (kslot_ok hk).2; omega))
  rw [h] at HK
  have HF := Lib.hid (fun W => cfull_any W)
  have eg : ∀ args w, (callFunc 19 args).run Tryz.prog w = .ok (.enter 19 args) w := enters_of Tryz.func19 (by kernel_rfl) rfl
  have H0 := Lib.hid (fun W (hb : Below w.heap.size w W) (h : EvAt W w.heap.size A n m c.back) => callow1_any 0 (by decide) 1 7 rfl rfl w.heap.size A n m c W h (hA.below hb) hn)
  have H2 := Lib.hid (fun W (hb : Below w.heap.size w W) (h : EvAt W w.heap.size A n m c.back) => callow1_any 2 (by decide) 1 12 rfl rfl w.heap.size A n m c W h (hA.below hb) hn)
  have H3 := Lib.hid (fun W (hb : Below w.heap.size w W) (h : EvAt W w.heap.size A n m c.back) => callow1_any 3 (by decide) 1 31 rfl rfl w.heap.size A n m c W h (hA.below hb) hn)
  have H4 := Lib.hid (fun W (hb : Below w.heap.size w W) (h : EvAt W w.heap.size A n m c.back) => callow1_any 4 (by decide) 0 23 rfl rfl w.heap.size A n m c W h (hA.below hb) hn)
  have H5 := Lib.hid (fun W (hb : Below w.heap.size w W) (h : EvAt W w.heap.size A n m c.back) => callow1_any 5 (by decide) 0 59 rfl rfl w.heap.size A n m c W h (hA.below hb) hn)
  have H6 := Lib.hid (fun W (hb : Below w.heap.size w W) (h : EvAt W w.heap.size A n m c.back) => callow1_any 6 (by decide) 0 59 rfl rfl w.heap.size A n m c W h (hA.below hb) hn)
  have HY : Hid (∀ W, Below w.heap.size w W → Calls Tryz.prog 23 #[.int .i64 1970, .int .i64 2369, .slice (A 1) (n 1) (m 1)] W (Ret (.agg #[.int .u64 (evY c 0), .int .u64 (evY c 1), .int .u64 (evY c 2), .int .u64 (evY c 3), .int .u64 (evY c 4), .int .u64 (evY c 5), .int .u64 (evY c 6)]) W)) := fun W hb => by
    have := wide_any 1970 2369 (A 1) (n 1) (m 1) (kget c 1) W ((hA.slot (k := 1) (by decide)).below hb (Nat.le_refl _)) (hn 1 (by decide) (by decide)) ⟨by decide, by decide⟩
    rw [val_ref] at this
    exact this
  have HI := Lib.hid (cl_info fullC)
  have HC := Lib.hid (clA_cells fullC)
  have HI2 := Lib.hid (cl_info (evC c))
  have HC2 := Lib.hid (clA_cells (evC c))
  have HZs : Hid (30 = (clA fullC).size ∧ (clA fullC).size = 30) := ⟨rfl, rfl⟩
  have HS30 : Hid ((clA (evC c)).size = 30) := rfl
  have hl0 : (kget c 0).length = n 0 := (hA.slot (k := 0) (by decide)).1
  have HEv : Hid (evC c = mkK (maskL (refVal (kget c 6) 0 59)) (maskL (refVal (kget c 5) 0 59)) (maskL (refVal (kget c 4) 0 23)) (maskL (refVal (kget c 2) 1 12)) (maskL (refVal (kget c 3) 1 31)) c.back (if n 0 = 0 then spanM 1 7 else maskL (refVal (kget c 0) 1 7)) (evY c)) := by
    show _ = _
    rw [← hl0]; rfl
  clear hA hn h hl0
  generalize maskL (refVal (kget c 6) 0 59) = M0 at *
  generalize maskL (refVal (kget c 5) 0 59) = M1 at *
  generalize maskL (refVal (kget c 4) 0 23) = M2 at *
  generalize maskL (refVal (kget c 2) 1 12) = M3 at *
  generalize maskL (refVal (kget c 3) 1 31) = MD at *
  generalize maskL (refVal (kget c 0) 1 7) = MW at *
  generalize evY c = y at *
  generalize evC c = K at *
  generalize c.back = bk at *
  unfold evV
  by_cases h0 : n 0 = 0
  · have h0' : ¬ 0 < (n 0 : Int) := by omega
    have HG : Hid (∀ j, j < 30 → (if bk then updG (updG (updG (updG (updG (updL fullG 18 (yL y)) 3 (.int .u64 M3)) 2 (.int .u64 M2)) 1 (.int .u64 M1)) 0 (.int .u64 M0)) 5 (.int .u64 MD) j else updG (updG (updG (updG (updG (updL fullG 18 (yL y)) 3 (.int .u64 M3)) 2 (.int .u64 M2)) 1 (.int .u64 M1)) 0 (.int .u64 M0)) 4 (.int .u64 MD) j) = (clA K).getD j undef) := by
      show ∀ j, _
      rw [HEv.out, if_pos h0]
      cases bk
      · exact ev_upd4 M0 M1 M2 M3 MD y
      · exact ev_upd3 M0 M1 M2 M3 MD y
    unfold fullG yL at HG
    clear h0 HEv
    generalize clA fullC = cs at *
    generalize clA K = zs at *
    go_enter Tryz.func9, Tryz.ntmps9
    go_wp2_with fail
    have hT := there_new (w.alloc (.cells #[.slice (A 0) (n 0) (m 0), .slice (A 1) (n 1) (m 1), .slice (A 2) (n 2) (m 2), .slice (A 3) (n 3) (m 3), .bool bk, .slice (A 5) (n 5) (m 5), .slice (A 6) (n 6) (m 6), .slice (A 7) (n 7) (m 7)] 24)) #[.int .u64 0, .int .u64 0, .int .u64 0, .int .u64 0, .int .u64 0, .int .u64 0, .int .u64 0, .bool false, .int .i64 0, .bool false, .int .u64 0, .int .u64 0, .int .u64 0, .int .u64 0, .int .u64 0, .int .u64 0, .int .u64 0, .int .u64 0, .int .u64 0, .int .u64 0, .int .u64 0, .int .u64 0, .int .u64 0, .int .u64 0, .int .u64 0, .int .i64 0, .int .i64 0, .int .i64 0, .int .i64 0, .int .i64 0] 37
    rw [show (w.alloc (.cells #[.slice (A 0) (n 0) (m 0), .slice (A 1) (n 1) (m 1), .slice (A 2) (n 2) (m 2), .slice (A 3) (n 3) (m 3), .bool bk, .slice (A 5) (n 5) (m 5), .slice (A 6) (n 6) (m 6), .slice (A 7) (n 7) (m 7)] 24)).heap.size = w.heap.size + 1 by simp] at hT
    have hE := (evAt_new w A n m bk 24).below ((Below.refl _ _).alloc (Nat.le_refl _) (.cells #[.int .u64 0, .int .u64 0, .int .u64 0, .int .u64 0, .int .u64 0, .int .u64 0, .int .u64 0, .bool false, .int .i64 0, .bool false, .int .u64 0, .int .u64 0, .int .u64 0, .int .u64 0, .int .u64 0, .int .u64 0, .int .u64 0, .int .u64 0, .int .u64 0, .int .u64 0, .int .u64 0, .int .u64 0, .int .u64 0, .int .u64 0, .int .u64 0, .int .i64 0, .int .i64 0, .int .i64 0, .int .i64 0, .int .i64 0] 37))
    have hb1 : Below w.heap.size w ((w.alloc (.cells #[.slice (A 0) (n 0) (m 0), .slice (A 1) (n 1) (m 1), .slice (A 2) (n 2) (m 2), .slice (A 3) (n 3) (m 3), .bool bk, .slice (A 5) (n 5) (m 5), .slice (A 6) (n 6) (m 6), .slice (A 7) (n 7) (m 7)] 24)).alloc (.cells #[.int .u64 0, .int .u64 0, .int .u64 0, .int .u64 0, .int .u64 0, .int .u64 0, .int .u64 0, .bool false, .int .i64 0, .bool false, .int .u64 0, .int .u64 0, .int .u64 0, .int .u64 0, .int .u64 0, .int .u64 0, .int .u64 0, .int .u64 0, .int .u64 0, .int .u64 0, .int .u64 0, .int .u64 0, .int .u64 0, .int .u64 0, .int .u64 0, .int .i64 0, .int .i64 0, .int .i64 0, .int .i64 0, .int .i64 0] 37)) := by (repeat' (first | (with_reducible exact Below.refl _ _) | (with_reducible assumption) | (with_reducible refine below_drewN ?_ _) | (with_reducible refine Below.alloc ?_ ?_ _) | (with_reducible refine Below.drew ?_) | (with_reducible refine Below.setCell ?_ ?_ _) | go_size))
    have hz1 : w.heap.size + 2 ≤ ((w.alloc (.cells #[.slice (A 0) (n 0) (m 0), .slice (A 1) (n 1) (m 1), .slice (A 2) (n 2) (m 2), .slice (A 3) (n 3) (m 3), .bool bk, .slice (A 5) (n 5) (m 5), .slice (A 6) (n 6) (m 6), .slice (A 7) (n 7) (m 7)] 24)).alloc (.cells #[.int .u64 0, .int .u64 0, .int .u64 0, .int .u64 0, .int .u64 0, .int .u64 0, .int .u64 0, .bool false, .int .i64 0, .bool false, .int .u64 0, .int .u64 0, .int .u64 0, .int .u64 0, .int .u64 0, .int .u64 0, .int .u64 0, .int .u64 0, .int .u64 0, .int .u64 0, .int .u64 0, .int .u64 0, .int .u64 0, .int .u64 0, .int .u64 0, .int .i64 0, .int .i64 0, .int .i64 0, .int .i64 0, .int .i64 0] 37)).heap.size := by simp
    generalize (w.alloc (.cells #[.slice (A 0) (n 0) (m 0), .slice (A 1) (n 1) (m 1), .slice (A 2) (n 2) (m 2), .slice (A 3) (n 3) (m 3), .bool bk, .slice (A 5) (n 5) (m 5), .slice (A 6) (n 6) (m 6), .slice (A 7) (n 7) (m 7)] 24)).alloc (.cells #[.int .u64 0, .int .u64 0, .int .u64 0, .int .u64 0, .int .u64 0, .int .u64 0, .int .u64 0, .bool false, .int .i64 0, .bool false, .int .u64 0, .int .u64 0, .int .u64 0, .int .u64 0, .int .u64 0, .int .u64 0, .int .u64 0, .int .u64 0, .int .u64 0, .int .u64 0, .int .u64 0, .int .u64 0, .int .u64 0, .int .u64 0, .int .u64 0, .int .i64 0, .int .i64 0, .int .i64 0, .int .i64 0, .int .i64 0] 37) = w1 at *
    have HE1 := Lib.hid hE
    have HT1 := Lib.hid hT
    clear hE hT
    refine (HK.out _ hb1).mono ?_
    rintro x w1' ⟨rfl, hq⟩
    replace HE1 := Lib.hid (HE1.out.below hq)
    replace HT1 := Lib.hid (there_below HT1.out (by omega) hq)
    replace hz1 : w.heap.size + 2 ≤ w1'.heap.size := by have := hq.size; omega
    replace hb1 := bthen hb1 hq hb1.size
    clear hq HK
    go_wp2_with fail
    refine (HF.out _).mono ?_
    rintro x w2 ⟨rfl, hq2⟩
    have hb2 := bthen hb1 hq2 hb1.size
    have HE2 := Lib.hid (HE1.out.below hq2)
    have HT2 := Lib.hid (there_below HT1.out (by omega) hq2)
    have hz2 : w.heap.size + 2 ≤ w2.heap.size := by have := hq2.size; omega
    clear HE1 HT1 hb1 hq2 hz1 HF
    go_wp2_with (refine wp_store_new (by rfl) 37 _ _ rfl cs _ rfl rfl HI.out HC.out HZs.out.1 ?_; intro w3 hq3 HA3 hz3; have HS : Hid (LowK w w3 w2.heap.size A n m bk (fun j => cs.getD j undef)) := ⟨HE2.out.below hq3, by rw [← HZs.out.2]; exact HA3, there_below HT2.out (by omega) hq3, by omega, bthen hb2 hq3 hb2.size⟩; have e0 := HS.out.ev.h0; have e1 := HS.out.ev.h1; have e2 := HS.out.ev.h2; have e3 := HS.out.ev.h3; have e4 := HS.out.ev.h4; have e5 := HS.out.ev.h5; have e6 := HS.out.ev.h6; have e7 := HS.out.ev.h7; have hltB : w.heap.size < w2.heap.size := by omega)
    clear hq3 HA3 hz3 HE2 HT2 hb2 hz2
    generalize hB : w2.heap.size = B at *
    clear hB
    refine (HY.out _ HS.out.below).mono ?_
    rintro x w5 ⟨rfl, hq⟩
    replace HS := Lib.hid (HS.out.later hq)
    clear hq HY
    ((try clear e0); (try clear e1); (try clear e2); (try clear e3); (try clear e4); (try clear e5); (try clear e6); (try clear e7); (try clear hltB))
    go_wp2_with (refine wp_store_rng rfl 35 _ _ rfl #[.int .u64 (y 0), .int .u64 (y 1), .int .u64 (y 2), .int .u64 (y 3), .int .u64 (y 4), .int .u64 (y 5), .int .u64 (y 6)] B 18 rfl rfl (by kernel_rfl) (by kernel_rfl) (arr_there HS.out.arr 18 7 (by decide)) ?_; generalize hW6 : World.setCells _ _ _ _ = w6; replace hW6 := Lib.hid hW6)
    have HSy := LowK.updL [.int .u64 (y 0), .int .u64 (y 1), .int .u64 (y 2), .int .u64 (y 3), .int .u64 (y 4), .int .u64 (y 5), .int .u64 (y 6)] _ 18 _ HS.out (by simp)
    rw [show World.setCells w5 B 18 [.int .u64 (y 0), .int .u64 (y 1), .int .u64 (y 2), .int .u64 (y 3), .int .u64 (y 4), .int .u64 (y 5), .int .u64 (y 6)] = w6 from hW6.out] at HSy
    replace HS := Lib.hid HSy
    clear HSy hW6
    ((try clear e0); (try clear e1); (try clear e2); (try clear e3); (try clear e4); (try clear e5); (try clear e6); (try clear e7); (try clear hltB))
    refine (H2.out _ HS.out.below HS.out.ev).mono ?_
    rintro x w7 ⟨rfl, hq⟩
    replace HS := Lib.hid (HS.out.later hq)
    clear hq H2
    ((try clear e0); (try clear e1); (try clear e2); (try clear e3); (try clear e4); (try clear e5); (try clear e6); (try clear e7); (try clear hltB))
    have e0 := HS.out.ev.h0; have e1 := HS.out.ev.h1; have e2 := HS.out.ev.h2; have e3 := HS.out.ev.h3; have e4 := HS.out.ev.h4; have e5 := HS.out.ev.h5; have e6 := HS.out.ev.h6; have e7 := HS.out.ev.h7; have hltB : w.heap.size < B := Nat.lt_trans (Nat.lt_succ_self _) HS.out.lt
    go_wp2_with fail
    refine (H4.out _ HS.out.below HS.out.ev).mono ?_
    rintro x w8 ⟨rfl, hq⟩
    replace HS := Lib.hid (HS.out.later hq)
    clear hq H4
    ((try clear e0); (try clear e1); (try clear e2); (try clear e3); (try clear e4); (try clear e5); (try clear e6); (try clear e7); (try clear hltB))
    have e0 := HS.out.ev.h0; have e1 := HS.out.ev.h1; have e2 := HS.out.ev.h2; have e3 := HS.out.ev.h3; have e4 := HS.out.ev.h4; have e5 := HS.out.ev.h5; have e6 := HS.out.ev.h6; have e7 := HS.out.ev.h7; have hltB : w.heap.size < B := Nat.lt_trans (Nat.lt_succ_self _) HS.out.lt
    go_wp2_with fail
    refine (H5.out _ HS.out.below HS.out.ev).mono ?_
    rintro x w9 ⟨rfl, hq⟩
    replace HS := Lib.hid (HS.out.later hq)
    clear hq H5
    ((try clear e0); (try clear e1); (try clear e2); (try clear e3); (try clear e4); (try clear e5); (try clear e6); (try clear e7); (try clear hltB))
    have e0 := HS.out.ev.h0; have e1 := HS.out.ev.h1; have e2 := HS.out.ev.h2; have e3 := HS.out.ev.h3; have e4 := HS.out.ev.h4; have e5 := HS.out.ev.h5; have e6 := HS.out.ev.h6; have e7 := HS.out.ev.h7; have hltB : w.heap.size < B := Nat.lt_trans (Nat.lt_succ_self _) HS.out.lt
    go_wp2_with fail
    refine (H6.out _ HS.out.below HS.out.ev).mono ?_
    rintro x w10 ⟨rfl, hq⟩
    replace HS := Lib.hid (HS.out.later hq)
    clear hq H6
    ((try clear e0); (try clear e1); (try clear e2); (try clear e3); (try clear e4); (try clear e5); (try clear e6); (try clear e7); (try clear hltB))
    have e0 := HS.out.ev.h0; have e1 := HS.out.ev.h1; have e2 := HS.out.ev.h2; have e3 := HS.out.ev.h3; have e4 := HS.out.ev.h4; have e5 := HS.out.ev.h5; have e6 := HS.out.ev.h6; have e7 := HS.out.ev.h7; have hltB : w.heap.size < B := Nat.lt_trans (Nat.lt_succ_self _) HS.out.lt
    have c3 := HS.out.arr.1 3 (by decide)
    have c2 := HS.out.arr.1 2 (by decide)
    have c1 := HS.out.arr.1 1 (by decide)
    have c0 := HS.out.arr.1 0 (by decide)
    have f3 := HS.out.arr.2 3
    have f2 := HS.out.arr.2 2
    have f1 := HS.out.arr.2 1
    have f0 := HS.out.arr.2 0
    cases bk with
    | true =>
      go_wp2_with fail
      replace HS := Lib.hid ((((HS.out.updG 3 (by decide) (.int .u64 M3)).updG 2 (by decide) (.int .u64 M2)).updG 1 (by decide) (.int .u64 M1)).updG 0 (by decide) (.int .u64 M0))
      clear c0 c1 c2 c3 f0 f1 f2 f3
      ((try clear e0); (try clear e1); (try clear e2); (try clear e3); (try clear e4); (try clear e5); (try clear e6); (try clear e7); (try clear hltB))
      generalize World.setCell (World.setCell (World.setCell (World.setCell w10 _ _) _ _) _ _) _ _ = w11 at *
      refine (H3.out _ HS.out.below HS.out.ev).mono ?_
      rintro x w12 ⟨rfl, hq⟩
      replace HS := Lib.hid (HS.out.later hq)
      clear hq H3
      ((try clear e0); (try clear e1); (try clear e2); (try clear e3); (try clear e4); (try clear e5); (try clear e6); (try clear e7); (try clear hltB))
      have c0 := HS.out.arr.1 5 (by decide)
      have f0 := HS.out.arr.2 5
      have HSo := HS
      replace HS := Lib.hid (HS.out.updG 5 (by decide) (.int .u64 MD))
      clear HSo
      have HZ14 : Hid (∀ j v, zs[j]? = some v → (w12.setCell ⟨B, 5, none⟩ (.int .u64 MD)).cell? ⟨B, 0 + j, none⟩ = some v) := fun j v hj => by
        have hl : j < 30 := by rw [← HS30.out]; exact (Array.getElem?_eq_some_iff.1 hj).1
        rw [Nat.zero_add]
        refine ((HS.out.arr.1 j hl).trans (congrArg some (HG.out j hl))).trans ?_
        rw [Array.getD_eq_getD_getElem?, hj]
        rfl
      have HT14 : Hid ((w12.setCell ⟨B, 5, none⟩ (.int .u64 MD)).there (w.heap.size + 1) 0 zs.size) := by show World.there _ _ _ _; rw [HS30.out]; exact HS.out.out
      have HB14 := Lib.hid HS.out.below
      clear HG HS
      go_wp2_with (first
        | (refine wp_load_arr (by rfl) 37 _ rfl zs B 0 rfl Tryz.underlying37 rfl HI2.out HZ14.out ?_)
        | (refine wp_store_at (w := w) rfl 37 _ _ rfl zs (w.heap.size + 1) (by omega) rfl rfl Tryz.underlying37 rfl HI2.out HC2.out HB14.out HT14.out ?_; intro W' hLd hbE))
      (try simp only [Exit.inBlock, Exit.then])
      skip
      skip
      refine bodyPost_ret (v := .tuple #[.agg zs, .int .i64 0]) ?_ rfl ⟨rfl, hbE⟩
      rw [results_cell_b rfl]
      show ((loadVar 37 ⟨w.heap.size + 1, 0, none⟩).run Tryz.prog W').andThen (fun v w₂ => Result.ok (Value.tuple #[v, Value.int .i64 0]) w₂) = _
      rw [hLd.out]
      rfl
    | false =>
      go_wp2_with fail
      replace HS := Lib.hid ((((HS.out.updG 3 (by decide) (.int .u64 M3)).updG 2 (by decide) (.int .u64 M2)).updG 1 (by decide) (.int .u64 M1)).updG 0 (by decide) (.int .u64 M0))
      clear c0 c1 c2 c3 f0 f1 f2 f3
      ((try clear e0); (try clear e1); (try clear e2); (try clear e3); (try clear e4); (try clear e5); (try clear e6); (try clear e7); (try clear hltB))
      generalize World.setCell (World.setCell (World.setCell (World.setCell w10 _ _) _ _) _ _) _ _ = w11 at *
      refine (H3.out _ HS.out.below HS.out.ev).mono ?_
      rintro x w12 ⟨rfl, hq⟩
      replace HS := Lib.hid (HS.out.later hq)
      clear hq H3
      ((try clear e0); (try clear e1); (try clear e2); (try clear e3); (try clear e4); (try clear e5); (try clear e6); (try clear e7); (try clear hltB))
      have c0 := HS.out.arr.1 4 (by decide)
      have f0 := HS.out.arr.2 4
      replace HS := Lib.hid (HS.out.updG 4 (by decide) (.int .u64 MD))
      have HZ14 : Hid (∀ j v, zs[j]? = some v → (w12.setCell ⟨B, 4, none⟩ (.int .u64 MD)).cell? ⟨B, 0 + j, none⟩ = some v) := fun j v hj => by
        have hl : j < 30 := by rw [← HS30.out]; exact (Array.getElem?_eq_some_iff.1 hj).1
        rw [Nat.zero_add]
        refine ((HS.out.arr.1 j hl).trans (congrArg some (HG.out j hl))).trans ?_
        rw [Array.getD_eq_getD_getElem?, hj]
        rfl
      have HT14 : Hid ((w12.setCell ⟨B, 4, none⟩ (.int .u64 MD)).there (w.heap.size + 1) 0 zs.size) := by show World.there _ _ _ _; rw [HS30.out]; exact HS.out.out
      have HB14 := Lib.hid HS.out.below
      clear HG HS
      go_wp2_with (first
        | (refine wp_load_arr (by rfl) 37 _ rfl zs B 0 rfl Tryz.underlying37 rfl HI2.out HZ14.out ?_)
        | (refine wp_store_at (w := w) rfl 37 _ _ rfl zs (w.heap.size + 1) (by omega) rfl rfl Tryz.underlying37 rfl HI2.out HC2.out HB14.out HT14.out ?_; intro W' hLd hbE))
      (try simp only [Exit.inBlock, Exit.then])
      skip
      skip
      refine bodyPost_ret (v := .tuple #[.agg zs, .int .i64 0]) ?_ rfl ⟨rfl, hbE⟩
      rw [results_cell_b rfl]
      show ((loadVar 37 ⟨w.heap.size + 1, 0, none⟩).run Tryz.prog W').andThen (fun v w₂ => Result.ok (Value.tuple #[v, Value.int .i64 0]) w₂) = _
      rw [hLd.out]
      rfl
  · have h0' : 0 < (n 0 : Int) := by omega
    have HG : Hid (∀ j, j < 30 → (if bk then updG (updG (updG (updG (updG (updL (updG fullG 6 (.int .u64 MW)) 18 (yL y)) 3 (.int .u64 M3)) 2 (.int .u64 M2)) 1 (.int .u64 M1)) 0 (.int .u64 M0)) 5 (.int .u64 MD) j else updG (updG (updG (updG (updG (updL (updG fullG 6 (.int .u64 MW)) 18 (yL y)) 3 (.int .u64 M3)) 2 (.int .u64 M2)) 1 (.int .u64 M1)) 0 (.int .u64 M0)) 4 (.int .u64 MD) j) = (clA K).getD j undef) := by
      show ∀ j, _
      rw [HEv.out, if_neg h0]
      cases bk
      · exact ev_upd2 M0 M1 M2 M3 MD MW y
      · exact ev_upd1 M0 M1 M2 M3 MD MW y
    unfold fullG yL at HG
    clear h0 HEv
    generalize clA fullC = cs at *
    generalize clA K = zs at *
    go_enter Tryz.func9, Tryz.ntmps9
    go_wp2_with fail
    have hT := there_new (w.alloc (.cells #[.slice (A 0) (n 0) (m 0), .slice (A 1) (n 1) (m 1), .slice (A 2) (n 2) (m 2), .slice (A 3) (n 3) (m 3), .bool bk, .slice (A 5) (n 5) (m 5), .slice (A 6) (n 6) (m 6), .slice (A 7) (n 7) (m 7)] 24)) #[.int .u64 0, .int .u64 0, .int .u64 0, .int .u64 0, .int .u64 0, .int .u64 0, .int .u64 0, .bool false, .int .i64 0, .bool false, .int .u64 0, .int .u64 0, .int .u64 0, .int .u64 0, .int .u64 0, .int .u64 0, .int .u64 0, .int .u64 0, .int .u64 0, .int .u64 0, .int .u64 0, .int .u64 0, .int .u64 0, .int .u64 0, .int .u64 0, .int .i64 0, .int .i64 0, .int .i64 0, .int .i64 0, .int .i64 0] 37
    rw [show (w.alloc (.cells #[.slice (A 0) (n 0) (m 0), .slice (A 1) (n 1) (m 1), .slice (A 2) (n 2) (m 2), .slice (A 3) (n 3) (m 3), .bool bk, .slice (A 5) (n 5) (m 5), .slice (A 6) (n 6) (m 6), .slice (A 7) (n 7) (m 7)] 24)).heap.size = w.heap.size + 1 by simp] at hT
    have hE := (evAt_new w A n m bk 24).below ((Below.refl _ _).alloc (Nat.le_refl _) (.cells #[.int .u64 0, .int .u64 0, .int .u64 0, .int .u64 0, .int .u64 0, .int .u64 0, .int .u64 0, .bool false, .int .i64 0, .bool false, .int .u64 0, .int .u64 0, .int .u64 0, .int .u64 0, .int .u64 0, .int .u64 0, .int .u64 0, .int .u64 0, .int .u64 0, .int .u64 0, .int .u64 0, .int .u64 0, .int .u64 0, .int .u64 0, .int .u64 0, .int .i64 0, .int .i64 0, .int .i64 0, .int .i64 0, .int .i64 0] 37))
    have hb1 : Below w.heap.size w ((w.alloc (.cells #[.slice (A 0) (n 0) (m 0), .slice (A 1) (n 1) (m 1), .slice (A 2) (n 2) (m 2), .slice (A 3) (n 3) (m 3), .bool bk, .slice (A 5) (n 5) (m 5), .slice (A 6) (n 6) (m 6), .slice (A 7) (n 7) (m 7)] 24)).alloc (.cells #[.int .u64 0, .int .u64 0, .int .u64 0, .int .u64 0, .int .u64 0, .int .u64 0, .int .u64 0, .bool false, .int .i64 0, .bool false, .int .u64 0, .int .u64 0, .int .u64 0, .int .u64 0, .int .u64 0, .int .u64 0, .int .u64 0, .int .u64 0, .int .u64 0, .int .u64 0, .int .u64 0, .int .u64 0, .int .u64 0, .int .u64 0, .int .u64 0, .int .i64 0, .int .i64 0, .int .i64 0, .int .i64 0, .int .i64 0] 37)) := by (repeat' (first | (with_reducible exact Below.refl _ _) | (with_reducible assumption) | (with_reducible refine below_drewN ?_ _) | (with_reducible refine Below.alloc ?_ ?_ _) | (with_reducible refine Below.drew ?_) | (with_reducible refine Below.setCell ?_ ?_ _) | go_size))
    have hz1 : w.heap.size + 2 ≤ ((w.alloc (.cells #[.slice (A 0) (n 0) (m 0), .slice (A 1) (n 1) (m 1), .slice (A 2) (n 2) (m 2), .slice (A 3) (n 3) (m 3), .bool bk, .slice (A 5) (n 5) (m 5), .slice (A 6) (n 6) (m 6), .slice (A 7) (n 7) (m 7)] 24)).alloc (.cells #[.int .u64 0, .int .u64 0, .int .u64 0, .int .u64 0, .int .u64 0, .int .u64 0, .int .u64 0, .bool false, .int .i64 0, .bool false, .int .u64 0, .int .u64 0, .int .u64 0, .int .u64 0, .int .u64 0, .int .u64 0, .int .u64 0, .int .u64 0, .int .u64 0, .int .u64 0, .int .u64 0, .int .u64 0, .int .u64 0, .int .u64 0, .int .u64 0, .int .i64 0, .int .i64 0, .int .i64 0, .int .i64 0, .int .i64 0] 37)).heap.size := by simp
    generalize (w.alloc (.cells #[.slice (A 0) (n 0) (m 0), .slice (A 1) (n 1) (m 1), .slice (A 2) (n 2) (m 2), .slice (A 3) (n 3) (m 3), .bool bk, .slice (A 5) (n 5) (m 5), .slice (A 6) (n 6) (m 6), .slice (A 7) (n 7) (m 7)] 24)).alloc (.cells #[.int .u64 0, .int .u64 0, .int .u64 0, .int .u64 0, .int .u64 0, .int .u64 0, .int .u64 0, .bool false, .int .i64 0, .bool false, .int .u64 0, .int .u64 0, .int .u64 0, .int .u64 0, .int .u64 0, .int .u64 0, .int .u64 0, .int .u64 0, .int .u64 0, .int .u64 0, .int .u64 0, .int .u64 0, .int .u64 0, .int .u64 0, .int .u64 0, .int .i64 0, .int .i64 0, .int .i64 0, .int .i64 0, .int .i64 0] 37) = w1 at *
    have HE1 := Lib.hid hE
    have HT1 := Lib.hid hT
    clear hE hT
    refine (HK.out _ hb1).mono ?_
    rintro x w1' ⟨rfl, hq⟩
    replace HE1 := Lib.hid (HE1.out.below hq)
    replace HT1 := Lib.hid (there_below HT1.out (by omega) hq)
    replace hz1 : w.heap.size + 2 ≤ w1'.heap.size := by have := hq.size; omega
    replace hb1 := bthen hb1 hq hb1.size
    clear hq HK
    go_wp2_with fail
    refine (HF.out _).mono ?_
    rintro x w2 ⟨rfl, hq2⟩
    have hb2 := bthen hb1 hq2 hb1.size
    have HE2 := Lib.hid (HE1.out.below hq2)
    have HT2 := Lib.hid (there_below HT1.out (by omega) hq2)
    have hz2 : w.heap.size + 2 ≤ w2.heap.size := by have := hq2.size; omega
    clear HE1 HT1 hb1 hq2 hz1 HF
    go_wp2_with (refine wp_store_new (by rfl) 37 _ _ rfl cs _ rfl rfl HI.out HC.out HZs.out.1 ?_; intro w3 hq3 HA3 hz3; have HS : Hid (LowK w w3 w2.heap.size A n m bk (fun j => cs.getD j undef)) := ⟨HE2.out.below hq3, by rw [← HZs.out.2]; exact HA3, there_below HT2.out (by omega) hq3, by omega, bthen hb2 hq3 hb2.size⟩; have e0 := HS.out.ev.h0; have e1 := HS.out.ev.h1; have e2 := HS.out.ev.h2; have e3 := HS.out.ev.h3; have e4 := HS.out.ev.h4; have e5 := HS.out.ev.h5; have e6 := HS.out.ev.h6; have e7 := HS.out.ev.h7; have hltB : w.heap.size < w2.heap.size := by omega)
    clear hq3 HA3 hz3 HE2 HT2 hb2 hz2
    generalize hB : w2.heap.size = B at *
    clear hB
    refine (H0.out _ HS.out.below HS.out.ev).mono ?_
    rintro x w4 ⟨rfl, hq⟩
    replace HS := Lib.hid (HS.out.later hq)
    clear hq H0
    ((try clear e0); (try clear e1); (try clear e2); (try clear e3); (try clear e4); (try clear e5); (try clear e6); (try clear e7); (try clear hltB))
    have c0 := HS.out.arr.1 6 (by decide)
    have f0 := HS.out.arr.2 6
    have e0 := HS.out.ev.h0; have e1 := HS.out.ev.h1; have e2 := HS.out.ev.h2; have e3 := HS.out.ev.h3; have e4 := HS.out.ev.h4; have e5 := HS.out.ev.h5; have e6 := HS.out.ev.h6; have e7 := HS.out.ev.h7; have hltB : w.heap.size < B := Nat.lt_trans (Nat.lt_succ_self _) HS.out.lt
    go_wp2_with fail
    replace HS := Lib.hid (HS.out.updG 6 (by decide) (.int .u64 MW))
    clear c0 f0
    ((try clear e0); (try clear e1); (try clear e2); (try clear e3); (try clear e4); (try clear e5); (try clear e6); (try clear e7); (try clear hltB))
    generalize World.setCell w4 _ _ = w5 at *
    refine (HY.out _ HS.out.below).mono ?_
    rintro x w5' ⟨rfl, hq⟩
    replace HS := Lib.hid (HS.out.later hq)
    clear hq HY
    go_wp2_with (refine wp_store_rng rfl 35 _ _ rfl #[.int .u64 (y 0), .int .u64 (y 1), .int .u64 (y 2), .int .u64 (y 3), .int .u64 (y 4), .int .u64 (y 5), .int .u64 (y 6)] B 18 rfl rfl (by kernel_rfl) (by kernel_rfl) (arr_there HS.out.arr 18 7 (by decide)) ?_; generalize hW6 : World.setCells _ _ _ _ = w6; replace hW6 := Lib.hid hW6)
    have HSy := LowK.updL [.int .u64 (y 0), .int .u64 (y 1), .int .u64 (y 2), .int .u64 (y 3), .int .u64 (y 4), .int .u64 (y 5), .int .u64 (y 6)] _ 18 _ HS.out (by simp)
    rw [show World.setCells w5' B 18 [.int .u64 (y 0), .int .u64 (y 1), .int .u64 (y 2), .int .u64 (y 3), .int .u64 (y 4), .int .u64 (y 5), .int .u64 (y 6)] = w6 from hW6.out] at HSy
    replace HS := Lib.hid HSy
    clear HSy hW6
    ((try clear e0); (try clear e1); (try clear e2); (try clear e3); (try clear e4); (try clear e5); (try clear e6); (try clear e7); (try clear hltB))
    refine (H2.out _ HS.out.below HS.out.ev).mono ?_
    rintro x w7 ⟨rfl, hq⟩
    replace HS := Lib.hid (HS.out.later hq)
    clear hq H2
    ((try clear e0); (try clear e1); (try clear e2); (try clear e3); (try clear e4); (try clear e5); (try clear e6); (try clear e7); (try clear hltB))
    have e0 := HS.out.ev.h0; have e1 := HS.out.ev.h1; have e2 := HS.out.ev.h2; have e3 := HS.out.ev.h3; have e4 := HS.out.ev.h4; have e5 := HS.out.ev.h5; have e6 := HS.out.ev.h6; have e7 := HS.out.ev.h7; have hltB : w.heap.size < B := Nat.lt_trans (Nat.lt_succ_self _) HS.out.lt
    go_wp2_with fail
    refine (H4.out _ HS.out.below HS.out.ev).mono ?_
    rintro x w8 ⟨rfl, hq⟩
    replace HS := Lib.hid (HS.out.later hq)
    clear hq H4
    ((try clear e0); (try clear e1); (try clear e2); (try clear e3); (try clear e4); (try clear e5); (try clear e6); (try clear e7); (try clear hltB))
    have e0 := HS.out.ev.h0; have e1 := HS.out.ev.h1; have e2 := HS.out.ev.h2; have e3 := HS.out.ev.h3; have e4 := HS.out.ev.h4; have e5 := HS.out.ev.h5; have e6 := HS.out.ev.h6; have e7 := HS.out.ev.h7; have hltB : w.heap.size < B := Nat.lt_trans (Nat.lt_succ_self _) HS.out.lt
    go_wp2_with fail
    refine (H5.out _ HS.out.below HS.out.ev).mono ?_
    rintro x w9 ⟨rfl, hq⟩
    replace HS := Lib.hid (HS.out.later hq)
    clear hq H5
    ((try clear e0); (try clear e1); (try clear e2); (try clear e3); (try clear e4); (try clear e5); (try clear e6); (try clear e7); (try clear hltB))
    have e0 := HS.out.ev.h0; have e1 := HS.out.ev.h1; have e2 := HS.out.ev.h2; have e3 := HS.out.ev.h3; have e4 := HS.out.ev.h4; have e5 := HS.out.ev.h5; have e6 := HS.out.ev.h6; have e7 := HS.out.ev.h7; have hltB : w.heap.size < B := Nat.lt_trans (Nat.lt_succ_self _) HS.out.lt
    go_wp2_with fail
    refine (H6.out _ HS.out.below HS.out.ev).mono ?_
    rintro x w10 ⟨rfl, hq⟩
    replace HS := Lib.hid (HS.out.later hq)
    clear hq H6
    ((try clear e0); (try clear e1); (try clear e2); (try clear e3); (try clear e4); (try clear e5); (try clear e6); (try clear e7); (try clear hltB))
    have e0 := HS.out.ev.h0; have e1 := HS.out.ev.h1; have e2 := HS.out.ev.h2; have e3 := HS.out.ev.h3; have e4 := HS.out.ev.h4; have e5 := HS.out.ev.h5; have e6 := HS.out.ev.h6; have e7 := HS.out.ev.h7; have hltB : w.heap.size < B := Nat.lt_trans (Nat.lt_succ_self _) HS.out.lt
    have c3 := HS.out.arr.1 3 (by decide)
    have c2 := HS.out.arr.1 2 (by decide)
    have c1 := HS.out.arr.1 1 (by decide)
    have c0 := HS.out.arr.1 0 (by decide)
    have f3 := HS.out.arr.2 3
    have f2 := HS.out.arr.2 2
    have f1 := HS.out.arr.2 1
    have f0 := HS.out.arr.2 0
    cases bk with
    | true =>
      go_wp2_with fail
      replace HS := Lib.hid ((((HS.out.updG 3 (by decide) (.int .u64 M3)).updG 2 (by decide) (.int .u64 M2)).updG 1 (by decide) (.int .u64 M1)).updG 0 (by decide) (.int .u64 M0))
      clear c0 c1 c2 c3 f0 f1 f2 f3
      ((try clear e0); (try clear e1); (try clear e2); (try clear e3); (try clear e4); (try clear e5); (try clear e6); (try clear e7); (try clear hltB))
      generalize World.setCell (World.setCell (World.setCell (World.setCell w10 _ _) _ _) _ _) _ _ = w11 at *
      refine (H3.out _ HS.out.below HS.out.ev).mono ?_
      rintro x w12 ⟨rfl, hq⟩
      replace HS := Lib.hid (HS.out.later hq)
      clear hq H3
      ((try clear e0); (try clear e1); (try clear e2); (try clear e3); (try clear e4); (try clear e5); (try clear e6); (try clear e7); (try clear hltB))
      have c0 := HS.out.arr.1 5 (by decide)
      have f0 := HS.out.arr.2 5
      have HSo := HS
      replace HS := Lib.hid (HS.out.updG 5 (by decide) (.int .u64 MD))
      clear HSo
      have HZ14 : Hid (∀ j v, zs[j]? = some v → (w12.setCell ⟨B, 5, none⟩ (.int .u64 MD)).cell? ⟨B, 0 + j, none⟩ = some v) := fun j v hj => by
        have hl : j < 30 := by rw [← HS30.out]; exact (Array.getElem?_eq_some_iff.1 hj).1
        rw [Nat.zero_add]
        refine ((HS.out.arr.1 j hl).trans (congrArg some (HG.out j hl))).trans ?_
        rw [Array.getD_eq_getD_getElem?, hj]
        rfl
      have HT14 : Hid ((w12.setCell ⟨B, 5, none⟩ (.int .u64 MD)).there (w.heap.size + 1) 0 zs.size) := by show World.there _ _ _ _; rw [HS30.out]; exact HS.out.out
      have HB14 := Lib.hid HS.out.below
      clear HG HS
      go_wp2_with (first
        | (refine wp_load_arr (by rfl) 37 _ rfl zs B 0 rfl Tryz.underlying37 rfl HI2.out HZ14.out ?_)
        | (refine wp_store_at (w := w) rfl 37 _ _ rfl zs (w.heap.size + 1) (by omega) rfl rfl Tryz.underlying37 rfl HI2.out HC2.out HB14.out HT14.out ?_; intro W' hLd hbE))
      (try simp only [Exit.inBlock, Exit.then])
      skip
      skip
      refine bodyPost_ret (v := .tuple #[.agg zs, .int .i64 0]) ?_ rfl ⟨rfl, hbE⟩
      rw [results_cell_b rfl]
      show ((loadVar 37 ⟨w.heap.size + 1, 0, none⟩).run Tryz.prog W').andThen (fun v w₂ => Result.ok (Value.tuple #[v, Value.int .i64 0]) w₂) = _
      rw [hLd.out]
      rfl
    | false =>
      go_wp2_with fail
      replace HS := Lib.hid ((((HS.out.updG 3 (by decide) (.int .u64 M3)).updG 2 (by decide) (.int .u64 M2)).updG 1 (by decide) (.int .u64 M1)).updG 0 (by decide) (.int .u64 M0))
      clear c0 c1 c2 c3 f0 f1 f2 f3
      ((try clear e0); (try clear e1); (try clear e2); (try clear e3); (try clear e4); (try clear e5); (try clear e6); (try clear e7); (try clear hltB))
      generalize World.setCell (World.setCell (World.setCell (World.setCell w10 _ _) _ _) _ _) _ _ = w11 at *
      refine (H3.out _ HS.out.below HS.out.ev).mono ?_
      rintro x w12 ⟨rfl, hq⟩
      replace HS := Lib.hid (HS.out.later hq)
      clear hq H3
      ((try clear e0); (try clear e1); (try clear e2); (try clear e3); (try clear e4); (try clear e5); (try clear e6); (try clear e7); (try clear hltB))
      have c0 := HS.out.arr.1 4 (by decide)
      have f0 := HS.out.arr.2 4
      replace HS := Lib.hid (HS.out.updG 4 (by decide) (.int .u64 MD))
      have HZ14 : Hid (∀ j v, zs[j]? = some v → (w12.setCell ⟨B, 4, none⟩ (.int .u64 MD)).cell? ⟨B, 0 + j, none⟩ = some v) := fun j v hj => by
        have hl : j < 30 := by rw [← HS30.out]; exact (Array.getElem?_eq_some_iff.1 hj).1
        rw [Nat.zero_add]
        refine ((HS.out.arr.1 j hl).trans (congrArg some (HG.out j hl))).trans ?_
        rw [Array.getD_eq_getD_getElem?, hj]
        rfl
      have HT14 : Hid ((w12.setCell ⟨B, 4, none⟩ (.int .u64 MD)).there (w.heap.size + 1) 0 zs.size) := by show World.there _ _ _ _; rw [HS30.out]; exact HS.out.out
      have HB14 := Lib.hid HS.out.below
      clear HG HS
      go_wp2_with (first
        | (refine wp_load_arr (by rfl) 37 _ rfl zs B 0 rfl Tryz.underlying37 rfl HI2.out HZ14.out ?_)
        | (refine wp_store_at (w := w) rfl 37 _ _ rfl zs (w.heap.size + 1) (by omega) rfl rfl Tryz.underlying37 rfl HI2.out HC2.out HB14.out HT14.out ?_; intro W' hLd hbE))
      (try simp only [Exit.inBlock, Exit.then])
      skip
      skip
      refine bodyPost_ret (v := .tuple #[.agg zs, .int .i64 0]) ?_ rfl ⟨rfl, hbE⟩
      rw [results_cell_b rfl]
      show ((loadVar 37 ⟨w.heap.size + 1, 0, none⟩).run Tryz.prog W').andThen (fun v w₂ => Result.ok (Value.tuple #[v, Value.int .i64 0]) w₂) = _
      rw [hLd.out]
      rfl
end Go.Proofs.YtochhmkdhdadhaaGreat
