/- The walk of a reader's item, a theorem a way (printed by bin/itemgen.py). -/
import Derived.Test.YtpfcgjneeboamaaDoorWCronread3
namespace Go.Proofs.YtpfcgjneeboamaaDoor
open Go.RowKit
set_option linter.unusedSimpArgs false
set_option linter.unusedVariables false

set_option maxRecDepth 20000 in
set_option maxHeartbeats 1000000 in
theorem item_star1 (b f : Nat) (hf : f < 5) (s : ByteArray) (hs : s.size ≤ 1000000) (l l1 : List UInt8) (w : World) (h : Live w b s l) (hp : pIs [42] l = some l1) (hp1 : pIs [47] l1 = none) :
    Calls Tryd.prog 14 #[rdV b f] w (RetL (itV ⟨0, 0, 0, 1⟩) b s l1 w) := by
  have hs9 : s.size ≤ 9223372036854775807 := by omega
  have hlt := h.lt
  have hne : w.heap.size ≠ b := by omega
  have hne1 : w.heap.size + 1 ≠ b := by omega
  have H := Lib.hid h
  have HP := Lib.hid (hp)
  have HP1 := Lib.hid (hp1)
  clear h hp hp1
  go_enter Tryd.func14, Tryd.ntmps14
  go_wp2_with fail
  refine (is_yes hs9 (((H.out.alloc _).alloc _).alloc _) (rdB1 (c := 42) (cell_new (by simp) rfl)) (by decide) HP.out).mono ?_
  rintro e w1 ⟨rfl, h1, g1⟩
  have F1 := Lib.hid (((fr_new w b (f : Int) 43 34).alloc _).chg g1 hne hne1)
  have hg1 := ((((Chg.refl b w).alloc _).alloc _).alloc _).trans g1
  have hz1 := g1.size
  (try simp at hz1)
  have hzA1 : w.heap.size < w1.heap.size := by omega
  have hzB1 : w.heap.size + 1 < w1.heap.size := by omega
  obtain ⟨c0, c1⟩ := F1.out.1
  have hneI : w1.heap.size ≠ b := by omega
  go_wp2_with fail
  refine (is_no hs9 ((h1.alloc _).alloc _) (rdB1 (c := 47) (cell_new (by simp) rfl)) (by decide) HP1.out).mono ?_
  rintro e w2 ⟨rfl, h2, g2⟩
  have F2 := Lib.hid (((F1.out.alloc _).alloc _).chg g2 hne hne1)
  have I2 := Lib.hid (Arr.chg (Arr.alloc (itAt_new w1 0 0 0 1 34) (Arr.lt (itAt_new w1 0 0 0 1 34) (by decide)) _) (by decide) g2 hneI)
  have hg2 := ((hg1.alloc _).alloc _).trans g2
  have hz2 := g2.size
  (try simp at hz2)
  have hzA2 : w.heap.size < w2.heap.size := by omega
  have hzB2 : w.heap.size + 1 < w2.heap.size := by omega
  have hzI2 : w1.heap.size < w2.heap.size := by omega
  clear c0 c1
  obtain ⟨c0, c1⟩ := F2.out.1
  obtain ⟨i0, i1, i2, i3, ifz⟩ := ItAt.cells I2.out
  obtain ⟨r0, r1, r2, r3, rfz⟩ := ItAt.cells F2.out.2
  go_wp2
  (try simp only [Exit.inBlock, Exit.then])
  refine bodyPost_ret (v := itV ⟨0, 0, 0, 1⟩) ?_ rfl ⟨rfl, ?_, ?_⟩
  · rw [results_cell1 rfl]
    go_simp
  · exact h2.set4 hne1 _ _ _ _
  · exact hg2.set4 (by omega) _ _ _ _
set_option maxRecDepth 20000 in
set_option maxHeartbeats 1000000 in
theorem item_star2 (b f : Nat) (hf : f < 5) (s : ByteArray) (hs : s.size ≤ 1000000) (l l1 l2 r : List UInt8) (n : Int) (w : World) (h : Live w b s l) (hp : pIs [42] l = some l1) (hp1 : pIs [47] l1 = some l2) (hp2 : cStep l2 = .ok (n, r)) :
    Calls Tryd.prog 14 #[rdV b f] w (RetL (itV ⟨0, 0, 0, n⟩) b s r w) := by
  have hs9 : s.size ≤ 9223372036854775807 := by omega
  have hlt := h.lt
  have hne : w.heap.size ≠ b := by omega
  have hne1 : w.heap.size + 1 ≠ b := by omega
  have H := Lib.hid h
  have HP := Lib.hid (hp)
  have HP1 := Lib.hid (hp1)
  have HS := Lib.hid (fun W (h : Live W b s l2) => step_ok b f s hs9 l2 r n W h hp2)
  clear h hp hp1 hp2
  go_enter Tryd.func14, Tryd.ntmps14
  go_wp2_with fail
  refine (is_yes hs9 (((H.out.alloc _).alloc _).alloc _) (rdB1 (c := 42) (cell_new (by simp) rfl)) (by decide) HP.out).mono ?_
  rintro e w1 ⟨rfl, h1, g1⟩
  have F1 := Lib.hid (((fr_new w b (f : Int) 43 34).alloc _).chg g1 hne hne1)
  have hg1 := ((((Chg.refl b w).alloc _).alloc _).alloc _).trans g1
  have hz1 := g1.size
  (try simp at hz1)
  have hzA1 : w.heap.size < w1.heap.size := by omega
  have hzB1 : w.heap.size + 1 < w1.heap.size := by omega
  obtain ⟨c0, c1⟩ := F1.out.1
  have hneI : w1.heap.size ≠ b := by omega
  go_wp2_with fail
  refine (is_yes hs9 ((h1.alloc _).alloc _) (rdB1 (c := 47) (cell_new (by simp) rfl)) (by decide) HP1.out).mono ?_
  rintro e w2 ⟨rfl, h2, g2⟩
  have F2 := Lib.hid (((F1.out.alloc _).alloc _).chg g2 hne hne1)
  have I2 := Lib.hid (Arr.chg (Arr.alloc (itAt_new w1 0 0 0 1 34) (Arr.lt (itAt_new w1 0 0 0 1 34) (by decide)) _) (by decide) g2 hneI)
  have hg2 := ((hg1.alloc _).alloc _).trans g2
  have hz2 := g2.size
  (try simp at hz2)
  have hzA2 : w.heap.size < w2.heap.size := by omega
  have hzB2 : w.heap.size + 1 < w2.heap.size := by omega
  have hzI2 : w1.heap.size < w2.heap.size := by omega
  clear c0 c1
  obtain ⟨c0, c1⟩ := F2.out.1
  obtain ⟨i0, i1, i2, i3, ifz⟩ := ItAt.cells I2.out
  go_wp2_with fail
  refine (HS.out _ h2).mono ?_
  rintro e w3 ⟨rfl, h3, g3⟩
  have F3 := Lib.hid (F2.out.chg g3 hne hne1)
  have I3 := Lib.hid (Arr.chg I2.out (by decide) g3 hneI)
  have hg3 := hg2.trans g3
  have hz3 := g3.size
  (try simp at hz3)
  have hzA3 : w.heap.size < w3.heap.size := by omega
  have hzB3 : w.heap.size + 1 < w3.heap.size := by omega
  have hzI3 : w1.heap.size < w3.heap.size := by omega
  clear c0 c1 i0 i1 i2 i3 ifz
  obtain ⟨c0, c1⟩ := F3.out.1
  obtain ⟨i0, i1, i2, i3, ifz⟩ := ItAt.cells I3.out
  obtain ⟨r0, r1, r2, r3, rfz⟩ := ItAt.cells F3.out.2
  go_wp2
  (try simp only [Exit.inBlock, Exit.then])
  refine bodyPost_ret (v := itV ⟨0, 0, 0, n⟩) ?_ rfl ⟨rfl, ?_, ?_⟩
  · rw [results_cell1 rfl]
    go_simp
  · exact (h3.set hneI (.int .i64 n)).set4 hne1 _ _ _ _
  · exact (hg3.setNew (by omega)).set4 (by omega) _ _ _ _
set_option maxRecDepth 20000 in
set_option maxHeartbeats 1000000 in
theorem item_star3 (b f : Nat) (hf : f < 5) (s : ByteArray) (hs : s.size ≤ 1000000) (l l1 l2 : List UInt8) (m : Nat) (q : Int) (w : World) (h : Live w b s l) (hp : pIs [42] l = some l1) (hp1 : pIs [47] l1 = some l2) (hp2 : cStep l2 = .error (m, q)) :
    Calls Tryd.prog 14 #[rdV b f] w (RetDIt b s (placeI s m) q w) := by
  have hs9 : s.size ≤ 9223372036854775807 := by omega
  have hlt := h.lt
  have hne : w.heap.size ≠ b := by omega
  have hne1 : w.heap.size + 1 ≠ b := by omega
  have H := Lib.hid h
  have HP := Lib.hid (hp)
  have HP1 := Lib.hid (hp1)
  have HS := Lib.hid (fun W (h : Live W b s l2) => step_err b f s hs9 l2 m q W h hp2)
  clear h hp hp1 hp2
  go_enter Tryd.func14, Tryd.ntmps14
  go_wp2_with fail
  refine (is_yes hs9 (((H.out.alloc _).alloc _).alloc _) (rdB1 (c := 42) (cell_new (by simp) rfl)) (by decide) HP.out).mono ?_
  rintro e w1 ⟨rfl, h1, g1⟩
  have F1 := Lib.hid (((fr_new w b (f : Int) 43 34).alloc _).chg g1 hne hne1)
  have hg1 := ((((Chg.refl b w).alloc _).alloc _).alloc _).trans g1
  have hz1 := g1.size
  (try simp at hz1)
  have hzA1 : w.heap.size < w1.heap.size := by omega
  have hzB1 : w.heap.size + 1 < w1.heap.size := by omega
  obtain ⟨c0, c1⟩ := F1.out.1
  have hneI : w1.heap.size ≠ b := by omega
  go_wp2_with fail
  refine (is_yes hs9 ((h1.alloc _).alloc _) (rdB1 (c := 47) (cell_new (by simp) rfl)) (by decide) HP1.out).mono ?_
  rintro e w2 ⟨rfl, h2, g2⟩
  have F2 := Lib.hid (((F1.out.alloc _).alloc _).chg g2 hne hne1)
  have I2 := Lib.hid (Arr.chg (Arr.alloc (itAt_new w1 0 0 0 1 34) (Arr.lt (itAt_new w1 0 0 0 1 34) (by decide)) _) (by decide) g2 hneI)
  have hg2 := ((hg1.alloc _).alloc _).trans g2
  have hz2 := g2.size
  (try simp at hz2)
  have hzA2 : w.heap.size < w2.heap.size := by omega
  have hzB2 : w.heap.size + 1 < w2.heap.size := by omega
  have hzI2 : w1.heap.size < w2.heap.size := by omega
  clear c0 c1
  obtain ⟨c0, c1⟩ := F2.out.1
  obtain ⟨i0, i1, i2, i3, ifz⟩ := ItAt.cells I2.out
  go_wp2_with fail
  refine (HS.out _ h2).mono ?_
  rintro e w3 ⟨y3, rfl, h3, g3⟩
  have F3 := Lib.hid (F2.out.chg g3 hne hne1)
  have I3 := Lib.hid (Arr.chg I2.out (by decide) g3 hneI)
  have hg3 := hg2.trans g3
  have hz3 := g3.size
  (try simp at hz3)
  have hzA3 : w.heap.size < w3.heap.size := by omega
  have hzB3 : w.heap.size + 1 < w3.heap.size := by omega
  have hzI3 : w1.heap.size < w3.heap.size := by omega
  clear c0 c1 i0 i1 i2 i3 ifz
  obtain ⟨c0, c1⟩ := F3.out.1
  obtain ⟨i0, i1, i2, i3, ifz⟩ := ItAt.cells I3.out
  obtain ⟨r0, r1, r2, r3, rfz⟩ := ItAt.cells F3.out.2
  go_wp2
  (try simp only [Exit.inBlock, Exit.then])
  refine bodyPost_ret (v := itV ⟨0, 0, 0, y3⟩) ?_ rfl ⟨⟨0, 0, 0, y3⟩, rfl, ?_, ?_⟩
  · rw [results_cell1 rfl]
    go_simp
  · exact (h3.set hneI (.int .i64 y3)).set4 hne1 _ _ _ _
  · exact (hg3.setNew (by omega)).set4 (by omega) _ _ _ _
set_option maxRecDepth 20000 in
set_option maxHeartbeats 1000000 in
theorem item_one (b f : Nat) (hf : f < 5) (s : ByteArray) (hs : s.size ≤ 1000000) (l l1 : List UInt8) (n : Int) (w : World) (h : Live w b s l) (hp : pIs [42] l = none) (hp1 : cNum f l = .ok (n, l1)) (hp2 : pIs [45] l1 = none) :
    Calls Tryd.prog 14 #[rdV b f] w (RetL (itV ⟨1, n, 0, 0⟩) b s l1 w) := by
  have hs9 : s.size ≤ 9223372036854775807 := by omega
  have hlt := h.lt
  have hne : w.heap.size ≠ b := by omega
  have hne1 : w.heap.size + 1 ≠ b := by omega
  have H := Lib.hid h
  have HP := Lib.hid (hp)
  have HN := Lib.hid (fun W (h : Live W b s l) => num_ok b f hf s hs l l1 n W h hp1)
  have HP2 := Lib.hid (hp2)
  clear h hp hp1 hp2
  go_enter Tryd.func14, Tryd.ntmps14
  go_wp2_with fail
  refine (is_no hs9 (((H.out.alloc _).alloc _).alloc _) (rdB1 (c := 42) (cell_new (by simp) rfl)) (by decide) HP.out).mono ?_
  rintro e w1 ⟨rfl, h1, g1⟩
  have F1 := Lib.hid (((fr_new w b (f : Int) 43 34).alloc _).chg g1 hne hne1)
  have hg1 := ((((Chg.refl b w).alloc _).alloc _).alloc _).trans g1
  have hz1 := g1.size
  (try simp at hz1)
  have hzA1 : w.heap.size < w1.heap.size := by omega
  have hzB1 : w.heap.size + 1 < w1.heap.size := by omega
  obtain ⟨c0, c1⟩ := F1.out.1
  go_wp2_with fail
  refine (HN.out _ h1).mono ?_
  rintro e w2 ⟨rfl, h2, g2⟩
  have F2 := Lib.hid (F1.out.chg g2 hne hne1)
  have hg2 := hg1.trans g2
  have hz2 := g2.size
  (try simp at hz2)
  have hzA2 : w.heap.size < w2.heap.size := by omega
  have hzB2 : w.heap.size + 1 < w2.heap.size := by omega
  clear c0 c1
  obtain ⟨c0, c1⟩ := F2.out.1
  have hneI : w2.heap.size ≠ b := by omega
  go_wp2_with fail
  refine (is_no hs9 ((h2.alloc _).alloc _) (rdB1 (c := 45) (cell_new (by simp) rfl)) (by decide) HP2.out).mono ?_
  rintro e w3 ⟨rfl, h3, g3⟩
  have F3 := Lib.hid (((F2.out.alloc _).alloc _).chg g3 hne hne1)
  have I3 := Lib.hid (Arr.chg (Arr.alloc (itAt_new w2 1 n 0 0 34) (Arr.lt (itAt_new w2 1 n 0 0 34) (by decide)) _) (by decide) g3 hneI)
  have hg3 := ((hg2.alloc _).alloc _).trans g3
  have hz3 := g3.size
  (try simp at hz3)
  have hzA3 : w.heap.size < w3.heap.size := by omega
  have hzB3 : w.heap.size + 1 < w3.heap.size := by omega
  have hzI3 : w2.heap.size < w3.heap.size := by omega
  clear c0 c1
  obtain ⟨c0, c1⟩ := F3.out.1
  obtain ⟨i0, i1, i2, i3, ifz⟩ := ItAt.cells I3.out
  obtain ⟨r0, r1, r2, r3, rfz⟩ := ItAt.cells F3.out.2
  go_wp2
  (try simp only [Exit.inBlock, Exit.then])
  refine bodyPost_ret (v := itV ⟨1, n, 0, 0⟩) ?_ rfl ⟨rfl, ?_, ?_⟩
  · rw [results_cell1 rfl]
    go_simp
  · exact h3.set4 hne1 _ _ _ _
  · exact hg3.set4 (by omega) _ _ _ _
set_option maxRecDepth 20000 in
set_option maxHeartbeats 1000000 in
theorem item_one_err (b f : Nat) (hf : f < 5) (s : ByteArray) (hs : s.size ≤ 1000000) (l : List UInt8) (m : Nat) (q : Int) (w : World) (h : Live w b s l) (hp : pIs [42] l = none) (hp1 : cNum f l = .error (m, q)) :
    Calls Tryd.prog 14 #[rdV b f] w (RetDIt b s (placeI s m) q w) := by
  have hs9 : s.size ≤ 9223372036854775807 := by omega
  have hlt := h.lt
  have hne : w.heap.size ≠ b := by omega
  have hne1 : w.heap.size + 1 ≠ b := by omega
  have H := Lib.hid h
  have HP := Lib.hid (hp)
  have HN := Lib.hid (fun W (h : Live W b s l) => num_err b f hf s hs l m q W h hp1)
  clear h hp hp1
  go_enter Tryd.func14, Tryd.ntmps14
  go_wp2_with fail
  refine (is_no hs9 (((H.out.alloc _).alloc _).alloc _) (rdB1 (c := 42) (cell_new (by simp) rfl)) (by decide) HP.out).mono ?_
  rintro e w1 ⟨rfl, h1, g1⟩
  have F1 := Lib.hid (((fr_new w b (f : Int) 43 34).alloc _).chg g1 hne hne1)
  have hg1 := ((((Chg.refl b w).alloc _).alloc _).alloc _).trans g1
  have hz1 := g1.size
  (try simp at hz1)
  have hzA1 : w.heap.size < w1.heap.size := by omega
  have hzB1 : w.heap.size + 1 < w1.heap.size := by omega
  obtain ⟨c0, c1⟩ := F1.out.1
  go_wp2_with fail
  refine (HN.out _ h1).mono ?_
  rintro e w2 ⟨y2, rfl, h2, g2⟩
  have F2 := Lib.hid (F1.out.chg g2 hne hne1)
  have hg2 := hg1.trans g2
  have hz2 := g2.size
  (try simp at hz2)
  have hzA2 : w.heap.size < w2.heap.size := by omega
  have hzB2 : w.heap.size + 1 < w2.heap.size := by omega
  clear c0 c1
  obtain ⟨c0, c1⟩ := F2.out.1
  have hneI : w2.heap.size ≠ b := by omega
  go_wp2_with fail
  refine (is_dead hs9 ((h2.alloc _).alloc _) (rdB1 (c := 45) (cell_new (by simp) rfl)) (by decide)).mono ?_
  rintro e w3 ⟨rfl, h3, g3⟩
  have F3 := Lib.hid (((F2.out.alloc _).alloc _).chg g3 hne hne1)
  have I3 := Lib.hid (Arr.chg (Arr.alloc (itAt_new w2 1 y2 0 0 34) (Arr.lt (itAt_new w2 1 y2 0 0 34) (by decide)) _) (by decide) g3 hneI)
  have hg3 := ((hg2.alloc _).alloc _).trans g3
  have hz3 := g3.size
  (try simp at hz3)
  have hzA3 : w.heap.size < w3.heap.size := by omega
  have hzB3 : w.heap.size + 1 < w3.heap.size := by omega
  have hzI3 : w2.heap.size < w3.heap.size := by omega
  clear c0 c1
  obtain ⟨c0, c1⟩ := F3.out.1
  obtain ⟨i0, i1, i2, i3, ifz⟩ := ItAt.cells I3.out
  obtain ⟨r0, r1, r2, r3, rfz⟩ := ItAt.cells F3.out.2
  go_wp2
  (try simp only [Exit.inBlock, Exit.then])
  refine bodyPost_ret (v := itV ⟨1, y2, 0, 0⟩) ?_ rfl ⟨⟨1, y2, 0, 0⟩, rfl, ?_, ?_⟩
  · rw [results_cell1 rfl]
    go_simp
  · exact h3.set4 hne1 _ _ _ _
  · exact hg3.set4 (by omega) _ _ _ _
set_option maxRecDepth 20000 in
set_option maxHeartbeats 1000000 in
theorem item_dead (b f : Nat) (hf : f < 5) (s : ByteArray) (hs : s.size ≤ 1000000) (a c : Int) (w : World) (h : Dead w b s a c)  :
    Calls Tryd.prog 14 #[rdV b f] w (RetDIt b s a c w) := by
  have hs9 : s.size ≤ 9223372036854775807 := by omega
  have hlt := h.lt
  have hne : w.heap.size ≠ b := by omega
  have hne1 : w.heap.size + 1 ≠ b := by omega
  have H := Lib.hid h
  have HN := Lib.hid (fun W (h : Dead W b s a c) => num_dead b f hf s hs a c W h)
  clear h 
  go_enter Tryd.func14, Tryd.ntmps14
  go_wp2_with fail
  refine (is_dead hs9 (((H.out.alloc _).alloc _).alloc _) (rdB1 (c := 42) (cell_new (by simp) rfl)) (by decide)).mono ?_
  rintro e w1 ⟨rfl, h1, g1⟩
  have F1 := Lib.hid (((fr_new w b (f : Int) 43 34).alloc _).chg g1 hne hne1)
  have hg1 := ((((Chg.refl b w).alloc _).alloc _).alloc _).trans g1
  have hz1 := g1.size
  (try simp at hz1)
  have hzA1 : w.heap.size < w1.heap.size := by omega
  have hzB1 : w.heap.size + 1 < w1.heap.size := by omega
  obtain ⟨c0, c1⟩ := F1.out.1
  go_wp2_with fail
  refine (HN.out _ h1).mono ?_
  rintro e w2 ⟨y2, rfl, h2, g2⟩
  have F2 := Lib.hid (F1.out.chg g2 hne hne1)
  have hg2 := hg1.trans g2
  have hz2 := g2.size
  (try simp at hz2)
  have hzA2 : w.heap.size < w2.heap.size := by omega
  have hzB2 : w.heap.size + 1 < w2.heap.size := by omega
  clear c0 c1
  obtain ⟨c0, c1⟩ := F2.out.1
  have hneI : w2.heap.size ≠ b := by omega
  go_wp2_with fail
  refine (is_dead hs9 ((h2.alloc _).alloc _) (rdB1 (c := 45) (cell_new (by simp) rfl)) (by decide)).mono ?_
  rintro e w3 ⟨rfl, h3, g3⟩
  have F3 := Lib.hid (((F2.out.alloc _).alloc _).chg g3 hne hne1)
  have I3 := Lib.hid (Arr.chg (Arr.alloc (itAt_new w2 1 y2 0 0 34) (Arr.lt (itAt_new w2 1 y2 0 0 34) (by decide)) _) (by decide) g3 hneI)
  have hg3 := ((hg2.alloc _).alloc _).trans g3
  have hz3 := g3.size
  (try simp at hz3)
  have hzA3 : w.heap.size < w3.heap.size := by omega
  have hzB3 : w.heap.size + 1 < w3.heap.size := by omega
  have hzI3 : w2.heap.size < w3.heap.size := by omega
  clear c0 c1
  obtain ⟨c0, c1⟩ := F3.out.1
  obtain ⟨i0, i1, i2, i3, ifz⟩ := ItAt.cells I3.out
  obtain ⟨r0, r1, r2, r3, rfz⟩ := ItAt.cells F3.out.2
  go_wp2
  (try simp only [Exit.inBlock, Exit.then])
  refine bodyPost_ret (v := itV ⟨1, y2, 0, 0⟩) ?_ rfl ⟨⟨1, y2, 0, 0⟩, rfl, ?_, ?_⟩
  · rw [results_cell1 rfl]
    go_simp
  · exact h3.set4 hne1 _ _ _ _
  · exact hg3.set4 (by omega) _ _ _ _
set_option maxRecDepth 20000 in
set_option maxHeartbeats 1000000 in
theorem item_rng1 (b f : Nat) (hf : f < 5) (s : ByteArray) (hs : s.size ≤ 1000000) (l l1 l2 l3 : List UInt8) (n m : Int) (w : World) (h : Live w b s l) (hp : pIs [42] l = none) (hp1 : cNum f l = .ok (n, l1)) (hp2 : pIs [45] l1 = some l2) (hp3 : cNum f l2 = .ok (m, l3)) (hle : ¬ m < n) (hp4 : pIs [47] l3 = none) :
    Calls Tryd.prog 14 #[rdV b f] w (RetL (itV ⟨2, n, m, 1⟩) b s l3 w) := by
  have hs9 : s.size ≤ 9223372036854775807 := by omega
  have hlt := h.lt
  have hne : w.heap.size ≠ b := by omega
  have hne1 : w.heap.size + 1 ≠ b := by omega
  have H := Lib.hid h
  have HP := Lib.hid (hp)
  have HN := Lib.hid (fun W (h : Live W b s l) => num_ok b f hf s hs l l1 n W h hp1)
  have HP2 := Lib.hid (hp2)
  have HM := Lib.hid (fun W (h : Live W b s l2) => num_ok b f hf s hs l2 l3 m W h hp3)
  have HP4 := Lib.hid (hp4)
  clear h hp hp1 hp2 hp3 hp4
  go_enter Tryd.func14, Tryd.ntmps14
  go_wp2_with fail
  refine (is_no hs9 (((H.out.alloc _).alloc _).alloc _) (rdB1 (c := 42) (cell_new (by simp) rfl)) (by decide) HP.out).mono ?_
  rintro e w1 ⟨rfl, h1, g1⟩
  have F1 := Lib.hid (((fr_new w b (f : Int) 43 34).alloc _).chg g1 hne hne1)
  have hg1 := ((((Chg.refl b w).alloc _).alloc _).alloc _).trans g1
  have hz1 := g1.size
  (try simp at hz1)
  have hzA1 : w.heap.size < w1.heap.size := by omega
  have hzB1 : w.heap.size + 1 < w1.heap.size := by omega
  obtain ⟨c0, c1⟩ := F1.out.1
  go_wp2_with fail
  refine (HN.out _ h1).mono ?_
  rintro e w2 ⟨rfl, h2, g2⟩
  have F2 := Lib.hid (F1.out.chg g2 hne hne1)
  have hg2 := hg1.trans g2
  have hz2 := g2.size
  (try simp at hz2)
  have hzA2 : w.heap.size < w2.heap.size := by omega
  have hzB2 : w.heap.size + 1 < w2.heap.size := by omega
  clear c0 c1
  obtain ⟨c0, c1⟩ := F2.out.1
  have hneI : w2.heap.size ≠ b := by omega
  go_wp2_with fail
  refine (is_yes hs9 ((h2.alloc _).alloc _) (rdB1 (c := 45) (cell_new (by simp) rfl)) (by decide) HP2.out).mono ?_
  rintro e w3 ⟨rfl, h3, g3⟩
  have F3 := Lib.hid (((F2.out.alloc _).alloc _).chg g3 hne hne1)
  have I3 := Lib.hid (Arr.chg (Arr.alloc (itAt_new w2 1 n 0 0 34) (Arr.lt (itAt_new w2 1 n 0 0 34) (by decide)) _) (by decide) g3 hneI)
  have hg3 := ((hg2.alloc _).alloc _).trans g3
  have hz3 := g3.size
  (try simp at hz3)
  have hzA3 : w.heap.size < w3.heap.size := by omega
  have hzB3 : w.heap.size + 1 < w3.heap.size := by omega
  have hzI3 : w2.heap.size < w3.heap.size := by omega
  clear c0 c1
  obtain ⟨c0, c1⟩ := F3.out.1
  obtain ⟨i0, i1, i2, i3, ifz⟩ := ItAt.cells I3.out
  go_wp2_with fail
  refine (at_live h3).mono ?_
  rintro e w4 ⟨rfl, h4, g4⟩
  have F4 := Lib.hid (F3.out.chg g4 hne hne1)
  have I4 := Lib.hid (Arr.chg I3.out (by decide) g4 hneI)
  have hg4 := hg3.trans g4
  have hz4 := g4.size
  (try simp at hz4)
  have hzA4 : w.heap.size < w4.heap.size := by omega
  have hzB4 : w.heap.size + 1 < w4.heap.size := by omega
  have hzI4 : w2.heap.size < w4.heap.size := by omega
  clear c0 c1 i0 i1 i2 i3 ifz
  obtain ⟨c0, c1⟩ := F4.out.1
  obtain ⟨i0, i1, i2, i3, ifz⟩ := ItAt.cells I4.out
  go_wp2_with fail
  refine (HM.out _ h4).mono ?_
  rintro e w5 ⟨rfl, h5, g5⟩
  have F5 := Lib.hid (F4.out.chg g5 hne hne1)
  have I5 := Lib.hid (Arr.chg I4.out (by decide) g5 hneI)
  have hg5 := hg4.trans g5
  have hz5 := g5.size
  (try simp at hz5)
  have hzA5 : w.heap.size < w5.heap.size := by omega
  have hzB5 : w.heap.size + 1 < w5.heap.size := by omega
  have hzI5 : w2.heap.size < w5.heap.size := by omega
  clear c0 c1 i0 i1 i2 i3 ifz
  obtain ⟨c0, c1⟩ := F5.out.1
  obtain ⟨i0, i1, i2, i3, ifz⟩ := ItAt.cells I5.out
  go_wp2_with fail
  refine (is_no hs9 ((((h5.set hneI (.int .i64 2)).set hneI (.int .i64 m)).set hneI (.int .i64 1)).alloc _) (rdB1 (c := 47) (cell_new (by simp) rfl)) (by decide) HP4.out).mono ?_
  rintro e w6 ⟨rfl, h6, g6⟩
  have F6 := Lib.hid (((((F5.out.set (by omega) (by omega) (.int .i64 2)).set (by omega) (by omega) (.int .i64 m)).set (by omega) (by omega) (.int .i64 1)).alloc _).chg g6 hne hne1)
  have I6 := Lib.hid (Arr.chg (Arr.alloc (itAt_set3 (itAt_set2 (itAt_set0 I5.out 2) m) 1) (Arr.lt (itAt_set3 (itAt_set2 (itAt_set0 I5.out 2) m) 1) (by decide)) _) (by decide) g6 hneI)
  have hg6 := ((((hg5.setNew (by omega)).setNew (by omega)).setNew (by omega)).alloc _).trans g6
  have hz6 := g6.size
  (try simp at hz6)
  have hzA6 : w.heap.size < w6.heap.size := by omega
  have hzB6 : w.heap.size + 1 < w6.heap.size := by omega
  have hzI6 : w2.heap.size < w6.heap.size := by omega
  clear c0 c1 i0 i1 i2 i3 ifz
  obtain ⟨c0, c1⟩ := F6.out.1
  obtain ⟨i0, i1, i2, i3, ifz⟩ := ItAt.cells I6.out
  obtain ⟨r0, r1, r2, r3, rfz⟩ := ItAt.cells F6.out.2
  go_wp2
  (try simp only [Exit.inBlock, Exit.then])
  refine bodyPost_ret (v := itV ⟨2, n, m, 1⟩) ?_ rfl ⟨rfl, ?_, ?_⟩
  · rw [results_cell1 rfl]
    go_simp
  · exact h6.set4 hne1 _ _ _ _
  · exact hg6.set4 (by omega) _ _ _ _
set_option maxRecDepth 20000 in
set_option maxHeartbeats 1000000 in
theorem item_rng2 (b f : Nat) (hf : f < 5) (s : ByteArray) (hs : s.size ≤ 1000000) (l l1 l2 l3 l4 r : List UInt8) (n m q : Int) (w : World) (h : Live w b s l) (hp : pIs [42] l = none) (hp1 : cNum f l = .ok (n, l1)) (hp2 : pIs [45] l1 = some l2) (hp3 : cNum f l2 = .ok (m, l3)) (hle : ¬ m < n) (hp4 : pIs [47] l3 = some l4) (hp5 : cStep l4 = .ok (q, r)) :
    Calls Tryd.prog 14 #[rdV b f] w (RetL (itV ⟨2, n, m, q⟩) b s r w) := by
  have hs9 : s.size ≤ 9223372036854775807 := by omega
  have hlt := h.lt
  have hne : w.heap.size ≠ b := by omega
  have hne1 : w.heap.size + 1 ≠ b := by omega
  have H := Lib.hid h
  have HP := Lib.hid (hp)
  have HN := Lib.hid (fun W (h : Live W b s l) => num_ok b f hf s hs l l1 n W h hp1)
  have HP2 := Lib.hid (hp2)
  have HM := Lib.hid (fun W (h : Live W b s l2) => num_ok b f hf s hs l2 l3 m W h hp3)
  have HP4 := Lib.hid (hp4)
  have HS := Lib.hid (fun W (h : Live W b s l4) => step_ok b f s hs9 l4 r q W h hp5)
  clear h hp hp1 hp2 hp3 hp4 hp5
  go_enter Tryd.func14, Tryd.ntmps14
  go_wp2_with fail
  refine (is_no hs9 (((H.out.alloc _).alloc _).alloc _) (rdB1 (c := 42) (cell_new (by simp) rfl)) (by decide) HP.out).mono ?_
  rintro e w1 ⟨rfl, h1, g1⟩
  have F1 := Lib.hid (((fr_new w b (f : Int) 43 34).alloc _).chg g1 hne hne1)
  have hg1 := ((((Chg.refl b w).alloc _).alloc _).alloc _).trans g1
  have hz1 := g1.size
  (try simp at hz1)
  have hzA1 : w.heap.size < w1.heap.size := by omega
  have hzB1 : w.heap.size + 1 < w1.heap.size := by omega
  obtain ⟨c0, c1⟩ := F1.out.1
  go_wp2_with fail
  refine (HN.out _ h1).mono ?_
  rintro e w2 ⟨rfl, h2, g2⟩
  have F2 := Lib.hid (F1.out.chg g2 hne hne1)
  have hg2 := hg1.trans g2
  have hz2 := g2.size
  (try simp at hz2)
  have hzA2 : w.heap.size < w2.heap.size := by omega
  have hzB2 : w.heap.size + 1 < w2.heap.size := by omega
  clear c0 c1
  obtain ⟨c0, c1⟩ := F2.out.1
  have hneI : w2.heap.size ≠ b := by omega
  go_wp2_with fail
  refine (is_yes hs9 ((h2.alloc _).alloc _) (rdB1 (c := 45) (cell_new (by simp) rfl)) (by decide) HP2.out).mono ?_
  rintro e w3 ⟨rfl, h3, g3⟩
  have F3 := Lib.hid (((F2.out.alloc _).alloc _).chg g3 hne hne1)
  have I3 := Lib.hid (Arr.chg (Arr.alloc (itAt_new w2 1 n 0 0 34) (Arr.lt (itAt_new w2 1 n 0 0 34) (by decide)) _) (by decide) g3 hneI)
  have hg3 := ((hg2.alloc _).alloc _).trans g3
  have hz3 := g3.size
  (try simp at hz3)
  have hzA3 : w.heap.size < w3.heap.size := by omega
  have hzB3 : w.heap.size + 1 < w3.heap.size := by omega
  have hzI3 : w2.heap.size < w3.heap.size := by omega
  clear c0 c1
  obtain ⟨c0, c1⟩ := F3.out.1
  obtain ⟨i0, i1, i2, i3, ifz⟩ := ItAt.cells I3.out
  go_wp2_with fail
  refine (at_live h3).mono ?_
  rintro e w4 ⟨rfl, h4, g4⟩
  have F4 := Lib.hid (F3.out.chg g4 hne hne1)
  have I4 := Lib.hid (Arr.chg I3.out (by decide) g4 hneI)
  have hg4 := hg3.trans g4
  have hz4 := g4.size
  (try simp at hz4)
  have hzA4 : w.heap.size < w4.heap.size := by omega
  have hzB4 : w.heap.size + 1 < w4.heap.size := by omega
  have hzI4 : w2.heap.size < w4.heap.size := by omega
  clear c0 c1 i0 i1 i2 i3 ifz
  obtain ⟨c0, c1⟩ := F4.out.1
  obtain ⟨i0, i1, i2, i3, ifz⟩ := ItAt.cells I4.out
  go_wp2_with fail
  refine (HM.out _ h4).mono ?_
  rintro e w5 ⟨rfl, h5, g5⟩
  have F5 := Lib.hid (F4.out.chg g5 hne hne1)
  have I5 := Lib.hid (Arr.chg I4.out (by decide) g5 hneI)
  have hg5 := hg4.trans g5
  have hz5 := g5.size
  (try simp at hz5)
  have hzA5 : w.heap.size < w5.heap.size := by omega
  have hzB5 : w.heap.size + 1 < w5.heap.size := by omega
  have hzI5 : w2.heap.size < w5.heap.size := by omega
  clear c0 c1 i0 i1 i2 i3 ifz
  obtain ⟨c0, c1⟩ := F5.out.1
  obtain ⟨i0, i1, i2, i3, ifz⟩ := ItAt.cells I5.out
  go_wp2_with fail
  refine (is_yes hs9 ((((h5.set hneI (.int .i64 2)).set hneI (.int .i64 m)).set hneI (.int .i64 1)).alloc _) (rdB1 (c := 47) (cell_new (by simp) rfl)) (by decide) HP4.out).mono ?_
  rintro e w6 ⟨rfl, h6, g6⟩
  have F6 := Lib.hid (((((F5.out.set (by omega) (by omega) (.int .i64 2)).set (by omega) (by omega) (.int .i64 m)).set (by omega) (by omega) (.int .i64 1)).alloc _).chg g6 hne hne1)
  have I6 := Lib.hid (Arr.chg (Arr.alloc (itAt_set3 (itAt_set2 (itAt_set0 I5.out 2) m) 1) (Arr.lt (itAt_set3 (itAt_set2 (itAt_set0 I5.out 2) m) 1) (by decide)) _) (by decide) g6 hneI)
  have hg6 := ((((hg5.setNew (by omega)).setNew (by omega)).setNew (by omega)).alloc _).trans g6
  have hz6 := g6.size
  (try simp at hz6)
  have hzA6 : w.heap.size < w6.heap.size := by omega
  have hzB6 : w.heap.size + 1 < w6.heap.size := by omega
  have hzI6 : w2.heap.size < w6.heap.size := by omega
  clear c0 c1 i0 i1 i2 i3 ifz
  obtain ⟨c0, c1⟩ := F6.out.1
  obtain ⟨i0, i1, i2, i3, ifz⟩ := ItAt.cells I6.out
  go_wp2_with fail
  refine (HS.out _ h6).mono ?_
  rintro e w7 ⟨rfl, h7, g7⟩
  have F7 := Lib.hid (F6.out.chg g7 hne hne1)
  have I7 := Lib.hid (Arr.chg I6.out (by decide) g7 hneI)
  have hg7 := hg6.trans g7
  have hz7 := g7.size
  (try simp at hz7)
  have hzA7 : w.heap.size < w7.heap.size := by omega
  have hzB7 : w.heap.size + 1 < w7.heap.size := by omega
  have hzI7 : w2.heap.size < w7.heap.size := by omega
  clear c0 c1 i0 i1 i2 i3 ifz
  obtain ⟨c0, c1⟩ := F7.out.1
  obtain ⟨i0, i1, i2, i3, ifz⟩ := ItAt.cells I7.out
  obtain ⟨r0, r1, r2, r3, rfz⟩ := ItAt.cells F7.out.2
  go_wp2
  (try simp only [Exit.inBlock, Exit.then])
  refine bodyPost_ret (v := itV ⟨2, n, m, q⟩) ?_ rfl ⟨rfl, ?_, ?_⟩
  · rw [results_cell1 rfl]
    go_simp
  · exact (h7.set hneI (.int .i64 q)).set4 hne1 _ _ _ _
  · exact (hg7.setNew (by omega)).set4 (by omega) _ _ _ _
set_option maxRecDepth 20000 in
set_option maxHeartbeats 1000000 in
theorem item_rng2_err (b f : Nat) (hf : f < 5) (s : ByteArray) (hs : s.size ≤ 1000000) (l l1 l2 l3 l4 : List UInt8) (n m : Int) (z : Nat) (q : Int) (w : World) (h : Live w b s l) (hp : pIs [42] l = none) (hp1 : cNum f l = .ok (n, l1)) (hp2 : pIs [45] l1 = some l2) (hp3 : cNum f l2 = .ok (m, l3)) (hle : ¬ m < n) (hp4 : pIs [47] l3 = some l4) (hp5 : cStep l4 = .error (z, q)) :
    Calls Tryd.prog 14 #[rdV b f] w (RetDIt b s (placeI s z) q w) := by
  have hs9 : s.size ≤ 9223372036854775807 := by omega
  have hlt := h.lt
  have hne : w.heap.size ≠ b := by omega
  have hne1 : w.heap.size + 1 ≠ b := by omega
  have H := Lib.hid h
  have HP := Lib.hid (hp)
  have HN := Lib.hid (fun W (h : Live W b s l) => num_ok b f hf s hs l l1 n W h hp1)
  have HP2 := Lib.hid (hp2)
  have HM := Lib.hid (fun W (h : Live W b s l2) => num_ok b f hf s hs l2 l3 m W h hp3)
  have HP4 := Lib.hid (hp4)
  have HS := Lib.hid (fun W (h : Live W b s l4) => step_err b f s hs9 l4 z q W h hp5)
  clear h hp hp1 hp2 hp3 hp4 hp5
  go_enter Tryd.func14, Tryd.ntmps14
  go_wp2_with fail
  refine (is_no hs9 (((H.out.alloc _).alloc _).alloc _) (rdB1 (c := 42) (cell_new (by simp) rfl)) (by decide) HP.out).mono ?_
  rintro e w1 ⟨rfl, h1, g1⟩
  have F1 := Lib.hid (((fr_new w b (f : Int) 43 34).alloc _).chg g1 hne hne1)
  have hg1 := ((((Chg.refl b w).alloc _).alloc _).alloc _).trans g1
  have hz1 := g1.size
  (try simp at hz1)
  have hzA1 : w.heap.size < w1.heap.size := by omega
  have hzB1 : w.heap.size + 1 < w1.heap.size := by omega
  obtain ⟨c0, c1⟩ := F1.out.1
  go_wp2_with fail
  refine (HN.out _ h1).mono ?_
  rintro e w2 ⟨rfl, h2, g2⟩
  have F2 := Lib.hid (F1.out.chg g2 hne hne1)
  have hg2 := hg1.trans g2
  have hz2 := g2.size
  (try simp at hz2)
  have hzA2 : w.heap.size < w2.heap.size := by omega
  have hzB2 : w.heap.size + 1 < w2.heap.size := by omega
  clear c0 c1
  obtain ⟨c0, c1⟩ := F2.out.1
  have hneI : w2.heap.size ≠ b := by omega
  go_wp2_with fail
  refine (is_yes hs9 ((h2.alloc _).alloc _) (rdB1 (c := 45) (cell_new (by simp) rfl)) (by decide) HP2.out).mono ?_
  rintro e w3 ⟨rfl, h3, g3⟩
  have F3 := Lib.hid (((F2.out.alloc _).alloc _).chg g3 hne hne1)
  have I3 := Lib.hid (Arr.chg (Arr.alloc (itAt_new w2 1 n 0 0 34) (Arr.lt (itAt_new w2 1 n 0 0 34) (by decide)) _) (by decide) g3 hneI)
  have hg3 := ((hg2.alloc _).alloc _).trans g3
  have hz3 := g3.size
  (try simp at hz3)
  have hzA3 : w.heap.size < w3.heap.size := by omega
  have hzB3 : w.heap.size + 1 < w3.heap.size := by omega
  have hzI3 : w2.heap.size < w3.heap.size := by omega
  clear c0 c1
  obtain ⟨c0, c1⟩ := F3.out.1
  obtain ⟨i0, i1, i2, i3, ifz⟩ := ItAt.cells I3.out
  go_wp2_with fail
  refine (at_live h3).mono ?_
  rintro e w4 ⟨rfl, h4, g4⟩
  have F4 := Lib.hid (F3.out.chg g4 hne hne1)
  have I4 := Lib.hid (Arr.chg I3.out (by decide) g4 hneI)
  have hg4 := hg3.trans g4
  have hz4 := g4.size
  (try simp at hz4)
  have hzA4 : w.heap.size < w4.heap.size := by omega
  have hzB4 : w.heap.size + 1 < w4.heap.size := by omega
  have hzI4 : w2.heap.size < w4.heap.size := by omega
  clear c0 c1 i0 i1 i2 i3 ifz
  obtain ⟨c0, c1⟩ := F4.out.1
  obtain ⟨i0, i1, i2, i3, ifz⟩ := ItAt.cells I4.out
  go_wp2_with fail
  refine (HM.out _ h4).mono ?_
  rintro e w5 ⟨rfl, h5, g5⟩
  have F5 := Lib.hid (F4.out.chg g5 hne hne1)
  have I5 := Lib.hid (Arr.chg I4.out (by decide) g5 hneI)
  have hg5 := hg4.trans g5
  have hz5 := g5.size
  (try simp at hz5)
  have hzA5 : w.heap.size < w5.heap.size := by omega
  have hzB5 : w.heap.size + 1 < w5.heap.size := by omega
  have hzI5 : w2.heap.size < w5.heap.size := by omega
  clear c0 c1 i0 i1 i2 i3 ifz
  obtain ⟨c0, c1⟩ := F5.out.1
  obtain ⟨i0, i1, i2, i3, ifz⟩ := ItAt.cells I5.out
  go_wp2_with fail
  refine (is_yes hs9 ((((h5.set hneI (.int .i64 2)).set hneI (.int .i64 m)).set hneI (.int .i64 1)).alloc _) (rdB1 (c := 47) (cell_new (by simp) rfl)) (by decide) HP4.out).mono ?_
  rintro e w6 ⟨rfl, h6, g6⟩
  have F6 := Lib.hid (((((F5.out.set (by omega) (by omega) (.int .i64 2)).set (by omega) (by omega) (.int .i64 m)).set (by omega) (by omega) (.int .i64 1)).alloc _).chg g6 hne hne1)
  have I6 := Lib.hid (Arr.chg (Arr.alloc (itAt_set3 (itAt_set2 (itAt_set0 I5.out 2) m) 1) (Arr.lt (itAt_set3 (itAt_set2 (itAt_set0 I5.out 2) m) 1) (by decide)) _) (by decide) g6 hneI)
  have hg6 := ((((hg5.setNew (by omega)).setNew (by omega)).setNew (by omega)).alloc _).trans g6
  have hz6 := g6.size
  (try simp at hz6)
  have hzA6 : w.heap.size < w6.heap.size := by omega
  have hzB6 : w.heap.size + 1 < w6.heap.size := by omega
  have hzI6 : w2.heap.size < w6.heap.size := by omega
  clear c0 c1 i0 i1 i2 i3 ifz
  obtain ⟨c0, c1⟩ := F6.out.1
  obtain ⟨i0, i1, i2, i3, ifz⟩ := ItAt.cells I6.out
  go_wp2_with fail
  refine (HS.out _ h6).mono ?_
  rintro e w7 ⟨y7, rfl, h7, g7⟩
  have F7 := Lib.hid (F6.out.chg g7 hne hne1)
  have I7 := Lib.hid (Arr.chg I6.out (by decide) g7 hneI)
  have hg7 := hg6.trans g7
  have hz7 := g7.size
  (try simp at hz7)
  have hzA7 : w.heap.size < w7.heap.size := by omega
  have hzB7 : w.heap.size + 1 < w7.heap.size := by omega
  have hzI7 : w2.heap.size < w7.heap.size := by omega
  clear c0 c1 i0 i1 i2 i3 ifz
  obtain ⟨c0, c1⟩ := F7.out.1
  obtain ⟨i0, i1, i2, i3, ifz⟩ := ItAt.cells I7.out
  obtain ⟨r0, r1, r2, r3, rfz⟩ := ItAt.cells F7.out.2
  go_wp2
  (try simp only [Exit.inBlock, Exit.then])
  refine bodyPost_ret (v := itV ⟨2, n, m, y7⟩) ?_ rfl ⟨⟨2, n, m, y7⟩, rfl, ?_, ?_⟩
  · rw [results_cell1 rfl]
    go_simp
  · exact (h7.set hneI (.int .i64 y7)).set4 hne1 _ _ _ _
  · exact (hg7.setNew (by omega)).set4 (by omega) _ _ _ _
set_option maxRecDepth 20000 in
set_option maxHeartbeats 1000000 in
theorem item_rng_less (b f : Nat) (hf : f < 5) (s : ByteArray) (hs : s.size ≤ 1000000) (l l1 l2 l3 : List UInt8) (n m : Int) (w : World) (h : Live w b s l) (hp : pIs [42] l = none) (hp1 : cNum f l = .ok (n, l1)) (hp2 : pIs [45] l1 = some l2) (hp3 : cNum f l2 = .ok (m, l3)) (hlt2 : m < n) :
    Calls Tryd.prog 14 #[rdV b f] w (RetDIt b s (placeI s l2.length) 4 w) := by
  have hs9 : s.size ≤ 9223372036854775807 := by omega
  have hlt := h.lt
  have hne : w.heap.size ≠ b := by omega
  have hne1 : w.heap.size + 1 ≠ b := by omega
  have H := Lib.hid h
  have HP := Lib.hid (hp)
  have HN := Lib.hid (fun W (h : Live W b s l) => num_ok b f hf s hs l l1 n W h hp1)
  have HP2 := Lib.hid (hp2)
  have HM := Lib.hid (fun W (h : Live W b s l2) => num_ok b f hf s hs l2 l3 m W h hp3)
  clear h hp hp1 hp2 hp3
  go_enter Tryd.func14, Tryd.ntmps14
  go_wp2_with fail
  refine (is_no hs9 (((H.out.alloc _).alloc _).alloc _) (rdB1 (c := 42) (cell_new (by simp) rfl)) (by decide) HP.out).mono ?_
  rintro e w1 ⟨rfl, h1, g1⟩
  have F1 := Lib.hid (((fr_new w b (f : Int) 43 34).alloc _).chg g1 hne hne1)
  have hg1 := ((((Chg.refl b w).alloc _).alloc _).alloc _).trans g1
  have hz1 := g1.size
  (try simp at hz1)
  have hzA1 : w.heap.size < w1.heap.size := by omega
  have hzB1 : w.heap.size + 1 < w1.heap.size := by omega
  obtain ⟨c0, c1⟩ := F1.out.1
  go_wp2_with fail
  refine (HN.out _ h1).mono ?_
  rintro e w2 ⟨rfl, h2, g2⟩
  have F2 := Lib.hid (F1.out.chg g2 hne hne1)
  have hg2 := hg1.trans g2
  have hz2 := g2.size
  (try simp at hz2)
  have hzA2 : w.heap.size < w2.heap.size := by omega
  have hzB2 : w.heap.size + 1 < w2.heap.size := by omega
  clear c0 c1
  obtain ⟨c0, c1⟩ := F2.out.1
  have hneI : w2.heap.size ≠ b := by omega
  go_wp2_with fail
  refine (is_yes hs9 ((h2.alloc _).alloc _) (rdB1 (c := 45) (cell_new (by simp) rfl)) (by decide) HP2.out).mono ?_
  rintro e w3 ⟨rfl, h3, g3⟩
  have F3 := Lib.hid (((F2.out.alloc _).alloc _).chg g3 hne hne1)
  have I3 := Lib.hid (Arr.chg (Arr.alloc (itAt_new w2 1 n 0 0 34) (Arr.lt (itAt_new w2 1 n 0 0 34) (by decide)) _) (by decide) g3 hneI)
  have hg3 := ((hg2.alloc _).alloc _).trans g3
  have hz3 := g3.size
  (try simp at hz3)
  have hzA3 : w.heap.size < w3.heap.size := by omega
  have hzB3 : w.heap.size + 1 < w3.heap.size := by omega
  have hzI3 : w2.heap.size < w3.heap.size := by omega
  clear c0 c1
  obtain ⟨c0, c1⟩ := F3.out.1
  obtain ⟨i0, i1, i2, i3, ifz⟩ := ItAt.cells I3.out
  go_wp2_with fail
  refine (at_live h3).mono ?_
  rintro e w4 ⟨rfl, h4, g4⟩
  have F4 := Lib.hid (F3.out.chg g4 hne hne1)
  have I4 := Lib.hid (Arr.chg I3.out (by decide) g4 hneI)
  have hg4 := hg3.trans g4
  have hz4 := g4.size
  (try simp at hz4)
  have hzA4 : w.heap.size < w4.heap.size := by omega
  have hzB4 : w.heap.size + 1 < w4.heap.size := by omega
  have hzI4 : w2.heap.size < w4.heap.size := by omega
  clear c0 c1 i0 i1 i2 i3 ifz
  obtain ⟨c0, c1⟩ := F4.out.1
  obtain ⟨i0, i1, i2, i3, ifz⟩ := ItAt.cells I4.out
  go_wp2_with fail
  refine (HM.out _ h4).mono ?_
  rintro e w5 ⟨rfl, h5, g5⟩
  have F5 := Lib.hid (F4.out.chg g5 hne hne1)
  have I5 := Lib.hid (Arr.chg I4.out (by decide) g5 hneI)
  have hg5 := hg4.trans g5
  have hz5 := g5.size
  (try simp at hz5)
  have hzA5 : w.heap.size < w5.heap.size := by omega
  have hzB5 : w.heap.size + 1 < w5.heap.size := by omega
  have hzI5 : w2.heap.size < w5.heap.size := by omega
  clear c0 c1 i0 i1 i2 i3 ifz
  obtain ⟨c0, c1⟩ := F5.out.1
  obtain ⟨i0, i1, i2, i3, ifz⟩ := ItAt.cells I5.out
  go_wp2_with fail
  refine (fail_live (placeI s l2.length) 4 (by decide) (((h5.set hneI (.int .i64 2)).set hneI (.int .i64 m)).set hneI (.int .i64 1))).mono ?_
  rintro e w6 ⟨rfl, h6, g6⟩
  have F6 := Lib.hid ((((F5.out.set (by omega) (by omega) (.int .i64 2)).set (by omega) (by omega) (.int .i64 m)).set (by omega) (by omega) (.int .i64 1)).chg g6 hne hne1)
  have I6 := Lib.hid (Arr.chg (itAt_set3 (itAt_set2 (itAt_set0 I5.out 2) m) 1) (by decide) g6 hneI)
  have hg6 := (((hg5.setNew (by omega)).setNew (by omega)).setNew (by omega)).trans g6
  have hz6 := g6.size
  (try simp at hz6)
  have hzA6 : w.heap.size < w6.heap.size := by omega
  have hzB6 : w.heap.size + 1 < w6.heap.size := by omega
  have hzI6 : w2.heap.size < w6.heap.size := by omega
  clear c0 c1 i0 i1 i2 i3 ifz
  obtain ⟨c0, c1⟩ := F6.out.1
  obtain ⟨i0, i1, i2, i3, ifz⟩ := ItAt.cells I6.out
  go_wp2_with fail
  refine (is_dead hs9 (h6.alloc _) (rdB1 (c := 47) (cell_new (by simp) rfl)) (by decide)).mono ?_
  rintro e w7 ⟨rfl, h7, g7⟩
  have F7 := Lib.hid ((F6.out.alloc _).chg g7 hne hne1)
  have I7 := Lib.hid (Arr.chg (Arr.alloc I6.out (Arr.lt I6.out (by decide)) _) (by decide) g7 hneI)
  have hg7 := (hg6.alloc _).trans g7
  have hz7 := g7.size
  (try simp at hz7)
  have hzA7 : w.heap.size < w7.heap.size := by omega
  have hzB7 : w.heap.size + 1 < w7.heap.size := by omega
  have hzI7 : w2.heap.size < w7.heap.size := by omega
  clear c0 c1 i0 i1 i2 i3 ifz
  obtain ⟨c0, c1⟩ := F7.out.1
  obtain ⟨i0, i1, i2, i3, ifz⟩ := ItAt.cells I7.out
  obtain ⟨r0, r1, r2, r3, rfz⟩ := ItAt.cells F7.out.2
  go_wp2
  (try simp only [Exit.inBlock, Exit.then])
  refine bodyPost_ret (v := itV ⟨2, n, m, 1⟩) ?_ rfl ⟨⟨2, n, m, 1⟩, rfl, ?_, ?_⟩
  · rw [results_cell1 rfl]
    go_simp
  · exact h7.set4 hne1 _ _ _ _
  · exact hg7.set4 (by omega) _ _ _ _
set_option maxRecDepth 20000 in
set_option maxHeartbeats 1000000 in
theorem item_rng_err (b f : Nat) (hf : f < 5) (s : ByteArray) (hs : s.size ≤ 1000000) (l l1 l2 : List UInt8) (n : Int) (z : Nat) (q : Int) (w : World) (h : Live w b s l) (hp : pIs [42] l = none) (hp1 : cNum f l = .ok (n, l1)) (hp2 : pIs [45] l1 = some l2) (hp3 : cNum f l2 = .error (z, q)) :
    Calls Tryd.prog 14 #[rdV b f] w (RetDIt b s (placeI s z) q w) := by
  have hs9 : s.size ≤ 9223372036854775807 := by omega
  have hlt := h.lt
  have hne : w.heap.size ≠ b := by omega
  have hne1 : w.heap.size + 1 ≠ b := by omega
  have H := Lib.hid h
  have HP := Lib.hid (hp)
  have HN := Lib.hid (fun W (h : Live W b s l) => num_ok b f hf s hs l l1 n W h hp1)
  have HP2 := Lib.hid (hp2)
  have HM := Lib.hid (fun W (h : Live W b s l2) => num_err b f hf s hs l2 z q W h hp3)
  clear h hp hp1 hp2 hp3
  go_enter Tryd.func14, Tryd.ntmps14
  go_wp2_with fail
  refine (is_no hs9 (((H.out.alloc _).alloc _).alloc _) (rdB1 (c := 42) (cell_new (by simp) rfl)) (by decide) HP.out).mono ?_
  rintro e w1 ⟨rfl, h1, g1⟩
  have F1 := Lib.hid (((fr_new w b (f : Int) 43 34).alloc _).chg g1 hne hne1)
  have hg1 := ((((Chg.refl b w).alloc _).alloc _).alloc _).trans g1
  have hz1 := g1.size
  (try simp at hz1)
  have hzA1 : w.heap.size < w1.heap.size := by omega
  have hzB1 : w.heap.size + 1 < w1.heap.size := by omega
  obtain ⟨c0, c1⟩ := F1.out.1
  go_wp2_with fail
  refine (HN.out _ h1).mono ?_
  rintro e w2 ⟨rfl, h2, g2⟩
  have F2 := Lib.hid (F1.out.chg g2 hne hne1)
  have hg2 := hg1.trans g2
  have hz2 := g2.size
  (try simp at hz2)
  have hzA2 : w.heap.size < w2.heap.size := by omega
  have hzB2 : w.heap.size + 1 < w2.heap.size := by omega
  clear c0 c1
  obtain ⟨c0, c1⟩ := F2.out.1
  have hneI : w2.heap.size ≠ b := by omega
  go_wp2_with fail
  refine (is_yes hs9 ((h2.alloc _).alloc _) (rdB1 (c := 45) (cell_new (by simp) rfl)) (by decide) HP2.out).mono ?_
  rintro e w3 ⟨rfl, h3, g3⟩
  have F3 := Lib.hid (((F2.out.alloc _).alloc _).chg g3 hne hne1)
  have I3 := Lib.hid (Arr.chg (Arr.alloc (itAt_new w2 1 n 0 0 34) (Arr.lt (itAt_new w2 1 n 0 0 34) (by decide)) _) (by decide) g3 hneI)
  have hg3 := ((hg2.alloc _).alloc _).trans g3
  have hz3 := g3.size
  (try simp at hz3)
  have hzA3 : w.heap.size < w3.heap.size := by omega
  have hzB3 : w.heap.size + 1 < w3.heap.size := by omega
  have hzI3 : w2.heap.size < w3.heap.size := by omega
  clear c0 c1
  obtain ⟨c0, c1⟩ := F3.out.1
  obtain ⟨i0, i1, i2, i3, ifz⟩ := ItAt.cells I3.out
  go_wp2_with fail
  refine (at_live h3).mono ?_
  rintro e w4 ⟨rfl, h4, g4⟩
  have F4 := Lib.hid (F3.out.chg g4 hne hne1)
  have I4 := Lib.hid (Arr.chg I3.out (by decide) g4 hneI)
  have hg4 := hg3.trans g4
  have hz4 := g4.size
  (try simp at hz4)
  have hzA4 : w.heap.size < w4.heap.size := by omega
  have hzB4 : w.heap.size + 1 < w4.heap.size := by omega
  have hzI4 : w2.heap.size < w4.heap.size := by omega
  clear c0 c1 i0 i1 i2 i3 ifz
  obtain ⟨c0, c1⟩ := F4.out.1
  obtain ⟨i0, i1, i2, i3, ifz⟩ := ItAt.cells I4.out
  go_wp2_with fail
  refine (HM.out _ h4).mono ?_
  rintro e w5 ⟨y5, rfl, h5, g5⟩
  have F5 := Lib.hid (F4.out.chg g5 hne hne1)
  have I5 := Lib.hid (Arr.chg I4.out (by decide) g5 hneI)
  have hg5 := hg4.trans g5
  have hz5 := g5.size
  (try simp at hz5)
  have hzA5 : w.heap.size < w5.heap.size := by omega
  have hzB5 : w.heap.size + 1 < w5.heap.size := by omega
  have hzI5 : w2.heap.size < w5.heap.size := by omega
  clear c0 c1 i0 i1 i2 i3 ifz
  obtain ⟨c0, c1⟩ := F5.out.1
  obtain ⟨i0, i1, i2, i3, ifz⟩ := ItAt.cells I5.out
  by_cases hy : y5 < n
  · skip
    go_wp2_with fail
    refine (fail_dead (placeI s l2.length) 4 (((h5.set hneI (.int .i64 2)).set hneI (.int .i64 y5)).set hneI (.int .i64 1))).mono ?_
    rintro e w6 ⟨rfl, h6, g6⟩
    have F6 := Lib.hid ((((F5.out.set (by omega) (by omega) (.int .i64 2)).set (by omega) (by omega) (.int .i64 y5)).set (by omega) (by omega) (.int .i64 1)).chg g6 hne hne1)
    have I6 := Lib.hid (Arr.chg (itAt_set3 (itAt_set2 (itAt_set0 I5.out 2) y5) 1) (by decide) g6 hneI)
    have hg6 := (((hg5.setNew (by omega)).setNew (by omega)).setNew (by omega)).trans g6
    have hz6 := g6.size
    (try simp at hz6)
    have hzA6 : w.heap.size < w6.heap.size := by omega
    have hzB6 : w.heap.size + 1 < w6.heap.size := by omega
    have hzI6 : w2.heap.size < w6.heap.size := by omega
    clear c0 c1 i0 i1 i2 i3 ifz
    obtain ⟨c0, c1⟩ := F6.out.1
    obtain ⟨i0, i1, i2, i3, ifz⟩ := ItAt.cells I6.out
    go_wp2_with fail
    refine (is_dead hs9 (h6.alloc _) (rdB1 (c := 47) (cell_new (by simp) rfl)) (by decide)).mono ?_
    rintro e w7 ⟨rfl, h7, g7⟩
    have F7 := Lib.hid ((F6.out.alloc _).chg g7 hne hne1)
    have I7 := Lib.hid (Arr.chg (Arr.alloc I6.out (Arr.lt I6.out (by decide)) _) (by decide) g7 hneI)
    have hg7 := (hg6.alloc _).trans g7
    have hz7 := g7.size
    (try simp at hz7)
    have hzA7 : w.heap.size < w7.heap.size := by omega
    have hzB7 : w.heap.size + 1 < w7.heap.size := by omega
    have hzI7 : w2.heap.size < w7.heap.size := by omega
    clear c0 c1 i0 i1 i2 i3 ifz
    obtain ⟨c0, c1⟩ := F7.out.1
    obtain ⟨i0, i1, i2, i3, ifz⟩ := ItAt.cells I7.out
    obtain ⟨r0, r1, r2, r3, rfz⟩ := ItAt.cells F7.out.2
    go_wp2
    (try simp only [Exit.inBlock, Exit.then])
    refine bodyPost_ret (v := itV ⟨2, n, y5, 1⟩) ?_ rfl ⟨⟨2, n, y5, 1⟩, rfl, ?_, ?_⟩
    · rw [results_cell1 rfl]
      go_simp
    · exact h7.set4 hne1 _ _ _ _
    · exact hg7.set4 (by omega) _ _ _ _
  · skip
    go_wp2_with fail
    refine (is_dead hs9 ((((h5.set hneI (.int .i64 2)).set hneI (.int .i64 y5)).set hneI (.int .i64 1)).alloc _) (rdB1 (c := 47) (cell_new (by simp) rfl)) (by decide)).mono ?_
    rintro e w6 ⟨rfl, h6, g6⟩
    have F6 := Lib.hid (((((F5.out.set (by omega) (by omega) (.int .i64 2)).set (by omega) (by omega) (.int .i64 y5)).set (by omega) (by omega) (.int .i64 1)).alloc _).chg g6 hne hne1)
    have I6 := Lib.hid (Arr.chg (Arr.alloc (itAt_set3 (itAt_set2 (itAt_set0 I5.out 2) y5) 1) (Arr.lt (itAt_set3 (itAt_set2 (itAt_set0 I5.out 2) y5) 1) (by decide)) _) (by decide) g6 hneI)
    have hg6 := ((((hg5.setNew (by omega)).setNew (by omega)).setNew (by omega)).alloc _).trans g6
    have hz6 := g6.size
    (try simp at hz6)
    have hzA6 : w.heap.size < w6.heap.size := by omega
    have hzB6 : w.heap.size + 1 < w6.heap.size := by omega
    have hzI6 : w2.heap.size < w6.heap.size := by omega
    clear c0 c1 i0 i1 i2 i3 ifz
    obtain ⟨c0, c1⟩ := F6.out.1
    obtain ⟨i0, i1, i2, i3, ifz⟩ := ItAt.cells I6.out
    obtain ⟨r0, r1, r2, r3, rfz⟩ := ItAt.cells F6.out.2
    go_wp2
    (try simp only [Exit.inBlock, Exit.then])
    refine bodyPost_ret (v := itV ⟨2, n, y5, 1⟩) ?_ rfl ⟨⟨2, n, y5, 1⟩, rfl, ?_, ?_⟩
    · rw [results_cell1 rfl]
      go_simp
    · exact h6.set4 hne1 _ _ _ _
    · exact hg6.set4 (by omega) _ _ _ _
end Go.Proofs.YtpfcgjneeboamaaDoor
