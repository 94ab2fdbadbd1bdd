/- The walk of the law RuleshowBack: a rule is read, its text too long. -/
import Derived.Test.YtnelecjjbmjhaaaGreatDoorLRbE
namespace Go.Proofs.YtnelecjjbmjhaaaGreatDoor
open Go.RowKit
set_option linter.unusedSimpArgs false
set_option linter.unusedVariables false

section
variable (r : RuV) (s : ByteArray) (A : Nat → Option Addr) (n c : Nat → Nat) (w : World) (hA : RdRu w A n r) (hn2 : ∀ k, n k ≤ 1000) (hout : ∀ k, (k < 5 ∨ 10 < k) → n k = 0) (hwf : RuWf r) (hw : Pow w) (hg : rgreat n = false) (hbg : ∀ k, n k ≤ 140737488355328) (hs9 : s.size ≤ 9000)
include hA hn2 hout hwf hw hg hbg hs9
set_option maxRecDepth 20000 in
set_option maxHeartbeats 16000000 in
theorem rback_ok2 {y : RuV} (hk : rread s.data.toList = .ok y) (hy8 : ¬ (ruT y).length ≤ 8192) : Calls Tryz.prog 3 #[ruV r A n c, .string s] w (Ret (.bool true) w) := by
  have HV := Lib.hid (fun W (hb : Below w.heap.size w W) => lives34_any W (tab_below hw hb))
  have HG := Lib.hid (fun W => rgreat_any r A n c W hbg)
  rw [hg] at HG
  have HE := Lib.hid (ruAt_new w r A n c 25)
  have HRs := Lib.hid (fun W => rread_okc (s := s) (by omega) hk W)
  have hcy := (rread_ok hk).2.2.1
  have h15y := (rread_ok hk).2.2.2.1
  have hzu := ruT_len hcy
  have hwy := (chk_lens hcy).1
  have HSy := Lib.hid (fun Ay ny cy W (hr : RdRu W Ay ny y) (hn : ∀ k, ny k ≤ 1000) (hb : Below w.heap.size w W) => rshow_ok (c := cy) hr hn hwy (tab_below hw hb) hcy)
  have hs9' : ¬ (9000 : Int) < (s.size : Int) := by omega
  have HRu := Lib.hid (fun W => rread_shapeS (strB (ruT y)) (by rw [strB_size]; omega) W)
  have hu8 : (strB (ruT y)).size > 8192 := by rw [strB_size]; omega
  unfold RetOkR at HRs
  unfold RetAnyS at HRu
  generalize strB (ruT y) = UX at *
  have hu8' : 8192 < ((UX.size : Nat) : Int) := by omega
  clear hk hbg hg hs9 hy8 hcy h15y hzu
  by_cases hc : chkR r = 0
  · have hzT := ruT_len hc
    have HSr := Lib.hid (fun W (hb : Below w.heap.size w W) => rshow_ok (c := c) (hA.below hb) hn2 hwf (tab_below hw hb) hc)
    by_cases hl8 : (ruT r).length ≤ 8192
    · by_cases hiv : r.iv < 1000000000000000
      · by_cases hct : r.ct < 1000000000000000
        · have HRt := Lib.hid (fun W => rread_okc (s := strB (ruT r)) (by rw [strB_size]; omega) (by rw [strB_data]; exact rread_back hc (num15_of hc hiv hct) hl8) W)
          have HRr := Lib.hid hA
          have HOut := Lib.hid hout
          have hz8 : (strB (ruT r)).size ≤ 8192 := by rw [strB_size]; exact hl8
          generalize strB (ruT r) = TX at *
          have hz8' : ((TX.size : Nat) : Int) ≤ 8192 := by omega
          unfold RetOkR at HRt
          clear hA hn2 hwf hw hc hout hl8 hzT
          unfold ruV at *
          go_enter Tryz.func3, Tryz.ntmps3
          go_wp2_with fail
          refine (HG.out _).mono ?_
          rintro e w1 ⟨rfl, hb1⟩
          have hb2 : Below w.heap.size w w1 := ((Below.refl _ w).alloc (Nat.le_refl _) _).trans (hb1.mono (by simp))
          have HE1 := Lib.hid (HE.out.below hb1)
          clear hb1
          obtain ⟨x0, x1, x2, x3, x4, x5, x6, x7, x8, x9, x10⟩ := HE1.out
          go_wp2_with fail
          refine (HSr.out _ hb2).mono ?_
          rintro e w2 ⟨rfl, hb3⟩
          have hb4 := bthen hb2 hb3 hb2.size
          have HE2 := Lib.hid (HE1.out.below hb3)
          clear x0 x1 x2 x3 x4 x5 x6 x7 x8 x9 x10 hb3 HE1
          obtain ⟨x0, x1, x2, x3, x4, x5, x6, x7, x8, x9, x10⟩ := HE2.out
          go_wp2_with fail
          refine (HRt.out _).mono ?_
          rintro e w3 ⟨A3, n3, c3, rfl, hr3, hn3, h03, hb5⟩
          obtain rfl : n3 = n := rd_same HRr.out hr3 HOut.out h03
          have hbA : Below w.heap.size w w3 := bthen hb4 hb5 hb4.size
          have hzA := hbA.size
          have HE3 := Lib.hid (HE2.out.below hb5)
          have HE4 := Lib.hid (HE3.out.below ((Below.refl _ w3).alloc (Nat.le_refl _) (.cells #[.int .i64 r.st, .int .i64 r.fr, .int .i64 r.iv, .int .i64 r.ct, .int .i64 r.un, .slice (A3 5) (n3 5) (c3 5), .slice (A3 6) (n3 6) (c3 6), .slice (A3 7) (n3 7) (c3 7), .slice (A3 8) (n3 8) (c3 8), .slice (A3 9) (n3 9) (c3 9), .slice (A3 10) (n3 10) (c3 10)] 25)))
          have HF4 := Lib.hid (ruAt_new w3 r A3 n3 c3 25)
          have HSm := Lib.hid (fun W (hb : Below w3.heap.size w3 W) => rsame_any r A A3 n3 c c3 W (HRr.out.below (bthen hbA hb hzA)) (hr3.below hb) (fun k => by have := hn3 k; omega))
          unfold ruV at HSm
          clear x0 x1 x2 x3 x4 x5 x6 x7 x8 x9 x10 HE2 HE3 hb5 hr3
          obtain ⟨x0, x1, x2, x3, x4, x5, x6, x7, x8, x9, x10⟩ := HE4.out
          obtain ⟨y0, y1, y2, y3, y4, y5, y6, y7, y8, y9, y10⟩ := HF4.out
          go_wp2_with fail
          refine (HSm.out _ ((Below.refl _ w3).alloc (Nat.le_refl _) _)).mono ?_
          rintro e w4 ⟨rfl, hb6⟩
          have hb7 : Below w.heap.size w w4 := bthen (hbA.alloc hzA _) hb6 (by simp; omega)
          clear x0 x1 x2 x3 x4 x5 x6 x7 x8 x9 x10 y0 y1 y2 y3 y4 y5 y6 y7 y8 y9 y10 HE4 HF4 HSm hb6
          go_wp2_with fail
          refine (HRs.out _).mono ?_
          rintro e wA ⟨Ay, ny, cy, rfl, hry, hny, hy0, hbA⟩
          have hbB := bthen hb7 hbA hb7.size
          have hzB := hbB.size
          have HYE := Lib.hid (ruAt_new wA y Ay ny cy 25)
          have HYR := Lib.hid hry
          obtain ⟨y0, y1, y2, y3, y4, y5, y6, y7, y8, y9, y10⟩ := HYE.out
          go_wp2_with fail
          refine (HSy.out Ay ny cy _ (HYR.out.below ((Below.refl _ wA).alloc (Nat.le_refl _) _)) (fun k => by have := hny k; omega) (hbB.alloc hzB _)).mono ?_
          rintro e wB ⟨rfl, hbS⟩
          have hbC : Below w.heap.size w wB := bthen (hbB.alloc hzB _) hbS (by simp; omega)
          have hbAB : Below wA.heap.size wA wB := ((Below.refl _ wA).alloc (Nat.le_refl _) _).trans (hbS.mono (by simp))
          have HYE2 := Lib.hid (HYE.out.below hbS)
          have HYR2 := Lib.hid (HYR.out.below hbAB)
          have hzC := hbC.size
          clear y0 y1 y2 y3 y4 y5 y6 y7 y8 y9 y10 HYE HYR hbS hbAB hbA hry
          go_wp2_with fail
          refine (HRu.out _).mono ?_
          rintro e wC ⟨rz, Az, nz, cz, az, ez, rfl, hbU⟩
          have hbD := bthen hbC hbU hzC
          have hzD := hbD.size
          have HYE3 := Lib.hid (HYE2.out.below hbU)
          clear hbU HYE2
          obtain ⟨y0, y1, y2, y3, y4, y5, y6, y7, y8, y9, y10⟩ := HYE3.out
          go_wp2_with fail
          refine (HV.out _ (hbD.alloc hzD _)).mono ?_
          rintro e wZ ⟨rfl, hbZ⟩
          go_wp2
          go_ret
          exact ⟨rfl, bthen (hbD.alloc hzD _) hbZ (by simp; omega)⟩
        · have hct' : ¬ r.ct < 1000000000000000 := hct
          have hz8 : (strB (ruT r)).size ≤ 8192 := by rw [strB_size]; exact hl8
          generalize strB (ruT r) = TX at *
          have hz8' : ((TX.size : Nat) : Int) ≤ 8192 := by omega
          clear hA hn2 hwf hw hc hout hl8 hzT
          unfold ruV at *
          go_enter Tryz.func3, Tryz.ntmps3
          go_wp2_with fail
          refine (HG.out _).mono ?_
          rintro e w1 ⟨rfl, hb1⟩
          have hb2 : Below w.heap.size w w1 := ((Below.refl _ w).alloc (Nat.le_refl _) _).trans (hb1.mono (by simp))
          have HE1 := Lib.hid (HE.out.below hb1)
          clear hb1
          obtain ⟨x0, x1, x2, x3, x4, x5, x6, x7, x8, x9, x10⟩ := HE1.out
          go_wp2_with fail
          refine (HSr.out _ hb2).mono ?_
          rintro e w2 ⟨rfl, hb3⟩
          have hb4 := bthen hb2 hb3 hb2.size
          have HE2 := Lib.hid (HE1.out.below hb3)
          clear x0 x1 x2 x3 x4 x5 x6 x7 x8 x9 x10 hb3 HE1
          obtain ⟨x0, x1, x2, x3, x4, x5, x6, x7, x8, x9, x10⟩ := HE2.out
          go_wp2_with fail
          refine (HRs.out _).mono ?_
          rintro e wA ⟨Ay, ny, cy, rfl, hry, hny, hy0, hbA⟩
          have hbB := bthen hb4 hbA hb4.size
          have hzB := hbB.size
          have HYE := Lib.hid (ruAt_new wA y Ay ny cy 25)
          have HYR := Lib.hid hry
          obtain ⟨y0, y1, y2, y3, y4, y5, y6, y7, y8, y9, y10⟩ := HYE.out
          go_wp2_with fail
          refine (HSy.out Ay ny cy _ (HYR.out.below ((Below.refl _ wA).alloc (Nat.le_refl _) _)) (fun k => by have := hny k; omega) (hbB.alloc hzB _)).mono ?_
          rintro e wB ⟨rfl, hbS⟩
          have hbC : Below w.heap.size w wB := bthen (hbB.alloc hzB _) hbS (by simp; omega)
          have hbAB : Below wA.heap.size wA wB := ((Below.refl _ wA).alloc (Nat.le_refl _) _).trans (hbS.mono (by simp))
          have HYE2 := Lib.hid (HYE.out.below hbS)
          have HYR2 := Lib.hid (HYR.out.below hbAB)
          have hzC := hbC.size
          clear y0 y1 y2 y3 y4 y5 y6 y7 y8 y9 y10 HYE HYR hbS hbAB hbA hry
          go_wp2_with fail
          refine (HRu.out _).mono ?_
          rintro e wC ⟨rz, Az, nz, cz, az, ez, rfl, hbU⟩
          have hbD := bthen hbC hbU hzC
          have hzD := hbD.size
          have HYE3 := Lib.hid (HYE2.out.below hbU)
          clear hbU HYE2
          obtain ⟨y0, y1, y2, y3, y4, y5, y6, y7, y8, y9, y10⟩ := HYE3.out
          go_wp2_with fail
          refine (HV.out _ (hbD.alloc hzD _)).mono ?_
          rintro e wZ ⟨rfl, hbZ⟩
          go_wp2
          go_ret
          exact ⟨rfl, bthen (hbD.alloc hzD _) hbZ (by simp; omega)⟩
      · have hiv' : ¬ r.iv < 1000000000000000 := hiv
        have hz8 : (strB (ruT r)).size ≤ 8192 := by rw [strB_size]; exact hl8
        generalize strB (ruT r) = TX at *
        have hz8' : ((TX.size : Nat) : Int) ≤ 8192 := by omega
        clear hA hn2 hwf hw hc hout hl8 hzT
        unfold ruV at *
        go_enter Tryz.func3, Tryz.ntmps3
        go_wp2_with fail
        refine (HG.out _).mono ?_
        rintro e w1 ⟨rfl, hb1⟩
        have hb2 : Below w.heap.size w w1 := ((Below.refl _ w).alloc (Nat.le_refl _) _).trans (hb1.mono (by simp))
        have HE1 := Lib.hid (HE.out.below hb1)
        clear hb1
        obtain ⟨x0, x1, x2, x3, x4, x5, x6, x7, x8, x9, x10⟩ := HE1.out
        go_wp2_with fail
        refine (HSr.out _ hb2).mono ?_
        rintro e w2 ⟨rfl, hb3⟩
        have hb4 := bthen hb2 hb3 hb2.size
        have HE2 := Lib.hid (HE1.out.below hb3)
        clear x0 x1 x2 x3 x4 x5 x6 x7 x8 x9 x10 hb3 HE1
        obtain ⟨x0, x1, x2, x3, x4, x5, x6, x7, x8, x9, x10⟩ := HE2.out
        go_wp2_with fail
        refine (HRs.out _).mono ?_
        rintro e wA ⟨Ay, ny, cy, rfl, hry, hny, hy0, hbA⟩
        have hbB := bthen hb4 hbA hb4.size
        have hzB := hbB.size
        have HYE := Lib.hid (ruAt_new wA y Ay ny cy 25)
        have HYR := Lib.hid hry
        obtain ⟨y0, y1, y2, y3, y4, y5, y6, y7, y8, y9, y10⟩ := HYE.out
        go_wp2_with fail
        refine (HSy.out Ay ny cy _ (HYR.out.below ((Below.refl _ wA).alloc (Nat.le_refl _) _)) (fun k => by have := hny k; omega) (hbB.alloc hzB _)).mono ?_
        rintro e wB ⟨rfl, hbS⟩
        have hbC : Below w.heap.size w wB := bthen (hbB.alloc hzB _) hbS (by simp; omega)
        have hbAB : Below wA.heap.size wA wB := ((Below.refl _ wA).alloc (Nat.le_refl _) _).trans (hbS.mono (by simp))
        have HYE2 := Lib.hid (HYE.out.below hbS)
        have HYR2 := Lib.hid (HYR.out.below hbAB)
        have hzC := hbC.size
        clear y0 y1 y2 y3 y4 y5 y6 y7 y8 y9 y10 HYE HYR hbS hbAB hbA hry
        go_wp2_with fail
        refine (HRu.out _).mono ?_
        rintro e wC ⟨rz, Az, nz, cz, az, ez, rfl, hbU⟩
        have hbD := bthen hbC hbU hzC
        have hzD := hbD.size
        have HYE3 := Lib.hid (HYE2.out.below hbU)
        clear hbU HYE2
        obtain ⟨y0, y1, y2, y3, y4, y5, y6, y7, y8, y9, y10⟩ := HYE3.out
        go_wp2_with fail
        refine (HV.out _ (hbD.alloc hzD _)).mono ?_
        rintro e wZ ⟨rfl, hbZ⟩
        go_wp2
        go_ret
        exact ⟨rfl, bthen (hbD.alloc hzD _) hbZ (by simp; omega)⟩
    · have hz8 : ¬ (strB (ruT r)).size ≤ 8192 := by rw [strB_size]; exact hl8
      generalize strB (ruT r) = TX at *
      have hz8' : ¬ ((TX.size : Nat) : Int) ≤ 8192 := by omega
      clear hA hn2 hwf hw hc hout hl8 hzT
      unfold ruV at *
      go_enter Tryz.func3, Tryz.ntmps3
      go_wp2_with fail
      refine (HG.out _).mono ?_
      rintro e w1 ⟨rfl, hb1⟩
      have hb2 : Below w.heap.size w w1 := ((Below.refl _ w).alloc (Nat.le_refl _) _).trans (hb1.mono (by simp))
      have HE1 := Lib.hid (HE.out.below hb1)
      clear hb1
      obtain ⟨x0, x1, x2, x3, x4, x5, x6, x7, x8, x9, x10⟩ := HE1.out
      go_wp2_with fail
      refine (HSr.out _ hb2).mono ?_
      rintro e w2 ⟨rfl, hb3⟩
      have hb4 := bthen hb2 hb3 hb2.size
      have HE2 := Lib.hid (HE1.out.below hb3)
      clear x0 x1 x2 x3 x4 x5 x6 x7 x8 x9 x10 hb3 HE1
      obtain ⟨x0, x1, x2, x3, x4, x5, x6, x7, x8, x9, x10⟩ := HE2.out
      go_wp2_with fail
      refine (HRs.out _).mono ?_
      rintro e wA ⟨Ay, ny, cy, rfl, hry, hny, hy0, hbA⟩
      have hbB := bthen hb4 hbA hb4.size
      have hzB := hbB.size
      have HYE := Lib.hid (ruAt_new wA y Ay ny cy 25)
      have HYR := Lib.hid hry
      obtain ⟨y0, y1, y2, y3, y4, y5, y6, y7, y8, y9, y10⟩ := HYE.out
      go_wp2_with fail
      refine (HSy.out Ay ny cy _ (HYR.out.below ((Below.refl _ wA).alloc (Nat.le_refl _) _)) (fun k => by have := hny k; omega) (hbB.alloc hzB _)).mono ?_
      rintro e wB ⟨rfl, hbS⟩
      have hbC : Below w.heap.size w wB := bthen (hbB.alloc hzB _) hbS (by simp; omega)
      have hbAB : Below wA.heap.size wA wB := ((Below.refl _ wA).alloc (Nat.le_refl _) _).trans (hbS.mono (by simp))
      have HYE2 := Lib.hid (HYE.out.below hbS)
      have HYR2 := Lib.hid (HYR.out.below hbAB)
      have hzC := hbC.size
      clear y0 y1 y2 y3 y4 y5 y6 y7 y8 y9 y10 HYE HYR hbS hbAB hbA hry
      go_wp2_with fail
      refine (HRu.out _).mono ?_
      rintro e wC ⟨rz, Az, nz, cz, az, ez, rfl, hbU⟩
      have hbD := bthen hbC hbU hzC
      have hzD := hbD.size
      have HYE3 := Lib.hid (HYE2.out.below hbU)
      clear hbU HYE2
      obtain ⟨y0, y1, y2, y3, y4, y5, y6, y7, y8, y9, y10⟩ := HYE3.out
      go_wp2_with fail
      refine (HV.out _ (hbD.alloc hzD _)).mono ?_
      rintro e wZ ⟨rfl, hbZ⟩
      go_wp2
      go_ret
      exact ⟨rfl, bthen (hbD.alloc hzD _) hbZ (by simp; omega)⟩
  · have HSr := Lib.hid (fun W (hb : Below w.heap.size w W) => rshow_bad (c := c) (hA.below hb) (fun k => by have := hn2 k; omega) hc)
    generalize chkR r = q at *
    have hc' : (q == 0) = false := by simpa using hc
    clear hA hn2 hwf hw hc hout
    unfold ruV at *
    go_enter Tryz.func3, Tryz.ntmps3
    go_wp2_with fail
    refine (HG.out _).mono ?_
    rintro e w1 ⟨rfl, hb1⟩
    have hb2 : Below w.heap.size w w1 := ((Below.refl _ w).alloc (Nat.le_refl _) _).trans (hb1.mono (by simp))
    have HE1 := Lib.hid (HE.out.below hb1)
    clear hb1
    obtain ⟨x0, x1, x2, x3, x4, x5, x6, x7, x8, x9, x10⟩ := HE1.out
    go_wp2_with fail
    refine (HSr.out _ hb2).mono ?_
    rintro e w2 ⟨rfl, hb3⟩
    have hb4 := bthen hb2 hb3 hb2.size
    have HE2 := Lib.hid (HE1.out.below hb3)
    clear x0 x1 x2 x3 x4 x5 x6 x7 x8 x9 x10 hb3 HE1
    obtain ⟨x0, x1, x2, x3, x4, x5, x6, x7, x8, x9, x10⟩ := HE2.out
    go_wp2_with fail
    refine (HRs.out _).mono ?_
    rintro e wA ⟨Ay, ny, cy, rfl, hry, hny, hy0, hbA⟩
    have hbB := bthen hb4 hbA hb4.size
    have hzB := hbB.size
    have HYE := Lib.hid (ruAt_new wA y Ay ny cy 25)
    have HYR := Lib.hid hry
    obtain ⟨y0, y1, y2, y3, y4, y5, y6, y7, y8, y9, y10⟩ := HYE.out
    go_wp2_with fail
    refine (HSy.out Ay ny cy _ (HYR.out.below ((Below.refl _ wA).alloc (Nat.le_refl _) _)) (fun k => by have := hny k; omega) (hbB.alloc hzB _)).mono ?_
    rintro e wB ⟨rfl, hbS⟩
    have hbC : Below w.heap.size w wB := bthen (hbB.alloc hzB _) hbS (by simp; omega)
    have hbAB : Below wA.heap.size wA wB := ((Below.refl _ wA).alloc (Nat.le_refl _) _).trans (hbS.mono (by simp))
    have HYE2 := Lib.hid (HYE.out.below hbS)
    have HYR2 := Lib.hid (HYR.out.below hbAB)
    have hzC := hbC.size
    clear y0 y1 y2 y3 y4 y5 y6 y7 y8 y9 y10 HYE HYR hbS hbAB hbA hry
    go_wp2_with fail
    refine (HRu.out _).mono ?_
    rintro e wC ⟨rz, Az, nz, cz, az, ez, rfl, hbU⟩
    have hbD := bthen hbC hbU hzC
    have hzD := hbD.size
    have HYE3 := Lib.hid (HYE2.out.below hbU)
    clear hbU HYE2
    obtain ⟨y0, y1, y2, y3, y4, y5, y6, y7, y8, y9, y10⟩ := HYE3.out
    go_wp2_with fail
    refine (HV.out _ (hbD.alloc hzD _)).mono ?_
    rintro e wZ ⟨rfl, hbZ⟩
    go_wp2
    go_ret
    exact ⟨rfl, bthen (hbD.alloc hzD _) hbZ (by simp; omega)⟩
end
end Go.Proofs.YtnelecjjbmjhaaaGreatDoor
