/- The walk of the law RuleshowBack: no rule is read. -/
import Derived.Test.YtnelecjjbmjhaaaGreatDoorLRr
import Derived.Test.YtnelecjjbmjhaaaGreatDoorLRu
import Derived.Test.YtnelecjjbmjhaaaGreatDoorRRuleWf
/- The walk of the law RuleshowBack: words for it. -/
namespace Go.Proofs.YtnelecjjbmjhaaaGreatDoor
open Go.RowKit
set_option linter.unusedSimpArgs false
set_option linter.unusedVariables false

/-- Whatever is read: the shape of what Read hands back. -/
def RetAnyS (w : World) (x : Ending) (w' : World) : Prop := ∃ r A n c a e, x = .returned (.tuple #[ruV r A n c, .int .i64 a, .int .i64 e]) ∧ Below w.heap.size w w'
theorem rread_shapeS (s : ByteArray) (hs : s.size ≤ 1000000) (w : World) : Calls Tryz.prog 10 #[.string s] w (RetAnyS w) := by
  refine (rread_any s hs w).mono ?_
  rintro x w' ⟨hm, hb⟩
  cases h : rread s.data.toList with
  | ok r =>
    rw [h] at hm
    obtain ⟨A, n, c, h1, _⟩ := hm
    exact ⟨r, A, n, c, _, _, h1, hb⟩
  | error p =>
    rw [h] at hm
    exact ⟨_, _, _, _, _, _, hm, hb⟩
theorem rd_same {w w' : World} {r : RuV} {A A' : Nat → Option Addr} {n n' : Nat → Nat} (h : RdRu w A n r) (h' : RdRu w' A' n' r) (h0 : ∀ k, (k < 5 ∨ 10 < k) → n k = 0) (h0' : ∀ k, (k < 5 ∨ 10 < k) → n' k = 0) : n' = n := by
  funext k
  by_cases hk : k < 5 ∨ 10 < k
  · rw [h0 k hk, h0' k hk]
  · obtain rfl | rfl | rfl | rfl | rfl | rfl : k = 5 ∨ k = 6 ∨ k = 7 ∨ k = 8 ∨ k = 9 ∨ k = 10 := by omega
    · exact h'.mo.1.symm.trans h.mo.1
    · exact h'.da.1.symm.trans h.da.1
    · exact h'.wk.1.symm.trans h.wk.1
    · exact h'.ho.1.symm.trans h.ho.1
    · exact h'.mi.1.symm.trans h.mi.1
    · exact h'.se.1.symm.trans h.se.1
theorem num15_of {r : RuV} (hc : chkR r = 0) (h1 : r.iv < 1000000000000000) (h2 : r.ct < 1000000000000000) : Num15 r := by
  have h0 : headE r = 0 := fault_all hc 0 (by decide)
  unfold headE at h0
  by_cases h4 : inC r.st = false ∨ unT r.fr = [] ∨ r.iv < 1 ∨ 1000000000000000 < r.iv ∨ r.ct < 0 ∨ 1000000000000000 < r.ct
  · rw [if_pos h4] at h0; cases h0
  · have a1 : ¬ r.iv < 1 := fun e => h4 (.inr (.inr (.inl e)))
    have a2 : ¬ r.ct < 0 := fun e => h4 (.inr (.inr (.inr (.inr (.inl e)))))
    exact ⟨by omega, h1, by omega, h2⟩
end Go.Proofs.YtnelecjjbmjhaaaGreatDoor

namespace Go.Proofs.YtnelecjjbmjhaaaGreatDoor
open Go.RowKit
set_option linter.unusedSimpArgs false
set_option linter.unusedVariables false

section
variable (r : RuV) (s : ByteArray) (A : Nat → Option Addr) (n c : Nat → Nat) (w : World) (hA : RdRu w A n r) (hn2 : ∀ k, n k ≤ 1000) (hout : ∀ k, (k < 5 ∨ 10 < k) → n k = 0) (hwf : RuWf r) (hw : Pow w) (hg : rgreat n = false) (hbg : ∀ k, n k ≤ 140737488355328) (hs9 : s.size ≤ 9000)
include hA hn2 hout hwf hw hg hbg hs9
set_option maxRecDepth 20000 in
set_option maxHeartbeats 16000000 in
theorem rback_err {a e : Int} (hk : rread s.data.toList = .error (a, e)) : Calls Tryz.prog 3 #[ruV r A n c, .string s] w (Ret (.bool true) w) := by
  have HV := Lib.hid (fun W (hb : Below w.heap.size w W) => lives34_any W (tab_below hw hb))
  have HG := Lib.hid (fun W => rgreat_any r A n c W hbg)
  rw [hg] at HG
  have HE := Lib.hid (ruAt_new w r A n c 25)
  have he' : (e != 0) = true := by simpa using (rread_err hk).1
  have HRs := Lib.hid (fun W => rread_errc (s := s) (by omega) hk W)
  unfold ruNil at HRs
  have hs9' : ¬ (9000 : Int) < (s.size : Int) := by omega
  clear hk hbg hg hs9
  by_cases hc : chkR r = 0
  · have hzT := ruT_len hc
    have HSr := Lib.hid (fun W (hb : Below w.heap.size w W) => rshow_ok (c := c) (hA.below hb) hn2 hwf (tab_below hw hb) hc)
    by_cases hl8 : (ruT r).length ≤ 8192
    · by_cases hiv : r.iv < 1000000000000000
      · by_cases hct : r.ct < 1000000000000000
        · have HRt := Lib.hid (fun W => rread_okc (s := strB (ruT r)) (by rw [strB_size]; omega) (by rw [strB_data]; exact rread_back hc (num15_of hc hiv hct) hl8) W)
          have HRr := Lib.hid hA
          have HOut := Lib.hid hout
          have hz8 : (strB (ruT r)).size ≤ 8192 := by rw [strB_size]; exact hl8
          generalize strB (ruT r) = TX at *
          have hz8' : ((TX.size : Nat) : Int) ≤ 8192 := by omega
          unfold RetOkR at HRt
          clear hA hn2 hwf hw hc hout hl8 hzT
          unfold ruV at *
          go_enter Tryz.func3, Tryz.ntmps3
          go_wp2_with fail
          refine (HG.out _).mono ?_
          rintro e w1 ⟨rfl, hb1⟩
          have hb2 : Below w.heap.size w w1 := ((Below.refl _ w).alloc (Nat.le_refl _) _).trans (hb1.mono (by simp))
          have HE1 := Lib.hid (HE.out.below hb1)
          clear hb1
          obtain ⟨x0, x1, x2, x3, x4, x5, x6, x7, x8, x9, x10⟩ := HE1.out
          go_wp2_with fail
          refine (HSr.out _ hb2).mono ?_
          rintro e w2 ⟨rfl, hb3⟩
          have hb4 := bthen hb2 hb3 hb2.size
          have HE2 := Lib.hid (HE1.out.below hb3)
          clear x0 x1 x2 x3 x4 x5 x6 x7 x8 x9 x10 hb3 HE1
          obtain ⟨x0, x1, x2, x3, x4, x5, x6, x7, x8, x9, x10⟩ := HE2.out
          go_wp2_with fail
          refine (HRt.out _).mono ?_
          rintro e w3 ⟨A3, n3, c3, rfl, hr3, hn3, h03, hb5⟩
          obtain rfl : n3 = n := rd_same HRr.out hr3 HOut.out h03
          have hbA : Below w.heap.size w w3 := bthen hb4 hb5 hb4.size
          have hzA := hbA.size
          have HE3 := Lib.hid (HE2.out.below hb5)
          have HE4 := Lib.hid (HE3.out.below ((Below.refl _ w3).alloc (Nat.le_refl _) (.cells #[.int .i64 r.st, .int .i64 r.fr, .int .i64 r.iv, .int .i64 r.ct, .int .i64 r.un, .slice (A3 5) (n3 5) (c3 5), .slice (A3 6) (n3 6) (c3 6), .slice (A3 7) (n3 7) (c3 7), .slice (A3 8) (n3 8) (c3 8), .slice (A3 9) (n3 9) (c3 9), .slice (A3 10) (n3 10) (c3 10)] 25)))
          have HF4 := Lib.hid (ruAt_new w3 r A3 n3 c3 25)
          have HSm := Lib.hid (fun W (hb : Below w3.heap.size w3 W) => rsame_any r A A3 n3 c c3 W (HRr.out.below (bthen hbA hb hzA)) (hr3.below hb) (fun k => by have := hn3 k; omega))
          unfold ruV at HSm
          clear x0 x1 x2 x3 x4 x5 x6 x7 x8 x9 x10 HE2 HE3 hb5 hr3
          obtain ⟨x0, x1, x2, x3, x4, x5, x6, x7, x8, x9, x10⟩ := HE4.out
          obtain ⟨y0, y1, y2, y3, y4, y5, y6, y7, y8, y9, y10⟩ := HF4.out
          go_wp2_with fail
          refine (HSm.out _ ((Below.refl _ w3).alloc (Nat.le_refl _) _)).mono ?_
          rintro e w4 ⟨rfl, hb6⟩
          have hb7 : Below w.heap.size w w4 := bthen (hbA.alloc hzA _) hb6 (by simp; omega)
          clear x0 x1 x2 x3 x4 x5 x6 x7 x8 x9 x10 y0 y1 y2 y3 y4 y5 y6 y7 y8 y9 y10 HE4 HF4 HSm hb6
          go_wp2_with fail
          refine (HRs.out _).mono ?_
          rintro e wA ⟨rfl, hbA⟩
          have hbB := bthen hb7 hbA hb7.size
          have hzB := hbB.size
          go_wp2_with fail
          refine (HV.out _ (hbB.alloc hzB _)).mono ?_
          rintro e wZ ⟨rfl, hbZ⟩
          go_wp2
          go_ret
          exact ⟨rfl, bthen (hbB.alloc hzB _) hbZ (by simp; omega)⟩
        · have hct' : ¬ r.ct < 1000000000000000 := hct
          have hz8 : (strB (ruT r)).size ≤ 8192 := by rw [strB_size]; exact hl8
          generalize strB (ruT r) = TX at *
          have hz8' : ((TX.size : Nat) : Int) ≤ 8192 := by omega
          clear hA hn2 hwf hw hc hout hl8 hzT
          unfold ruV at *
          go_enter Tryz.func3, Tryz.ntmps3
          go_wp2_with fail
          refine (HG.out _).mono ?_
          rintro e w1 ⟨rfl, hb1⟩
          have hb2 : Below w.heap.size w w1 := ((Below.refl _ w).alloc (Nat.le_refl _) _).trans (hb1.mono (by simp))
          have HE1 := Lib.hid (HE.out.below hb1)
          clear hb1
          obtain ⟨x0, x1, x2, x3, x4, x5, x6, x7, x8, x9, x10⟩ := HE1.out
          go_wp2_with fail
          refine (HSr.out _ hb2).mono ?_
          rintro e w2 ⟨rfl, hb3⟩
          have hb4 := bthen hb2 hb3 hb2.size
          have HE2 := Lib.hid (HE1.out.below hb3)
          clear x0 x1 x2 x3 x4 x5 x6 x7 x8 x9 x10 hb3 HE1
          obtain ⟨x0, x1, x2, x3, x4, x5, x6, x7, x8, x9, x10⟩ := HE2.out
          go_wp2_with fail
          refine (HRs.out _).mono ?_
          rintro e wA ⟨rfl, hbA⟩
          have hbB := bthen hb4 hbA hb4.size
          have hzB := hbB.size
          go_wp2_with fail
          refine (HV.out _ (hbB.alloc hzB _)).mono ?_
          rintro e wZ ⟨rfl, hbZ⟩
          go_wp2
          go_ret
          exact ⟨rfl, bthen (hbB.alloc hzB _) hbZ (by simp; omega)⟩
      · have hiv' : ¬ r.iv < 1000000000000000 := hiv
        have hz8 : (strB (ruT r)).size ≤ 8192 := by rw [strB_size]; exact hl8
        generalize strB (ruT r) = TX at *
        have hz8' : ((TX.size : Nat) : Int) ≤ 8192 := by omega
        clear hA hn2 hwf hw hc hout hl8 hzT
        unfold ruV at *
        go_enter Tryz.func3, Tryz.ntmps3
        go_wp2_with fail
        refine (HG.out _).mono ?_
        rintro e w1 ⟨rfl, hb1⟩
        have hb2 : Below w.heap.size w w1 := ((Below.refl _ w).alloc (Nat.le_refl _) _).trans (hb1.mono (by simp))
        have HE1 := Lib.hid (HE.out.below hb1)
        clear hb1
        obtain ⟨x0, x1, x2, x3, x4, x5, x6, x7, x8, x9, x10⟩ := HE1.out
        go_wp2_with fail
        refine (HSr.out _ hb2).mono ?_
        rintro e w2 ⟨rfl, hb3⟩
        have hb4 := bthen hb2 hb3 hb2.size
        have HE2 := Lib.hid (HE1.out.below hb3)
        clear x0 x1 x2 x3 x4 x5 x6 x7 x8 x9 x10 hb3 HE1
        obtain ⟨x0, x1, x2, x3, x4, x5, x6, x7, x8, x9, x10⟩ := HE2.out
        go_wp2_with fail
        refine (HRs.out _).mono ?_
        rintro e wA ⟨rfl, hbA⟩
        have hbB := bthen hb4 hbA hb4.size
        have hzB := hbB.size
        go_wp2_with fail
        refine (HV.out _ (hbB.alloc hzB _)).mono ?_
        rintro e wZ ⟨rfl, hbZ⟩
        go_wp2
        go_ret
        exact ⟨rfl, bthen (hbB.alloc hzB _) hbZ (by simp; omega)⟩
    · have hz8 : ¬ (strB (ruT r)).size ≤ 8192 := by rw [strB_size]; exact hl8
      generalize strB (ruT r) = TX at *
      have hz8' : ¬ ((TX.size : Nat) : Int) ≤ 8192 := by omega
      clear hA hn2 hwf hw hc hout hl8 hzT
      unfold ruV at *
      go_enter Tryz.func3, Tryz.ntmps3
      go_wp2_with fail
      refine (HG.out _).mono ?_
      rintro e w1 ⟨rfl, hb1⟩
      have hb2 : Below w.heap.size w w1 := ((Below.refl _ w).alloc (Nat.le_refl _) _).trans (hb1.mono (by simp))
      have HE1 := Lib.hid (HE.out.below hb1)
      clear hb1
      obtain ⟨x0, x1, x2, x3, x4, x5, x6, x7, x8, x9, x10⟩ := HE1.out
      go_wp2_with fail
      refine (HSr.out _ hb2).mono ?_
      rintro e w2 ⟨rfl, hb3⟩
      have hb4 := bthen hb2 hb3 hb2.size
      have HE2 := Lib.hid (HE1.out.below hb3)
      clear x0 x1 x2 x3 x4 x5 x6 x7 x8 x9 x10 hb3 HE1
      obtain ⟨x0, x1, x2, x3, x4, x5, x6, x7, x8, x9, x10⟩ := HE2.out
      go_wp2_with fail
      refine (HRs.out _).mono ?_
      rintro e wA ⟨rfl, hbA⟩
      have hbB := bthen hb4 hbA hb4.size
      have hzB := hbB.size
      go_wp2_with fail
      refine (HV.out _ (hbB.alloc hzB _)).mono ?_
      rintro e wZ ⟨rfl, hbZ⟩
      go_wp2
      go_ret
      exact ⟨rfl, bthen (hbB.alloc hzB _) hbZ (by simp; omega)⟩
  · have HSr := Lib.hid (fun W (hb : Below w.heap.size w W) => rshow_bad (c := c) (hA.below hb) (fun k => by have := hn2 k; omega) hc)
    generalize chkR r = q at *
    have hc' : (q == 0) = false := by simpa using hc
    clear hA hn2 hwf hw hc hout
    unfold ruV at *
    go_enter Tryz.func3, Tryz.ntmps3
    go_wp2_with fail
    refine (HG.out _).mono ?_
    rintro e w1 ⟨rfl, hb1⟩
    have hb2 : Below w.heap.size w w1 := ((Below.refl _ w).alloc (Nat.le_refl _) _).trans (hb1.mono (by simp))
    have HE1 := Lib.hid (HE.out.below hb1)
    clear hb1
    obtain ⟨x0, x1, x2, x3, x4, x5, x6, x7, x8, x9, x10⟩ := HE1.out
    go_wp2_with fail
    refine (HSr.out _ hb2).mono ?_
    rintro e w2 ⟨rfl, hb3⟩
    have hb4 := bthen hb2 hb3 hb2.size
    have HE2 := Lib.hid (HE1.out.below hb3)
    clear x0 x1 x2 x3 x4 x5 x6 x7 x8 x9 x10 hb3 HE1
    obtain ⟨x0, x1, x2, x3, x4, x5, x6, x7, x8, x9, x10⟩ := HE2.out
    go_wp2_with fail
    refine (HRs.out _).mono ?_
    rintro e wA ⟨rfl, hbA⟩
    have hbB := bthen hb4 hbA hb4.size
    have hzB := hbB.size
    go_wp2_with fail
    refine (HV.out _ (hbB.alloc hzB _)).mono ?_
    rintro e wZ ⟨rfl, hbZ⟩
    go_wp2
    go_ret
    exact ⟨rfl, bthen (hbB.alloc hzB _) hbZ (by simp; omega)⟩
end
end Go.Proofs.YtnelecjjbmjhaaaGreatDoor
