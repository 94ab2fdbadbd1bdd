/- The walk of the law CalshowShows. -/
import Derived.Test.YtnelecjjbmjhaaaGreatDoorLCs
import Derived.Test.YtnelecjjbmjhaaaGreatDoorWCsG
import Derived.Test.YtnelecjjbmjhaaaGreatDoorWCsH
namespace Go.Proofs.YtnelecjjbmjhaaaGreatDoor
open Go.RowKit
set_option linter.unusedSimpArgs false
set_option linter.unusedVariables false

theorem kchk_cases (c : CalV) : kchk c = (7, 0) ∨ (kchk c).2 ≠ 0 := by
  by_cases h : ∀ f : Nat, f < 7 → kfault f (kget c f) = 0
  · exact .inl (kchk_all h)
  · right
    obtain ⟨k, hk, hf, hl⟩ : ∃ k : Nat, k < 7 ∧ kfault k (kget c k) ≠ 0 ∧ ∀ j : Nat, j < k → kfault j (kget c j) = 0 := by
      false_or_by_contra
      rename_i hno
      apply h
      intro f hf
      induction f using Nat.strongRecOn with
      | _ f ih =>
        false_or_by_contra
        rename_i h1
        exact hno ⟨f, hf, h1, fun j hj => ih j hj (by omega)⟩
    rw [kchk_at hk hl hf]
    exact hf
set_option maxRecDepth 20000 in
set_option maxHeartbeats 4000000 in
theorem calshowShows_any (c : CalV) (A : Nat → Option Addr) (n m : Nat → Nat) (w : World) (hA : RdEv w A n c) (hn : ∀ j, j < 8 → j ≠ 4 → n j ≤ 9223372036854775807) (hwf : ∀ j, j < 7 → ∀ it ∈ kget c j, it.wf) (hw : Pow w) (hm : MaxAt w) :
    Calls Tryz.prog 5 #[evV A n m c.back] w (Ret (.bool true) w) := by
  have HV := Lib.hid (fun W (hb : Below w.heap.size w W) => lives30_any W (tab_below hw hb) (hm.below hb))
  have HG := Lib.hid (fun W => kgreat_any A n m c.back W)
  have HEv := Lib.hid (evAt_new w A n m c.back 40)
  cases hg : kgreat n with
  | true =>
    rw [hg] at HG
    generalize c.back = bk at *
    clear hA hn hwf hw hm hg
    unfold evV at *
    go_enter Tryz.func5, Tryz.ntmps5
    go_wp2_with fail
    refine (HG.out _).mono ?_
    rintro e w1 ⟨rfl, hb1⟩
    have hb2 : Below w.heap.size w w1 := ((Below.refl _ w).alloc (Nat.le_refl _) _).trans (hb1.mono (by simp))
    go_wp2_with fail
    refine (HV.out _ hb2).mono ?_
    rintro e w2 ⟨rfl, hb3⟩
    go_wp2
    go_ret
    exact ⟨rfl, bthen hb2 hb3 hb2.size⟩
  | false =>
    rw [hg] at HG
    have hn2 : ∀ j, j < 8 → j ≠ 4 → n j ≤ 1000 := fun j h1 h2 => Nat.le_trans (kgreat_le hg j h1 h2) (by decide)
    have HK := Lib.hid (fun W (hb : Below w.heap.size w W) => rcheck28_any A n m c c.back W (hA.below hb) (fun k hk => hn _ (kslot_ok hk).1 (kslot_ok hk).2))
    rcases kchk_cases c with hc | hc
    · have HS := Lib.hid (fun W (hb : Below w.heap.size w W) => cshow30_ok c A n m W (hA.below hb) hn2 hwf (tab_below hw hb) hc)
      have HR := Lib.hid (fun W (hb : Below w.heap.size w W) => rshow30_ok c A n m W (hA.below hb) hn2 hwf)
      rw [hc] at HK
      generalize c.back = bk at *
      generalize strB (evT c) = T at *
      clear hA hn hwf hw hm hg hn2 hc
      unfold evV at *
      go_enter Tryz.func5, Tryz.ntmps5
      go_wp2_with fail
      refine (HG.out _).mono ?_
      rintro e w1 ⟨rfl, hb1⟩
      have hb2 : Below w.heap.size w w1 := ((Below.refl _ w).alloc (Nat.le_refl _) _).trans (hb1.mono (by simp))
      have HE1 := Lib.hid (HEv.out.below hb1)
      clear HEv hb1
      obtain ⟨x0, x1, x2, x3, x4, x5, x6, x7⟩ := HE1.out
      go_wp2_with fail
      refine (HS.out _ hb2).mono ?_
      rintro e w2 ⟨rfl, hb3⟩
      have hb4 := bthen hb2 hb3 hb2.size
      have HE2 := Lib.hid (HE1.out.below hb3)
      clear x0 x1 x2 x3 x4 x5 x6 x7 hb3 HE1
      obtain ⟨x0, x1, x2, x3, x4, x5, x6, x7⟩ := HE2.out
      go_wp2_with fail
      refine (HK.out _ hb4).mono ?_
      rintro e w3 ⟨rfl, hb5⟩
      have hb6 := bthen hb4 hb5 hb4.size
      have HE3 := Lib.hid (HE2.out.below hb5)
      clear x0 x1 x2 x3 x4 x5 x6 x7 hb5 HE2
      obtain ⟨x0, x1, x2, x3, x4, x5, x6, x7⟩ := HE3.out
      go_wp2_with fail
      refine (HR.out _ hb6).mono ?_
      rintro e w4 ⟨rfl, hb7⟩
      have hb8 := bthen hb6 hb7 hb6.size
      clear x0 x1 x2 x3 x4 x5 x6 x7
      go_wp2_with fail
      refine (HV.out _ hb8).mono ?_
      rintro e w5 ⟨rfl, hb9⟩
      go_wp2
      go_ret
      exact ⟨rfl, bthen hb8 hb9 hb8.size⟩
    · have HS := Lib.hid (fun W (hb : Below w.heap.size w W) => cshow30_bad c A n m c.back W (hA.below hb) hn hc)
      generalize (kchk c).1 = q1 at *
      generalize (kchk c).2 = q2 at *
      have hc' : (q2 != 0) = true := by simpa using hc
      generalize c.back = bk at *
      clear hA hn hwf hw hm hg hn2 hc
      unfold evV at *
      go_enter Tryz.func5, Tryz.ntmps5
      go_wp2_with fail
      refine (HG.out _).mono ?_
      rintro e w1 ⟨rfl, hb1⟩
      have hb2 : Below w.heap.size w w1 := ((Below.refl _ w).alloc (Nat.le_refl _) _).trans (hb1.mono (by simp))
      have HE1 := Lib.hid (HEv.out.below hb1)
      clear HEv hb1
      obtain ⟨x0, x1, x2, x3, x4, x5, x6, x7⟩ := HE1.out
      go_wp2_with fail
      refine (HS.out _ hb2).mono ?_
      rintro e w2 ⟨rfl, hb3⟩
      have hb4 := bthen hb2 hb3 hb2.size
      have HE2 := Lib.hid (HE1.out.below hb3)
      clear x0 x1 x2 x3 x4 x5 x6 x7 hb3 HE1
      obtain ⟨x0, x1, x2, x3, x4, x5, x6, x7⟩ := HE2.out
      go_wp2_with fail
      refine (HK.out _ hb4).mono ?_
      rintro e w3 ⟨rfl, hb5⟩
      have hb6 := bthen hb4 hb5 hb4.size
      have HE3 := Lib.hid (HE2.out.below hb5)
      clear x0 x1 x2 x3 x4 x5 x6 x7 hb5 HE2
      obtain ⟨x0, x1, x2, x3, x4, x5, x6, x7⟩ := HE3.out
      go_wp2_with fail
      refine (HV.out _ hb6).mono ?_
      rintro e w5 ⟨rfl, hb9⟩
      go_wp2
      go_ret
      exact ⟨rfl, bthen hb6 hb9 hb6.size⟩
end Go.Proofs.YtnelecjjbmjhaaaGreatDoor
