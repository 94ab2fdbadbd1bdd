/- The walk of the law CalshowBack. -/
import Derived.Test.YtnelecjjbmjhaaaGreatDoorLCs2
namespace Go.Proofs.YtnelecjjbmjhaaaGreatDoor
open Go.RowKit
set_option linter.unusedSimpArgs false
set_option linter.unusedVariables false

theorem calL_get (c : CalV) (j : Nat) (hj : j < 8) (h4 : j ≠ 4) : ∃ k, k < 7 ∧ calL c j = kget c k ∧ kslot k = j := by
  obtain rfl | rfl | rfl | rfl | rfl | rfl | rfl : j = 0 ∨ j = 1 ∨ j = 2 ∨ j = 3 ∨ j = 5 ∨ j = 6 ∨ j = 7 := by omega
  · exact ⟨0, by decide, rfl, rfl⟩
  · exact ⟨1, by decide, rfl, rfl⟩
  · exact ⟨2, by decide, rfl, rfl⟩
  · exact ⟨3, by decide, rfl, rfl⟩
  · exact ⟨4, by decide, rfl, rfl⟩
  · exact ⟨5, by decide, rfl, rfl⟩
  · exact ⟨6, by decide, rfl, rfl⟩
/-- What Read hands back of an event's text. -/
def RetEv2 (c : CalV) (z : Int) (w : World) (e : Ending) (w' : World) : Prop :=
  Below w.heap.size w w' ∧ ∃ A n m, e = .returned (.tuple #[evV A n m c.back, .int .i64 z, .int .i64 0]) ∧ RdEv w' A n c ∧ ∀ j, j < 8 → j ≠ 4 → n j ≤ 400
theorem read30_back (c : CalV) (hc : kchk c = (7, 0)) (hl : (strB (evT c)).size ≤ 8192) (w : World) (hm : MaxAt w) : Calls Tryz.prog 21 #[.string (strB (evT c))] w (RetEv2 c ((strB (evT c)).size : Int) w) := by
  have h := calread_ev (strB (evT c)) (by omega) w hm
  unfold RetEv at h
  rw [strB_data, kread_back hc (by rw [← strB_size]; exact hl)] at h
  unfold kcal kplace kerr at h
  dsimp only at h
  exact h
/-- What Read hands back of any text: an event that may be, or an error. -/
def RetEv3 (c : CalV) (z x : Int) (w : World) (e : Ending) (w' : World) : Prop :=
  Below w.heap.size w w' ∧ ∃ A n m, e = .returned (.tuple #[evV A n m c.back, .int .i64 z, .int .i64 x]) ∧ RdEv w' A n c ∧ ∀ j, j < 8 → j ≠ 4 → n j ≤ 400
theorem evT_len {c : CalV} (hl : ∀ k, k < 7 → (kget c k).length ≤ 1000) (hwf : ∀ k, k < 7 → ∀ it ∈ kget c k, it.wf) : (evT c).length ≤ 707007 := by
  rw [← evPre_all]
  exact evPre_len hl hwf 6 (Nat.le_refl _)
set_option maxRecDepth 20000 in
set_option maxHeartbeats 8000000 in
theorem calshowBack_any (c : CalV) (A : Nat → Option Addr) (n m : Nat → Nat) (s : ByteArray) (w : World) (hA : RdEv w A n c) (hn : ∀ j, j < 8 → j ≠ 4 → n j ≤ 9223372036854775807) (hwf : ∀ j, j < 7 → ∀ it ∈ kget c j, it.wf) (hw : Pow w) (hm : MaxAt w) (hs : s.size ≤ 9223372036854775807) :
    Calls Tryz.prog 6 #[evV A n m c.back, .string s] w (Ret (.bool true) w) := by
  have HP := Lib.hid (fun W (hb : Below w.heap.size w W) => tab_below hw hb)
  have HM := Lib.hid (fun W (hb : Below w.heap.size w W) => hm.below hb)
  have HV := Lib.hid (fun W (hb : Below w.heap.size w W) => lives30_any W (tab_below hw hb) (hm.below hb))
  have HG := Lib.hid (fun W => kgreat_any A n m c.back W)
  have HEv := Lib.hid (evAt_new w A n m c.back 40)
  cases hg : kgreat n with
  | true =>
    rw [hg] at HG
    generalize c.back = bk at *
    clear hA hn hwf hw hm hg HP HM
    unfold evV at *
    go_enter Tryz.func6, Tryz.ntmps6
    go_wp2_with fail
    refine (HG.out _).mono ?_
    rintro e w1 ⟨rfl, hb1⟩
    have hb2 : Below w.heap.size w w1 := ((Below.refl _ w).alloc (Nat.le_refl _) _).trans (hb1.mono (by simp))
    go_wp2_with fail
    refine (HV.out _ hb2).mono ?_
    rintro e w2 ⟨rfl, hb3⟩
    go_wp2
    go_ret
    exact ⟨rfl, bthen hb2 hb3 hb2.size⟩
  | false =>
    rw [hg] at HG
    have hn2 : ∀ j, j < 8 → j ≠ 4 → n j ≤ 1000 := fun j h1 h2 => Nat.le_trans (kgreat_le hg j h1 h2) (by decide)
    by_cases hbig : 9000 < s.size
    · have hbig' : (9000 : Int) < (s.size : Int) := by omega
      generalize c.back = bk at *
      clear hA hn hwf hw hm hg HP HM hn2 hbig
      unfold evV at *
      go_enter Tryz.func6, Tryz.ntmps6
      go_wp2_with fail
      refine (HG.out _).mono ?_
      rintro e w1 ⟨rfl, hb1⟩
      have hb2 : Below w.heap.size w w1 := ((Below.refl _ w).alloc (Nat.le_refl _) _).trans (hb1.mono (by simp))
      go_wp2_with fail
      refine (HV.out _ hb2).mono ?_
      rintro e w2 ⟨rfl, hb3⟩
      go_wp2
      go_ret
      exact ⟨rfl, bthen hb2 hb3 hb2.size⟩
    have hbig' : ¬ (9000 : Int) < (s.size : Int) := by omega
    have hsz6 : s.size ≤ 1000000 := by omega
    rcases kchk_cases c with hc | hc
    · have HS := Lib.hid (fun W (hb : Below w.heap.size w W) => cshow30_ok c A n m W (hA.below hb) hn2 hwf (tab_below hw hb) hc)
      have hLT : (strB (evT c)).size ≤ 707007 := by rw [strB_size]; exact evT_len (fun k hk => kget_len c hA hn2 hk) hwf
      by_cases ht : (strB (evT c)).size ≤ 8192
      · have ht' : ((strB (evT c)).size : Int) ≤ 8192 := by omega
        have HB0 := Lib.hid (fun W (hb : Below w.heap.size w W) => read30_back c hc ht W (hm.below hb))
        have HSm := Lib.hid (fun W A2 n2 m2 (hb : Below w.heap.size w W) (hr : RdEv W A2 n2 c) (hk : ∀ j, j < 8 → j ≠ 4 → n2 j ≤ 400) => ksame_any A A2 n m n2 m2 c c W (hA.below hb) hr (fun k hk' => hn _ (kslot_ok hk').1 (kslot_ok hk').2) (fun k hk' => Nat.le_trans (hk _ (kslot_ok hk').1 (kslot_ok hk').2) (by decide)))
        rw [sameK_self] at HSm
        unfold RetEv2 at HB0
        generalize c.back = bk at *
        generalize strB (evT c) = T at *
        clear hA hn hwf hw hm hg hn2 hc ht hbig
        unfold evV at *
        go_enter Tryz.func6, Tryz.ntmps6
        go_wp2_with fail
        refine (HG.out _).mono ?_
        rintro e w1 ⟨rfl, hb1⟩
        have hb2 : Below w.heap.size w w1 := ((Below.refl _ w).alloc (Nat.le_refl _) _).trans (hb1.mono (by simp))
        have HE1 := Lib.hid (HEv.out.below hb1)
        clear HEv hb1 HG
        obtain ⟨x0, x1, x2, x3, x4, x5, x6, x7⟩ := HE1.out
        go_wp2_with fail
        refine (HS.out _ hb2).mono ?_
        rintro e w2 ⟨rfl, hb3⟩
        have hb4 := bthen hb2 hb3 hb2.size
        have HE2 := Lib.hid (HE1.out.below hb3)
        clear x0 x1 x2 x3 x4 x5 x6 x7 hb3 HE1
        obtain ⟨x0, x1, x2, x3, x4, x5, x6, x7⟩ := HE2.out
        go_wp2_with fail
        refine (HB0.out _ hb4).mono ?_
        rintro e w3 ⟨hb5, A2, n2, m2, rfl, hr2, hk2⟩
        have hb6 := bthen hb4 hb5 hb4.size
        have HE3 := Lib.hid (HE2.out.below hb5)
        have HSx := Lib.hid (fun W (hb : Below w3.heap.size w3 W) => HSm.out W A2 n2 m2 (bthen hb6 hb hb6.size) (hr2.below hb) hk2)
        clear x0 x1 x2 x3 x4 x5 x6 x7 hb5 HE2 hr2 hk2 HSm HS HB0
        have hz3 := hb6.size
        have hz03 : w.heap.size < w3.heap.size := World.block_lt_of_cell? _ _ HE3.out.h0
        obtain ⟨x0, x1, x2, x3, x4, x5, x6, x7⟩ := HE3.out
        go_wp2_with fail
        refine (HSx.out _ ((Below.refl _ w3).alloc (Nat.le_refl _) _)).mono ?_
        rintro e wT ⟨rfl, hb7⟩
        have hbT : Below w.heap.size w wT := (hb6.alloc hz3 _).trans (hb7.mono (by simp; omega))
        clear x0 x1 x2 x3 x4 x5 x6 x7 hb7 HE3 HSx
        have hzT := hbT.size
        have HR := Lib.hid (calread_ev s hsz6 wT (HM.out _ hbT))
        unfold RetEv at HR
        cases hk : kread s.data.toList with
        | error p =>
          obtain ⟨a, er⟩ := p
          obtain ⟨he, _, _⟩ := kread_err hk
          have he' : (er != 0) = true := by simpa using he
          rw [hk] at HR
          unfold kcal kplace kerr at HR
          dsimp only at HR
          unfold evV at HR
          clear hk he
          go_wp2_with fail
          refine HR.out.mono ?_
          rintro e v1 ⟨hv1, A3, n3, m3, rfl, _, _⟩
          have hbv : Below w.heap.size w v1 := bthen hbT hv1 hzT
          have hzv := hbv.size
          go_wp2_with fail
          refine (HV.out _ (hbv.alloc hzv _)).mono ?_
          rintro e v2 ⟨rfl, hv2⟩
          go_wp2
          go_ret
          exact ⟨rfl, bthen (hbv.alloc hzv _) hv2 (by simp; omega)⟩
        | ok d =>
          have hd := kread_ok hk
          rw [hk] at HR
          unfold kcal kplace kerr at HR
          dsimp only at HR
          clear hk
          have HSd := Lib.hid (fun W A3 n3 m3 (hb : Below w.heap.size w W) (hr : RdEv W A3 n3 d) (hq : ∀ j, j < 8 → j ≠ 4 → n3 j ≤ 400) => cshow30_ok d A3 n3 m3 W hr (fun j h1 h2 => Nat.le_trans (hq j h1 h2) (by decide)) (kchk_wf hd) (HP.out _ hb) hd)
          by_cases hu : (strB (evT d)).size ≤ 8192
          · have hu' : ¬ (8192 : Int) < ((strB (evT d)).size : Int) := by omega
            have HBd := Lib.hid (fun W (hb : Below w.heap.size w W) => read30_back d hd hu W (HM.out _ hb))
            unfold RetEv2 at HBd
            have HSm2 := Lib.hid (fun W A3 n3 m3 A4 n4 m4 (hr : RdEv W A3 n3 d) (hr4 : RdEv W A4 n4 d) (hq : ∀ j, j < 8 → j ≠ 4 → n3 j ≤ 400) (hq4 : ∀ j, j < 8 → j ≠ 4 → n4 j ≤ 400) => ksame_any A3 A4 n3 m3 n4 m4 d d W hr hr4 (fun k hk' => Nat.le_trans (hq _ (kslot_ok hk').1 (kslot_ok hk').2) (by decide)) (fun k hk' => Nat.le_trans (hq4 _ (kslot_ok hk').1 (kslot_ok hk').2) (by decide)))
            rw [sameK_self] at HSm2
            generalize d.back = bd at *
            generalize strB (evT d) = U at *
            clear hd hu
            unfold evV at HR HSd HBd HSm2
            go_wp2_with fail
            refine HR.out.mono ?_
            rintro e v1 ⟨hv1, A3, n3, m3, rfl, hr3, hq3⟩
            have hbv : Below w.heap.size w v1 := bthen hbT hv1 hzT
            have hzv := hbv.size
            have HE4 := Lib.hid (evAt_new v1 A3 n3 m3 bd 40)
            have HSe := Lib.hid (fun W (hb : Below v1.heap.size v1 W) => HSd.out W A3 n3 m3 (bthen hbv hb hzv) (hr3.below hb) hq3)
            have HR3 := Lib.hid (fun W (hb : Below v1.heap.size v1 W) => hr3.below hb)
            have HQ3 := Lib.hid hq3
            clear HSd hr3 hq3 HR hv1
            have hz1 : v1.heap.size < (v1.alloc (.cells #[.slice (A3 0) (n3 0) (m3 0), .slice (A3 1) (n3 1) (m3 1), .slice (A3 2) (n3 2) (m3 2), .slice (A3 3) (n3 3) (m3 3), .bool bd, .slice (A3 5) (n3 5) (m3 5), .slice (A3 6) (n3 6) (m3 6), .slice (A3 7) (n3 7) (m3 7)] 40)).heap.size := by simp
            go_wp2_with fail
            have hbA := (Below.refl _ v1).alloc (Nat.le_refl _) (.cells #[.slice (A3 0) (n3 0) (m3 0), .slice (A3 1) (n3 1) (m3 1), .slice (A3 2) (n3 2) (m3 2), .slice (A3 3) (n3 3) (m3 3), .bool bd, .slice (A3 5) (n3 5) (m3 5), .slice (A3 6) (n3 6) (m3 6), .slice (A3 7) (n3 7) (m3 7)] 40)
            refine (HSe.out _ hbA).mono ?_
            rintro e v2 ⟨rfl, hv2⟩
            have HE5 := Lib.hid (HE4.out.below hv2)
            have hb12 : Below v1.heap.size v1 v2 := hbA.trans (hv2.mono (Nat.le_of_lt hz1))
            clear hv2 hbA HE4 HSe
            obtain ⟨y0, y1, y2, y3, y4, y5, y6, y7⟩ := HE5.out
            have hbv2 := bthen hbv hb12 hzv
            go_wp2_with fail
            refine (HBd.out _ hbv2).mono ?_
            rintro e v3 ⟨hv3, A4, n4, m4, rfl, hr4, hq4⟩
            have HE6 := Lib.hid (HE5.out.below hv3)
            have hb13 : Below v1.heap.size v1 v3 := bthen hb12 hv3 hb12.size
            have hbv3 := bthen hbv hb13 hzv
            have hzv3 := hb13.size
            have hzw3 := hbv3.size
            clear y0 y1 y2 y3 y4 y5 y6 y7 hv3 HE5
            obtain ⟨y0, y1, y2, y3, y4, y5, y6, y7⟩ := HE6.out
            have hz13 : v1.heap.size < v3.heap.size := World.block_lt_of_cell? _ _ HE6.out.h0
            have HSx2 := Lib.hid (fun W (hb : Below v3.heap.size v3 W) => HSm2.out W A3 n3 m3 A4 n4 m4 (HR3.out W (bthen hb13 hb hzv3)) (hr4.below hb) HQ3.out hq4)
            clear hr4 hq4 HSm2 HR3 HQ3 HBd
            go_wp2_with fail
            refine (HSx2.out _ ((Below.refl _ v3).alloc (Nat.le_refl _) _)).mono ?_
            rintro e v4 ⟨rfl, hv4⟩
            have hbv4 : Below w.heap.size w v4 := (hbv3.alloc hzw3 _).trans (hv4.mono (by simp; omega))
            clear y0 y1 y2 y3 y4 y5 y6 y7 hv4 HE6 HSx2
            go_wp2_with fail
            refine (HV.out _ hbv4).mono ?_
            rintro e v5 ⟨rfl, hv5⟩
            go_wp2
            go_ret
            exact ⟨rfl, bthen hbv4 hv5 hbv4.size⟩
          · have hu' : (8192 : Int) < ((strB (evT d)).size : Int) := by omega
            have hUL : (strB (evT d)).size ≤ 707007 := by
              rw [strB_size]
              refine evT_len (fun k hk => ?_) (kchk_wf hd)
              have := kfault_len (kchk_parts hd k hk)
              have h2 : kMost (k : Int) ≤ 400 := by unfold kMost; split <;> decide
              omega
            have HRd := Lib.hid (fun W (hb : Below w.heap.size w W) => calread_ev (strB (evT d)) (by omega) W (HM.out _ hb))
            unfold RetEv at HRd
            generalize strB (evT d) = U at *
            generalize d.back = bd at *
            generalize kread U.data.toList = KU at *
            clear hd hu
            unfold evV at HR HSd HRd
            go_wp2_with fail
            refine HR.out.mono ?_
            rintro e v1 ⟨hv1, A3, n3, m3, rfl, hr3, hq3⟩
            have hbv : Below w.heap.size w v1 := bthen hbT hv1 hzT
            have hzv := hbv.size
            have HSe := Lib.hid (fun W (hb : Below v1.heap.size v1 W) => HSd.out W A3 n3 m3 (bthen hbv hb hzv) (hr3.below hb) hq3)
            clear HSd hr3 hq3 HR hv1
            go_wp2_with fail
            refine (HSe.out _ ((Below.refl _ v1).alloc (Nat.le_refl _) _)).mono ?_
            rintro e v2 ⟨rfl, hv2⟩
            have hbv2 : Below w.heap.size w v2 := (hbv.alloc hzv _).trans (hv2.mono (by simp; omega))
            clear hv2 HSe
            go_wp2_with fail
            refine (HRd.out _ hbv2).mono ?_
            rintro e v3 ⟨hv3, A4, n4, m4, rfl, _, _⟩
            have hbv3 := bthen hbv2 hv3 hbv2.size
            have hzv3 := hbv3.size
            clear hv3 HRd
            go_wp2_with fail
            refine (HV.out _ (hbv3.alloc hzv3 _)).mono ?_
            rintro e v5 ⟨rfl, hv5⟩
            go_wp2
            go_ret
            exact ⟨rfl, bthen (hbv3.alloc hzv3 _) hv5 (by simp; omega)⟩
      · have ht' : ¬ ((strB (evT c)).size : Int) ≤ 8192 := by omega
        generalize c.back = bk at *
        generalize strB (evT c) = T at *
        clear hA hn hwf hw hm hg hn2 hc ht hbig
        unfold evV at *
        go_enter Tryz.func6, Tryz.ntmps6
        go_wp2_with fail
        refine (HG.out _).mono ?_
        rintro e w1 ⟨rfl, hb1⟩
        have hb2 : Below w.heap.size w w1 := ((Below.refl _ w).alloc (Nat.le_refl _) _).trans (hb1.mono (by simp))
        have HE1 := Lib.hid (HEv.out.below hb1)
        clear HEv hb1 HG
        obtain ⟨x0, x1, x2, x3, x4, x5, x6, x7⟩ := HE1.out
        go_wp2_with fail
        refine (HS.out _ hb2).mono ?_
        rintro e wT ⟨rfl, hb3⟩
        have hbT := bthen hb2 hb3 hb2.size
        clear x0 x1 x2 x3 x4 x5 x6 x7 hb3 HE1 HS
        have hzT := hbT.size
        have HR := Lib.hid (calread_ev s hsz6 wT (HM.out _ hbT))
        unfold RetEv at HR
        cases hk : kread s.data.toList with
        | error p =>
          obtain ⟨a, er⟩ := p
          obtain ⟨he, _, _⟩ := kread_err hk
          have he' : (er != 0) = true := by simpa using he
          rw [hk] at HR
          unfold kcal kplace kerr at HR
          dsimp only at HR
          unfold evV at HR
          clear hk he
          go_wp2_with fail
          refine HR.out.mono ?_
          rintro e v1 ⟨hv1, A3, n3, m3, rfl, _, _⟩
          have hbv : Below w.heap.size w v1 := bthen hbT hv1 hzT
          have hzv := hbv.size
          go_wp2_with fail
          refine (HV.out _ (hbv.alloc hzv _)).mono ?_
          rintro e v2 ⟨rfl, hv2⟩
          go_wp2
          go_ret
          exact ⟨rfl, bthen (hbv.alloc hzv _) hv2 (by simp; omega)⟩
        | ok d =>
          have hd := kread_ok hk
          rw [hk] at HR
          unfold kcal kplace kerr at HR
          dsimp only at HR
          clear hk
          have HSd := Lib.hid (fun W A3 n3 m3 (hb : Below w.heap.size w W) (hr : RdEv W A3 n3 d) (hq : ∀ j, j < 8 → j ≠ 4 → n3 j ≤ 400) => cshow30_ok d A3 n3 m3 W hr (fun j h1 h2 => Nat.le_trans (hq j h1 h2) (by decide)) (kchk_wf hd) (HP.out _ hb) hd)
          by_cases hu : (strB (evT d)).size ≤ 8192
          · have hu' : ¬ (8192 : Int) < ((strB (evT d)).size : Int) := by omega
            have HBd := Lib.hid (fun W (hb : Below w.heap.size w W) => read30_back d hd hu W (HM.out _ hb))
            unfold RetEv2 at HBd
            have HSm2 := Lib.hid (fun W A3 n3 m3 A4 n4 m4 (hr : RdEv W A3 n3 d) (hr4 : RdEv W A4 n4 d) (hq : ∀ j, j < 8 → j ≠ 4 → n3 j ≤ 400) (hq4 : ∀ j, j < 8 → j ≠ 4 → n4 j ≤ 400) => ksame_any A3 A4 n3 m3 n4 m4 d d W hr hr4 (fun k hk' => Nat.le_trans (hq _ (kslot_ok hk').1 (kslot_ok hk').2) (by decide)) (fun k hk' => Nat.le_trans (hq4 _ (kslot_ok hk').1 (kslot_ok hk').2) (by decide)))
            rw [sameK_self] at HSm2
            generalize d.back = bd at *
            generalize strB (evT d) = U at *
            clear hd hu
            unfold evV at HR HSd HBd HSm2
            go_wp2_with fail
            refine HR.out.mono ?_
            rintro e v1 ⟨hv1, A3, n3, m3, rfl, hr3, hq3⟩
            have hbv : Below w.heap.size w v1 := bthen hbT hv1 hzT
            have hzv := hbv.size
            have HE4 := Lib.hid (evAt_new v1 A3 n3 m3 bd 40)
            have HSe := Lib.hid (fun W (hb : Below v1.heap.size v1 W) => HSd.out W A3 n3 m3 (bthen hbv hb hzv) (hr3.below hb) hq3)
            have HR3 := Lib.hid (fun W (hb : Below v1.heap.size v1 W) => hr3.below hb)
            have HQ3 := Lib.hid hq3
            clear HSd hr3 hq3 HR hv1
            have hz1 : v1.heap.size < (v1.alloc (.cells #[.slice (A3 0) (n3 0) (m3 0), .slice (A3 1) (n3 1) (m3 1), .slice (A3 2) (n3 2) (m3 2), .slice (A3 3) (n3 3) (m3 3), .bool bd, .slice (A3 5) (n3 5) (m3 5), .slice (A3 6) (n3 6) (m3 6), .slice (A3 7) (n3 7) (m3 7)] 40)).heap.size := by simp
            go_wp2_with fail
            have hbA := (Below.refl _ v1).alloc (Nat.le_refl _) (.cells #[.slice (A3 0) (n3 0) (m3 0), .slice (A3 1) (n3 1) (m3 1), .slice (A3 2) (n3 2) (m3 2), .slice (A3 3) (n3 3) (m3 3), .bool bd, .slice (A3 5) (n3 5) (m3 5), .slice (A3 6) (n3 6) (m3 6), .slice (A3 7) (n3 7) (m3 7)] 40)
            refine (HSe.out _ hbA).mono ?_
            rintro e v2 ⟨rfl, hv2⟩
            have HE5 := Lib.hid (HE4.out.below hv2)
            have hb12 : Below v1.heap.size v1 v2 := hbA.trans (hv2.mono (Nat.le_of_lt hz1))
            clear hv2 hbA HE4 HSe
            obtain ⟨y0, y1, y2, y3, y4, y5, y6, y7⟩ := HE5.out
            have hbv2 := bthen hbv hb12 hzv
            go_wp2_with fail
            refine (HBd.out _ hbv2).mono ?_
            rintro e v3 ⟨hv3, A4, n4, m4, rfl, hr4, hq4⟩
            have HE6 := Lib.hid (HE5.out.below hv3)
            have hb13 : Below v1.heap.size v1 v3 := bthen hb12 hv3 hb12.size
            have hbv3 := bthen hbv hb13 hzv
            have hzv3 := hb13.size
            have hzw3 := hbv3.size
            clear y0 y1 y2 y3 y4 y5 y6 y7 hv3 HE5
            obtain ⟨y0, y1, y2, y3, y4, y5, y6, y7⟩ := HE6.out
            have hz13 : v1.heap.size < v3.heap.size := World.block_lt_of_cell? _ _ HE6.out.h0
            have HSx2 := Lib.hid (fun W (hb : Below v3.heap.size v3 W) => HSm2.out W A3 n3 m3 A4 n4 m4 (HR3.out W (bthen hb13 hb hzv3)) (hr4.below hb) HQ3.out hq4)
            clear hr4 hq4 HSm2 HR3 HQ3 HBd
            go_wp2_with fail
            refine (HSx2.out _ ((Below.refl _ v3).alloc (Nat.le_refl _) _)).mono ?_
            rintro e v4 ⟨rfl, hv4⟩
            have hbv4 : Below w.heap.size w v4 := (hbv3.alloc hzw3 _).trans (hv4.mono (by simp; omega))
            clear y0 y1 y2 y3 y4 y5 y6 y7 hv4 HE6 HSx2
            go_wp2_with fail
            refine (HV.out _ hbv4).mono ?_
            rintro e v5 ⟨rfl, hv5⟩
            go_wp2
            go_ret
            exact ⟨rfl, bthen hbv4 hv5 hbv4.size⟩
          · have hu' : (8192 : Int) < ((strB (evT d)).size : Int) := by omega
            have hUL : (strB (evT d)).size ≤ 707007 := by
              rw [strB_size]
              refine evT_len (fun k hk => ?_) (kchk_wf hd)
              have := kfault_len (kchk_parts hd k hk)
              have h2 : kMost (k : Int) ≤ 400 := by unfold kMost; split <;> decide
              omega
            have HRd := Lib.hid (fun W (hb : Below w.heap.size w W) => calread_ev (strB (evT d)) (by omega) W (HM.out _ hb))
            unfold RetEv at HRd
            generalize strB (evT d) = U at *
            generalize d.back = bd at *
            generalize kread U.data.toList = KU at *
            clear hd hu
            unfold evV at HR HSd HRd
            go_wp2_with fail
            refine HR.out.mono ?_
            rintro e v1 ⟨hv1, A3, n3, m3, rfl, hr3, hq3⟩
            have hbv : Below w.heap.size w v1 := bthen hbT hv1 hzT
            have hzv := hbv.size
            have HSe := Lib.hid (fun W (hb : Below v1.heap.size v1 W) => HSd.out W A3 n3 m3 (bthen hbv hb hzv) (hr3.below hb) hq3)
            clear HSd hr3 hq3 HR hv1
            go_wp2_with fail
            refine (HSe.out _ ((Below.refl _ v1).alloc (Nat.le_refl _) _)).mono ?_
            rintro e v2 ⟨rfl, hv2⟩
            have hbv2 : Below w.heap.size w v2 := (hbv.alloc hzv _).trans (hv2.mono (by simp; omega))
            clear hv2 HSe
            go_wp2_with fail
            refine (HRd.out _ hbv2).mono ?_
            rintro e v3 ⟨hv3, A4, n4, m4, rfl, _, _⟩
            have hbv3 := bthen hbv2 hv3 hbv2.size
            have hzv3 := hbv3.size
            clear hv3 HRd
            go_wp2_with fail
            refine (HV.out _ (hbv3.alloc hzv3 _)).mono ?_
            rintro e v5 ⟨rfl, hv5⟩
            go_wp2
            go_ret
            exact ⟨rfl, bthen (hbv3.alloc hzv3 _) hv5 (by simp; omega)⟩
    · have HS := Lib.hid (fun W (hb : Below w.heap.size w W) => cshow30_bad c A n m c.back W (hA.below hb) hn hc)
      generalize (kchk c).1 = q1 at *
      generalize (kchk c).2 = q2 at *
      have hc' : (q2 == 0) = false := by simpa using hc
      generalize c.back = bk at *
      clear hA hn hwf hw hm hg hn2 hc hbig
      unfold evV at *
      go_enter Tryz.func6, Tryz.ntmps6
      go_wp2_with fail
      refine (HG.out _).mono ?_
      rintro e w1 ⟨rfl, hb1⟩
      have hb2 : Below w.heap.size w w1 := ((Below.refl _ w).alloc (Nat.le_refl _) _).trans (hb1.mono (by simp))
      have HE1 := Lib.hid (HEv.out.below hb1)
      clear HEv hb1 HG
      obtain ⟨x0, x1, x2, x3, x4, x5, x6, x7⟩ := HE1.out
      go_wp2_with fail
      refine (HS.out _ hb2).mono ?_
      rintro e wT ⟨rfl, hb3⟩
      have hbT := bthen hb2 hb3 hb2.size
      clear x0 x1 x2 x3 x4 x5 x6 x7 hb3 HE1 HS
      have hzT := hbT.size
      have HR := Lib.hid (calread_ev s hsz6 wT (HM.out _ hbT))
      unfold RetEv at HR
      cases hk : kread s.data.toList with
      | error p =>
        obtain ⟨a, er⟩ := p
        obtain ⟨he, _, _⟩ := kread_err hk
        have he' : (er != 0) = true := by simpa using he
        rw [hk] at HR
        unfold kcal kplace kerr at HR
        dsimp only at HR
        unfold evV at HR
        clear hk he
        go_wp2_with fail
        refine HR.out.mono ?_
        rintro e v1 ⟨hv1, A3, n3, m3, rfl, _, _⟩
        have hbv : Below w.heap.size w v1 := bthen hbT hv1 hzT
        have hzv := hbv.size
        go_wp2_with fail
        refine (HV.out _ (hbv.alloc hzv _)).mono ?_
        rintro e v2 ⟨rfl, hv2⟩
        go_wp2
        go_ret
        exact ⟨rfl, bthen (hbv.alloc hzv _) hv2 (by simp; omega)⟩
      | ok d =>
        have hd := kread_ok hk
        rw [hk] at HR
        unfold kcal kplace kerr at HR
        dsimp only at HR
        clear hk
        have HSd := Lib.hid (fun W A3 n3 m3 (hb : Below w.heap.size w W) (hr : RdEv W A3 n3 d) (hq : ∀ j, j < 8 → j ≠ 4 → n3 j ≤ 400) => cshow30_ok d A3 n3 m3 W hr (fun j h1 h2 => Nat.le_trans (hq j h1 h2) (by decide)) (kchk_wf hd) (HP.out _ hb) hd)
        by_cases hu : (strB (evT d)).size ≤ 8192
        · have hu' : ¬ (8192 : Int) < ((strB (evT d)).size : Int) := by omega
          have HBd := Lib.hid (fun W (hb : Below w.heap.size w W) => read30_back d hd hu W (HM.out _ hb))
          unfold RetEv2 at HBd
          have HSm2 := Lib.hid (fun W A3 n3 m3 A4 n4 m4 (hr : RdEv W A3 n3 d) (hr4 : RdEv W A4 n4 d) (hq : ∀ j, j < 8 → j ≠ 4 → n3 j ≤ 400) (hq4 : ∀ j, j < 8 → j ≠ 4 → n4 j ≤ 400) => ksame_any A3 A4 n3 m3 n4 m4 d d W hr hr4 (fun k hk' => Nat.le_trans (hq _ (kslot_ok hk').1 (kslot_ok hk').2) (by decide)) (fun k hk' => Nat.le_trans (hq4 _ (kslot_ok hk').1 (kslot_ok hk').2) (by decide)))
          rw [sameK_self] at HSm2
          generalize d.back = bd at *
          generalize strB (evT d) = U at *
          clear hd hu
          unfold evV at HR HSd HBd HSm2
          go_wp2_with fail
          refine HR.out.mono ?_
          rintro e v1 ⟨hv1, A3, n3, m3, rfl, hr3, hq3⟩
          have hbv : Below w.heap.size w v1 := bthen hbT hv1 hzT
          have hzv := hbv.size
          have HE4 := Lib.hid (evAt_new v1 A3 n3 m3 bd 40)
          have HSe := Lib.hid (fun W (hb : Below v1.heap.size v1 W) => HSd.out W A3 n3 m3 (bthen hbv hb hzv) (hr3.below hb) hq3)
          have HR3 := Lib.hid (fun W (hb : Below v1.heap.size v1 W) => hr3.below hb)
          have HQ3 := Lib.hid hq3
          clear HSd hr3 hq3 HR hv1
          have hz1 : v1.heap.size < (v1.alloc (.cells #[.slice (A3 0) (n3 0) (m3 0), .slice (A3 1) (n3 1) (m3 1), .slice (A3 2) (n3 2) (m3 2), .slice (A3 3) (n3 3) (m3 3), .bool bd, .slice (A3 5) (n3 5) (m3 5), .slice (A3 6) (n3 6) (m3 6), .slice (A3 7) (n3 7) (m3 7)] 40)).heap.size := by simp
          go_wp2_with fail
          have hbA := (Below.refl _ v1).alloc (Nat.le_refl _) (.cells #[.slice (A3 0) (n3 0) (m3 0), .slice (A3 1) (n3 1) (m3 1), .slice (A3 2) (n3 2) (m3 2), .slice (A3 3) (n3 3) (m3 3), .bool bd, .slice (A3 5) (n3 5) (m3 5), .slice (A3 6) (n3 6) (m3 6), .slice (A3 7) (n3 7) (m3 7)] 40)
          refine (HSe.out _ hbA).mono ?_
          rintro e v2 ⟨rfl, hv2⟩
          have HE5 := Lib.hid (HE4.out.below hv2)
          have hb12 : Below v1.heap.size v1 v2 := hbA.trans (hv2.mono (Nat.le_of_lt hz1))
          clear hv2 hbA HE4 HSe
          obtain ⟨y0, y1, y2, y3, y4, y5, y6, y7⟩ := HE5.out
          have hbv2 := bthen hbv hb12 hzv
          go_wp2_with fail
          refine (HBd.out _ hbv2).mono ?_
          rintro e v3 ⟨hv3, A4, n4, m4, rfl, hr4, hq4⟩
          have HE6 := Lib.hid (HE5.out.below hv3)
          have hb13 : Below v1.heap.size v1 v3 := bthen hb12 hv3 hb12.size
          have hbv3 := bthen hbv hb13 hzv
          have hzv3 := hb13.size
          have hzw3 := hbv3.size
          clear y0 y1 y2 y3 y4 y5 y6 y7 hv3 HE5
          obtain ⟨y0, y1, y2, y3, y4, y5, y6, y7⟩ := HE6.out
          have hz13 : v1.heap.size < v3.heap.size := World.block_lt_of_cell? _ _ HE6.out.h0
          have HSx2 := Lib.hid (fun W (hb : Below v3.heap.size v3 W) => HSm2.out W A3 n3 m3 A4 n4 m4 (HR3.out W (bthen hb13 hb hzv3)) (hr4.below hb) HQ3.out hq4)
          clear hr4 hq4 HSm2 HR3 HQ3 HBd
          go_wp2_with fail
          refine (HSx2.out _ ((Below.refl _ v3).alloc (Nat.le_refl _) _)).mono ?_
          rintro e v4 ⟨rfl, hv4⟩
          have hbv4 : Below w.heap.size w v4 := (hbv3.alloc hzw3 _).trans (hv4.mono (by simp; omega))
          clear y0 y1 y2 y3 y4 y5 y6 y7 hv4 HE6 HSx2
          go_wp2_with fail
          refine (HV.out _ hbv4).mono ?_
          rintro e v5 ⟨rfl, hv5⟩
          go_wp2
          go_ret
          exact ⟨rfl, bthen hbv4 hv5 hbv4.size⟩
        · have hu' : (8192 : Int) < ((strB (evT d)).size : Int) := by omega
          have hUL : (strB (evT d)).size ≤ 707007 := by
            rw [strB_size]
            refine evT_len (fun k hk => ?_) (kchk_wf hd)
            have := kfault_len (kchk_parts hd k hk)
            have h2 : kMost (k : Int) ≤ 400 := by unfold kMost; split <;> decide
            omega
          have HRd := Lib.hid (fun W (hb : Below w.heap.size w W) => calread_ev (strB (evT d)) (by omega) W (HM.out _ hb))
          unfold RetEv at HRd
          generalize strB (evT d) = U at *
          generalize d.back = bd at *
          generalize kread U.data.toList = KU at *
          clear hd hu
          unfold evV at HR HSd HRd
          go_wp2_with fail
          refine HR.out.mono ?_
          rintro e v1 ⟨hv1, A3, n3, m3, rfl, hr3, hq3⟩
          have hbv : Below w.heap.size w v1 := bthen hbT hv1 hzT
          have hzv := hbv.size
          have HSe := Lib.hid (fun W (hb : Below v1.heap.size v1 W) => HSd.out W A3 n3 m3 (bthen hbv hb hzv) (hr3.below hb) hq3)
          clear HSd hr3 hq3 HR hv1
          go_wp2_with fail
          refine (HSe.out _ ((Below.refl _ v1).alloc (Nat.le_refl _) _)).mono ?_
          rintro e v2 ⟨rfl, hv2⟩
          have hbv2 : Below w.heap.size w v2 := (hbv.alloc hzv _).trans (hv2.mono (by simp; omega))
          clear hv2 HSe
          go_wp2_with fail
          refine (HRd.out _ hbv2).mono ?_
          rintro e v3 ⟨hv3, A4, n4, m4, rfl, _, _⟩
          have hbv3 := bthen hbv2 hv3 hbv2.size
          have hzv3 := hbv3.size
          clear hv3 HRd
          go_wp2_with fail
          refine (HV.out _ (hbv3.alloc hzv3 _)).mono ?_
          rintro e v5 ⟨rfl, hv5⟩
          go_wp2
          go_ret
          exact ⟨rfl, bthen (hbv3.alloc hzv3 _) hv5 (by simp; omega)⟩
end Go.Proofs.YtnelecjjbmjhaaaGreatDoor
