/- The walk of the law CronshowBack. -/
import Derived.Test.YtgliminiiciflaaDoorWCronread9
import Derived.Test.YtgliminiiciflaaDoorLShow2
namespace Go.Proofs.YtgliminiiciflaaDoor
open Go.RowKit
set_option linter.unusedSimpArgs false
set_option linter.unusedVariables false

theorem rowsOf_at {F : Nat → List It} {j : Nat} {is : List It} (h : (rowsOf F)[j]? = some is) : j < 5 ∧ is = F j := by
  unfold rowsOf at h
  rw [List.getElem?_map] at h
  rcases Nat.lt_or_ge j 5 with hj | hj
  · rw [List.getElem?_range hj] at h
    exact ⟨hj, (Option.some.inj h).symm⟩
  · rw [List.getElem?_eq_none (by simp; omega)] at h
    cases h
theorem back_one {F : Nat → List It} (h : ∀ k, k < 5 → faultI k (F k) = 0) (hl : (strB (lineT (rowsOf F))).size ≤ 8192) : outR (strB (lineT (rowsOf F))) = .ok ((List.range 5).map F) := by
  refine outR_ok (r := []) ?_
  rw [strB_data]
  exact cRead_back (rowsOf F) rfl (fun j is hj => by
    obtain ⟨h1, rfl⟩ := rowsOf_at hj
    exact h j h1) (by rw [← strB_size]; exact hl)
theorem mayP_wf {f : Nat} (hf : f < 5) {i : It} (h3 : i.k ≠ 3) (h : MayP i (cLo f) (cHi f)) : i.wf := by
  obtain ⟨k, a, b, s⟩ := i
  have h0 : cLo f = 0 ∨ cLo f = 1 := by
    obtain rfl | rfl | rfl | rfl | rfl : f = 0 ∨ f = 1 ∨ f = 2 ∨ f = 3 ∨ f = 4 := by omega
    all_goals simp [cLo]
  have h1 : cHi f ≤ 59 := by
    obtain rfl | rfl | rfl | rfl | rfl : f = 0 ∨ f = 1 ∨ f = 2 ∨ f = 3 ∨ f = 4 := by omega
    all_goals simp [cHi]
  simp only [MayP] at h
  dsimp only at h3
  refine ⟨?_, ?_, ?_, ?_⟩ <;> simp only [In64] <;> omega
theorem fault_wf {f : Nat} (hf : f < 5) {is : List It} (h : faultI f is = 0) : ∀ i ∈ is, i.wf := fun i hi => by
  have := (fault_parts h).2.2 i hi
  exact mayP_wf hf this.1 this.2
def RetBack (F : Nat → List It) (z : Int) (w : World) (x : Ending) (w' : World) : Prop :=
  Below w.heap.size w w' ∧ ∃ (G : Nat → List It) (A : Nat → Option Addr) (n c : Nat → Nat), x = .returned (.tuple #[crV A n c, .int .i64 z, .int .i64 0]) ∧ RdLine w' A n G ∧ (∀ k, n k ≤ 64) ∧ sameLine F G = true
theorem read_back (F : Nat → List It) (h : ∀ k, k < 5 → faultI k (F k) = 0) (hl : (strB (lineT (rowsOf F))).size ≤ 8192) (w : World) : Calls Tryd.prog 20 #[.string (strB (lineT (rowsOf F)))] w (RetBack F ((strB (lineT (rowsOf F))).size : Int) w) := by
  refine (read_line _ (by omega) w).mono ?_
  rintro x w1 ⟨hb1, ⟨G, A, n, c, hO, rfl, hrd, hn, hz, hF, hm⟩ | ⟨a, e, hO, he, ha0, ha1, rfl⟩⟩
  · rw [back_one h hl] at hO
    have hG := range5_eq (Except.ok.inj hO)
    exact ⟨hb1, G, A, n, c, rfl, hrd, fun k => (hn k).1, sameLine_yes fun k hk => by rw [hG k hk]; simp [sameIts]⟩
  · rw [back_one h hl] at hO
    cases hO

set_option maxRecDepth 20000 in
set_option maxHeartbeats 4000000 in
theorem cronshowBack_any (A : Nat → Option Addr) (n c : Nat → Nat) (l : Nat → List It) (s : ByteArray) (w : World) (hA : RdLine w A n l) (hn : ∀ k, n k ≤ 9223372036854775807) (hnil : ∀ k, A k = none → n k = 0) (hwf : ∀ k, ∀ it ∈ l k, it.wf) (hw : Pow w) (hout : ∀ k, 5 ≤ k → n k = 0) (hs : s.size ≤ 9223372036854775807) :
    Calls Tryd.prog 9 #[crV A n c, .string s] w (Ret (.bool true) w) := by
  have HP : Hid (∀ W, Below w.heap.size w W → Pow W) := fun W hb => tab_below hw hb
  have HV := Lib.hid (fun W (hb : Below w.heap.size w W) => lives26_any W (tab_below hw hb))
  have HG := Lib.hid (fun W => great_any A n c W)
  cases hg : greatB n with
  | true =>
    rw [hg] at HG
    clear hA hn hnil hwf hw hg HP
    go_enter Tryd.func9, Tryd.ntmps9
    go_wp2_with fail
    refine (HG.out _).mono ?_
    rintro e w1 ⟨rfl, hb1⟩
    have hb2 : Below w.heap.size w w1 := ((Below.refl _ w).alloc (Nat.le_refl _) _).trans (hb1.mono (by simp))
    go_wp2_with fail
    refine (HV.out _ hb2).mono ?_
    rintro e w2 ⟨rfl, hb3⟩
    go_wp2
    go_ret
    exact ⟨rfl, bthen hb2 hb3 hb2.size⟩
  | false =>
    rw [hg] at HG
    have hn2 : ∀ k, n k ≤ 200 := fun k => by
      rcases Nat.lt_or_ge k 5 with h | h
      · exact great_le hg k h
      · rw [hout k h]; omega
    by_cases hbig : 9000 < s.size
    · have hbig' : (9000 : Int) < (s.size : Int) := by omega
      clear hA hn hnil hwf hw hg HP hbig hout hn2
      go_enter Tryd.func9, Tryd.ntmps9
      go_wp2_with fail
      refine (HG.out _).mono ?_
      rintro e w1 ⟨rfl, hb1⟩
      have hb2 : Below w.heap.size w w1 := ((Below.refl _ w).alloc (Nat.le_refl _) _).trans (hb1.mono (by simp))
      go_wp2_with fail
      refine (HV.out _ hb2).mono ?_
      rintro e w2 ⟨rfl, hb3⟩
      go_wp2
      go_ret
      exact ⟨rfl, bthen hb2 hb3 hb2.size⟩
    have hbig' : ¬ (9000 : Int) < (s.size : Int) := by omega
    have HRs := Lib.hid (fun W => read_line s (by omega) W)
    clear hbig hg
    by_cases hc : (chk l).2 = 0
    · obtain ⟨hc5, hfl⟩ : chk l = (5, 0) ∧ ∀ k, k < 5 → faultI k (l k) = 0 := by
        rcases chk_cases l with h | h
        · exact h
        · exact absurd hc h
      have HS := Lib.hid (fun W (hb : Below w.heap.size w W) => show_ok A n c l W (hA.below hb (Nat.le_refl _)) hn2 hnil hwf (tab_below hw hb) hc5)
      have HSm0 := Lib.hid (fun W (hb : Below w.heap.size w W) A2 n2 c2 (G : Nat → List It) (hr : RdLine W A2 n2 G) (h2 : ∀ k, n2 k ≤ 64) (h : sameLine l G = true) => h ▸ same_any A A2 n c n2 c2 l G W (hA.below hb (Nat.le_refl _)) hr hn (fun k => by have := h2 k; omega))
      by_cases ht : (strB (lineT (rowsOf l))).size ≤ 8192
      · have ht' : ((strB (lineT (rowsOf l))).size : Int) ≤ 8192 := by omega
        have HB0 := Lib.hid (fun W => read_back l hfl ht W)
        clear hA hn hnil hwf hw hc hc5 hn2 hout hfl ht
        generalize strB (lineT (rowsOf l)) = T at HS HB0 ht'
        go_enter Tryd.func9, Tryd.ntmps9
        go_wp2_with fail
        refine (HG.out _).mono ?_
        rintro e w1 ⟨rfl, hb1⟩
        obtain ⟨hq1, hq2⟩ := bcell hb1
        have hb2 : Below w.heap.size w w1 := ((Below.refl _ w).alloc (Nat.le_refl _) _).trans (hb1.mono (by simp))
        have hz1 : w.heap.size < w1.heap.size := by have := hb1.size; simp at this; omega
        have HL : Hid (LineAt w1 w.heap.size 0 A n c) := ⟨by rw [hq1 _ _ (by simp)]; simp [go_sem], by rw [hq1 _ _ (by simp)]; simp [go_sem], by rw [hq1 _ _ (by simp)]; simp [go_sem], by rw [hq1 _ _ (by simp)]; simp [go_sem], by rw [hq1 _ _ (by simp)]; simp [go_sem]⟩
        clear hb1 hq1 hq2
        obtain ⟨c0, c1, c2, c3, c4⟩ := HL.out
        simp only [Nat.zero_add] at c1 c2 c3 c4
        go_wp2_with fail
        refine (HS.out _ hb2).mono ?_
        rintro e w2 ⟨rfl, hb3⟩
        have hb4 := bthen hb2 hb3 hb2.size
        have HL2 := Lib.hid (LineAt.below HL.out (fun o => hb3.cell (p := ⟨_, o, none⟩) hz1))
        have hz2 := Nat.lt_of_lt_of_le hz1 hb3.size
        clear c0 c1 c2 c3 c4 hb3
        go_wp2_with fail
        refine (HB0.out _).mono ?_
        rintro e w3 ⟨hb5, G, A2, n2, c2, rfl, hr2, hn3, hsame⟩
        have hb6 := bthen hb4 hb5 hb4.size
        have HL3 := Lib.hid (LineAt.below HL2.out (fun o => hb5.cell (p := ⟨_, o, none⟩) hz2))
        have hz3 := Nat.lt_of_lt_of_le hz2 hb5.size
        have HSx : Hid (∀ W, Below w3.heap.size w3 W → Calls Tryd.prog 23 #[crV A n c, crV A2 n2 c2] W (Ret (.bool true) W)) := fun W hW => by
          have := HSm0.out W (bthen hb6 hW hb6.size) A2 n2 c2 G (hr2.below hW (Nat.le_refl _)) hn3 hsame
          exact this
        clear hb5 hr2 hn3 hsame HSm0 HS HG
        obtain ⟨c0, c1, c2', c3, c4⟩ := HL3.out
        simp only [Nat.zero_add] at c1 c2' c3 c4
        go_wp2_with fail
        refine (HSx.out _ ((Below.refl _ w3).alloc (Nat.le_refl _) _)).mono ?_
        rintro e wT ⟨rfl, hb7⟩
        have hbT : Below w.heap.size w wT := (hb6.alloc hb6.size _).trans (hb7.mono (by simp; have := hb6.size; omega))
        clear c0 c1 c2' c3 c4 hb7
        go_wp2_with fail
        refine (HRs.out _).mono ?_
        rintro x w5 ⟨hb5, ⟨F, A1, n1, c1, hO, rfl, hrd, hn1, hnil1, hF, hm⟩ | ⟨a, e, hO, he, ha0, ha1, rfl⟩⟩
        · have hbA : Below w.heap.size w w5 := bthen hbT hb5 hbT.size
          have hwf1 : ∀ k, ∀ it ∈ F k, it.wf := fun k it hi => by
            rcases Nat.lt_or_ge k 5 with h | h
            · exact fault_wf h (hm k h) it hi
            · rw [hF k h] at hi; cases hi
          have HS1 := Lib.hid (fun W (hb : Below w5.heap.size w5 W) => show_ok A1 n1 c1 F W (hrd.below hb (Nat.le_refl _)) (fun k => by have := (hn1 k).1; omega) hnil1 hwf1 (HP.out W (bthen hbA hb hbA.size)) (chk_all hm))
          have HSm := Lib.hid (fun W (hb : Below w5.heap.size w5 W) A2 n2 c2 (G : Nat → List It) (hr : RdLine W A2 n2 G) (h2 : ∀ k, n2 k ≤ 64) => same_any A1 A2 n1 c1 n2 c2 F G W (hrd.below hb (Nat.le_refl _)) hr (fun k => by have := (hn1 k).1; omega) (fun k => by have := h2 k; omega))
          by_cases hu : (strB (lineT (rowsOf F))).size ≤ 8192
          · have hu' : ¬ (8192 : Int) < ((strB (lineT (rowsOf F))).size : Int) := by omega
            have HB1 := Lib.hid (fun W => read_back F hm hu W)
            clear hO hrd hn1 hnil1 hF hm hwf1 hu hb5 HRs HP
            generalize strB (lineT (rowsOf F)) = U at HS1 HB1 hu'
            go_wp2_with fail
            refine (HS1.out _ ((Below.refl _ w5).alloc (Nat.le_refl _) _)).mono ?_
            rintro x w6 ⟨rfl, hb6'⟩
            obtain ⟨hq1, hq2⟩ := bcell hb6'
            have hz6 : w5.heap.size < w6.heap.size := by have := hb6'.size; simp at this; omega
            have HM : Hid (LineAt w6 w5.heap.size 0 A1 n1 c1) := ⟨by rw [hq1 _ _ (by simp)]; simp [go_sem], by rw [hq1 _ _ (by simp)]; simp [go_sem], by rw [hq1 _ _ (by simp)]; simp [go_sem], by rw [hq1 _ _ (by simp)]; simp [go_sem], by rw [hq1 _ _ (by simp)]; simp [go_sem]⟩
            have hbB : Below w5.heap.size w5 w6 := ((Below.refl _ w5).alloc (Nat.le_refl _) _).trans (hb6'.mono (by simp))
            clear hb6' hq1 hq2
            go_wp2_with fail
            refine (HB1.out _).mono ?_
            rintro x w7 ⟨hb7', G1, A3, n3, c3', rfl, hr3, hn3', hsame'⟩
            have hbC := bthen hbB hb7' hbB.size
            have hz7 := Nat.lt_of_lt_of_le hz6 hb7'.size
            have HM2 := Lib.hid (LineAt.below HM.out (fun o => hb7'.cell (p := ⟨_, o, none⟩) hz6))
            have HSy : Hid (∀ W, Below w7.heap.size w7 W → Calls Tryd.prog 23 #[crV A1 n1 c1, crV A3 n3 c3'] W (Ret (.bool true) W)) := fun W hW => by
              have := HSm.out W (bthen hbC hW hbC.size) A3 n3 c3' G1 (hr3.below hW (Nat.le_refl _)) hn3'
              rw [hsame'] at this
              exact this
            have hbD := bthen hbA hbC hbA.size
            clear hb7' hr3 hn3' hsame' HSm HS1 HB1 hbB hbC
            obtain ⟨y0, y1, y2, y3, y4⟩ := HM2.out
            simp only [Nat.zero_add] at y1 y2 y3 y4
            go_wp2_with fail
            refine (HSy.out _ ((Below.refl _ w7).alloc (Nat.le_refl _) _)).mono ?_
            rintro x w8 ⟨rfl, hb8'⟩
            have hbE : Below w.heap.size w w8 := (hbD.alloc hbD.size _).trans (hb8'.mono (by simp; have := hbD.size; omega))
            clear y0 y1 y2 y3 y4 hb8'
            go_wp2_with fail
            refine (HV.out _ hbE).mono ?_
            rintro x w9 ⟨rfl, hb9'⟩
            go_wp2
            go_ret
            exact ⟨rfl, bthen hbE hb9' hbE.size⟩
          · have hu' : (8192 : Int) < ((strB (lineT (rowsOf F))).size : Int) := by omega
            have hus : (strB (lineT (rowsOf F))).size ≤ 600000 := by rw [strB_size]; exact lineT_len hwf1 (fun k hk => by rw [(hrd k hk).1]; have := (hn1 k).1; omega)
            have HB1 := Lib.hid (fun W => read_line2 (strB (lineT (rowsOf F))) (by omega) W)
            clear hO hrd hn1 hnil1 hF hm hwf1 hu hb5 HRs HP HSm
            generalize strB (lineT (rowsOf F)) = U at HS1 HB1 hu' hus
            go_wp2_with fail
            refine (HS1.out _ ((Below.refl _ w5).alloc (Nat.le_refl _) _)).mono ?_
            rintro x w6 ⟨rfl, hb6'⟩
            have hbB : Below w5.heap.size w5 w6 := ((Below.refl _ w5).alloc (Nat.le_refl _) _).trans (hb6'.mono (by simp))
            clear hb6'
            go_wp2_with fail
            refine (HB1.out _).mono ?_
            rintro x w7 ⟨G1, A3, n3, c3', pl, ec, rfl, hb7', _, _, _⟩
            have hbC := bthen hbB hb7' hbB.size
            have hbD := bthen hbA hbC hbA.size
            have hbE : Below w.heap.size w w7 := hbD
            clear hb7' HS1 HB1 hbB hbC
            go_wp2_with fail
            refine (HV.out _ (hbD.alloc hbD.size _)).mono ?_
            rintro x w9 ⟨rfl, hb9'⟩
            go_wp2
            go_ret
            exact ⟨rfl, (hbD.alloc hbD.size _).trans (hb9'.mono (by simp; have := hbD.size; omega))⟩
        · have he' : (e != 0) = true := by simpa using he
          have hbA : Below w.heap.size w w5 := bthen hbT hb5 hbT.size
          clear hO he hb5 HRs HP
          go_wp2_with fail
          refine (HV.out _ (hbA.alloc hbA.size _)).mono ?_
          rintro x w9 ⟨rfl, hb9'⟩
          go_wp2
          go_ret
          exact ⟨rfl, (hbA.alloc hbA.size _).trans (hb9'.mono (by simp; have := hbA.size; omega))⟩
      · have ht' : ¬ ((strB (lineT (rowsOf l))).size : Int) ≤ 8192 := by omega
        have hts : (strB (lineT (rowsOf l))).size ≤ 600000 := by rw [strB_size]; exact lineT_len hwf (fun k hk => by rw [(hA k hk).1]; have := hn2 k; omega)
        clear hA hn hnil hwf hw hc hc5 hn2 hout hfl ht
        generalize strB (lineT (rowsOf l)) = T at HS ht' hts
        go_enter Tryd.func9, Tryd.ntmps9
        go_wp2_with fail
        refine (HG.out _).mono ?_
        rintro e w1 ⟨rfl, hb1⟩
        obtain ⟨hq1, hq2⟩ := bcell hb1
        have hb2 : Below w.heap.size w w1 := ((Below.refl _ w).alloc (Nat.le_refl _) _).trans (hb1.mono (by simp))
        have HL : Hid (LineAt w1 w.heap.size 0 A n c) := ⟨by rw [hq1 _ _ (by simp)]; simp [go_sem], by rw [hq1 _ _ (by simp)]; simp [go_sem], by rw [hq1 _ _ (by simp)]; simp [go_sem], by rw [hq1 _ _ (by simp)]; simp [go_sem], by rw [hq1 _ _ (by simp)]; simp [go_sem]⟩
        clear hb1 hq1 hq2
        obtain ⟨c0, c1, c2, c3, c4⟩ := HL.out
        simp only [Nat.zero_add] at c1 c2 c3 c4
        go_wp2_with fail
        refine (HS.out _ hb2).mono ?_
        rintro e wT ⟨rfl, hb3⟩
        have hbT := bthen hb2 hb3 hb2.size
        clear c0 c1 c2 c3 c4 hb3 HS HG
        go_wp2_with fail
        refine (HRs.out _).mono ?_
        rintro x w5 ⟨hb5, ⟨F, A1, n1, c1, hO, rfl, hrd, hn1, hnil1, hF, hm⟩ | ⟨a, e, hO, he, ha0, ha1, rfl⟩⟩
        · have hbA : Below w.heap.size w w5 := bthen hbT hb5 hbT.size
          have hwf1 : ∀ k, ∀ it ∈ F k, it.wf := fun k it hi => by
            rcases Nat.lt_or_ge k 5 with h | h
            · exact fault_wf h (hm k h) it hi
            · rw [hF k h] at hi; cases hi
          have HS1 := Lib.hid (fun W (hb : Below w5.heap.size w5 W) => show_ok A1 n1 c1 F W (hrd.below hb (Nat.le_refl _)) (fun k => by have := (hn1 k).1; omega) hnil1 hwf1 (HP.out W (bthen hbA hb hbA.size)) (chk_all hm))
          have HSm := Lib.hid (fun W (hb : Below w5.heap.size w5 W) A2 n2 c2 (G : Nat → List It) (hr : RdLine W A2 n2 G) (h2 : ∀ k, n2 k ≤ 64) => same_any A1 A2 n1 c1 n2 c2 F G W (hrd.below hb (Nat.le_refl _)) hr (fun k => by have := (hn1 k).1; omega) (fun k => by have := h2 k; omega))
          by_cases hu : (strB (lineT (rowsOf F))).size ≤ 8192
          · have hu' : ¬ (8192 : Int) < ((strB (lineT (rowsOf F))).size : Int) := by omega
            have HB1 := Lib.hid (fun W => read_back F hm hu W)
            clear hO hrd hn1 hnil1 hF hm hwf1 hu hb5 HRs HP
            generalize strB (lineT (rowsOf F)) = U at HS1 HB1 hu'
            go_wp2_with fail
            refine (HS1.out _ ((Below.refl _ w5).alloc (Nat.le_refl _) _)).mono ?_
            rintro x w6 ⟨rfl, hb6'⟩
            obtain ⟨hq1, hq2⟩ := bcell hb6'
            have hz6 : w5.heap.size < w6.heap.size := by have := hb6'.size; simp at this; omega
            have HM : Hid (LineAt w6 w5.heap.size 0 A1 n1 c1) := ⟨by rw [hq1 _ _ (by simp)]; simp [go_sem], by rw [hq1 _ _ (by simp)]; simp [go_sem], by rw [hq1 _ _ (by simp)]; simp [go_sem], by rw [hq1 _ _ (by simp)]; simp [go_sem], by rw [hq1 _ _ (by simp)]; simp [go_sem]⟩
            have hbB : Below w5.heap.size w5 w6 := ((Below.refl _ w5).alloc (Nat.le_refl _) _).trans (hb6'.mono (by simp))
            clear hb6' hq1 hq2
            go_wp2_with fail
            refine (HB1.out _).mono ?_
            rintro x w7 ⟨hb7', G1, A3, n3, c3', rfl, hr3, hn3', hsame'⟩
            have hbC := bthen hbB hb7' hbB.size
            have hz7 := Nat.lt_of_lt_of_le hz6 hb7'.size
            have HM2 := Lib.hid (LineAt.below HM.out (fun o => hb7'.cell (p := ⟨_, o, none⟩) hz6))
            have HSy : Hid (∀ W, Below w7.heap.size w7 W → Calls Tryd.prog 23 #[crV A1 n1 c1, crV A3 n3 c3'] W (Ret (.bool true) W)) := fun W hW => by
              have := HSm.out W (bthen hbC hW hbC.size) A3 n3 c3' G1 (hr3.below hW (Nat.le_refl _)) hn3'
              rw [hsame'] at this
              exact this
            have hbD := bthen hbA hbC hbA.size
            clear hb7' hr3 hn3' hsame' HSm HS1 HB1 hbB hbC
            obtain ⟨y0, y1, y2, y3, y4⟩ := HM2.out
            simp only [Nat.zero_add] at y1 y2 y3 y4
            go_wp2_with fail
            refine (HSy.out _ ((Below.refl _ w7).alloc (Nat.le_refl _) _)).mono ?_
            rintro x w8 ⟨rfl, hb8'⟩
            have hbE : Below w.heap.size w w8 := (hbD.alloc hbD.size _).trans (hb8'.mono (by simp; have := hbD.size; omega))
            clear y0 y1 y2 y3 y4 hb8'
            go_wp2_with fail
            refine (HV.out _ hbE).mono ?_
            rintro x w9 ⟨rfl, hb9'⟩
            go_wp2
            go_ret
            exact ⟨rfl, bthen hbE hb9' hbE.size⟩
          · have hu' : (8192 : Int) < ((strB (lineT (rowsOf F))).size : Int) := by omega
            have hus : (strB (lineT (rowsOf F))).size ≤ 600000 := by rw [strB_size]; exact lineT_len hwf1 (fun k hk => by rw [(hrd k hk).1]; have := (hn1 k).1; omega)
            have HB1 := Lib.hid (fun W => read_line2 (strB (lineT (rowsOf F))) (by omega) W)
            clear hO hrd hn1 hnil1 hF hm hwf1 hu hb5 HRs HP HSm
            generalize strB (lineT (rowsOf F)) = U at HS1 HB1 hu' hus
            go_wp2_with fail
            refine (HS1.out _ ((Below.refl _ w5).alloc (Nat.le_refl _) _)).mono ?_
            rintro x w6 ⟨rfl, hb6'⟩
            have hbB : Below w5.heap.size w5 w6 := ((Below.refl _ w5).alloc (Nat.le_refl _) _).trans (hb6'.mono (by simp))
            clear hb6'
            go_wp2_with fail
            refine (HB1.out _).mono ?_
            rintro x w7 ⟨G1, A3, n3, c3', pl, ec, rfl, hb7', _, _, _⟩
            have hbC := bthen hbB hb7' hbB.size
            have hbD := bthen hbA hbC hbA.size
            have hbE : Below w.heap.size w w7 := hbD
            clear hb7' HS1 HB1 hbB hbC
            go_wp2_with fail
            refine (HV.out _ (hbD.alloc hbD.size _)).mono ?_
            rintro x w9 ⟨rfl, hb9'⟩
            go_wp2
            go_ret
            exact ⟨rfl, (hbD.alloc hbD.size _).trans (hb9'.mono (by simp; have := hbD.size; omega))⟩
        · have he' : (e != 0) = true := by simpa using he
          have hbA : Below w.heap.size w w5 := bthen hbT hb5 hbT.size
          clear hO he hb5 HRs HP
          go_wp2_with fail
          refine (HV.out _ (hbA.alloc hbA.size _)).mono ?_
          rintro x w9 ⟨rfl, hb9'⟩
          go_wp2
          go_ret
          exact ⟨rfl, (hbA.alloc hbA.size _).trans (hb9'.mono (by simp; have := hbA.size; omega))⟩
    · have HS := Lib.hid (fun W (hb : Below w.heap.size w W) => show_bad A n c l W (hA.below hb (Nat.le_refl _)) hn hc)
      generalize (chk l).1 = q1 at HS
      generalize (chk l).2 = q2 at HS hc
      have hc' : (q2 == 0) = false := by simpa using hc
      clear hA hn hnil hwf hw hc hn2 hout
      go_enter Tryd.func9, Tryd.ntmps9
      go_wp2_with fail
      refine (HG.out _).mono ?_
      rintro e w1 ⟨rfl, hb1⟩
      obtain ⟨hq1, hq2⟩ := bcell hb1
      have hb2 : Below w.heap.size w w1 := ((Below.refl _ w).alloc (Nat.le_refl _) _).trans (hb1.mono (by simp))
      have HL : Hid (LineAt w1 w.heap.size 0 A n c) := ⟨by rw [hq1 _ _ (by simp)]; simp [go_sem], by rw [hq1 _ _ (by simp)]; simp [go_sem], by rw [hq1 _ _ (by simp)]; simp [go_sem], by rw [hq1 _ _ (by simp)]; simp [go_sem], by rw [hq1 _ _ (by simp)]; simp [go_sem]⟩
      clear hb1 hq1 hq2
      obtain ⟨c0, c1, c2, c3, c4⟩ := HL.out
      simp only [Nat.zero_add] at c1 c2 c3 c4
      go_wp2_with fail
      refine (HS.out _ hb2).mono ?_
      rintro e wT ⟨rfl, hb3⟩
      have hbT := bthen hb2 hb3 hb2.size
      clear c0 c1 c2 c3 c4 hb3 HS HG
      go_wp2_with fail
      refine (HRs.out _).mono ?_
      rintro x w5 ⟨hb5, ⟨F, A1, n1, c1, hO, rfl, hrd, hn1, hnil1, hF, hm⟩ | ⟨a, e, hO, he, ha0, ha1, rfl⟩⟩
      · have hbA : Below w.heap.size w w5 := bthen hbT hb5 hbT.size
        have hwf1 : ∀ k, ∀ it ∈ F k, it.wf := fun k it hi => by
          rcases Nat.lt_or_ge k 5 with h | h
          · exact fault_wf h (hm k h) it hi
          · rw [hF k h] at hi; cases hi
        have HS1 := Lib.hid (fun W (hb : Below w5.heap.size w5 W) => show_ok A1 n1 c1 F W (hrd.below hb (Nat.le_refl _)) (fun k => by have := (hn1 k).1; omega) hnil1 hwf1 (HP.out W (bthen hbA hb hbA.size)) (chk_all hm))
        have HSm := Lib.hid (fun W (hb : Below w5.heap.size w5 W) A2 n2 c2 (G : Nat → List It) (hr : RdLine W A2 n2 G) (h2 : ∀ k, n2 k ≤ 64) => same_any A1 A2 n1 c1 n2 c2 F G W (hrd.below hb (Nat.le_refl _)) hr (fun k => by have := (hn1 k).1; omega) (fun k => by have := h2 k; omega))
        by_cases hu : (strB (lineT (rowsOf F))).size ≤ 8192
        · have hu' : ¬ (8192 : Int) < ((strB (lineT (rowsOf F))).size : Int) := by omega
          have HB1 := Lib.hid (fun W => read_back F hm hu W)
          clear hO hrd hn1 hnil1 hF hm hwf1 hu hb5 HRs HP
          generalize strB (lineT (rowsOf F)) = U at HS1 HB1 hu'
          go_wp2_with fail
          refine (HS1.out _ ((Below.refl _ w5).alloc (Nat.le_refl _) _)).mono ?_
          rintro x w6 ⟨rfl, hb6'⟩
          obtain ⟨hq1, hq2⟩ := bcell hb6'
          have hz6 : w5.heap.size < w6.heap.size := by have := hb6'.size; simp at this; omega
          have HM : Hid (LineAt w6 w5.heap.size 0 A1 n1 c1) := ⟨by rw [hq1 _ _ (by simp)]; simp [go_sem], by rw [hq1 _ _ (by simp)]; simp [go_sem], by rw [hq1 _ _ (by simp)]; simp [go_sem], by rw [hq1 _ _ (by simp)]; simp [go_sem], by rw [hq1 _ _ (by simp)]; simp [go_sem]⟩
          have hbB : Below w5.heap.size w5 w6 := ((Below.refl _ w5).alloc (Nat.le_refl _) _).trans (hb6'.mono (by simp))
          clear hb6' hq1 hq2
          go_wp2_with fail
          refine (HB1.out _).mono ?_
          rintro x w7 ⟨hb7', G1, A3, n3, c3', rfl, hr3, hn3', hsame'⟩
          have hbC := bthen hbB hb7' hbB.size
          have hz7 := Nat.lt_of_lt_of_le hz6 hb7'.size
          have HM2 := Lib.hid (LineAt.below HM.out (fun o => hb7'.cell (p := ⟨_, o, none⟩) hz6))
          have HSy : Hid (∀ W, Below w7.heap.size w7 W → Calls Tryd.prog 23 #[crV A1 n1 c1, crV A3 n3 c3'] W (Ret (.bool true) W)) := fun W hW => by
            have := HSm.out W (bthen hbC hW hbC.size) A3 n3 c3' G1 (hr3.below hW (Nat.le_refl _)) hn3'
            rw [hsame'] at this
            exact this
          have hbD := bthen hbA hbC hbA.size
          clear hb7' hr3 hn3' hsame' HSm HS1 HB1 hbB hbC
          obtain ⟨y0, y1, y2, y3, y4⟩ := HM2.out
          simp only [Nat.zero_add] at y1 y2 y3 y4
          go_wp2_with fail
          refine (HSy.out _ ((Below.refl _ w7).alloc (Nat.le_refl _) _)).mono ?_
          rintro x w8 ⟨rfl, hb8'⟩
          have hbE : Below w.heap.size w w8 := (hbD.alloc hbD.size _).trans (hb8'.mono (by simp; have := hbD.size; omega))
          clear y0 y1 y2 y3 y4 hb8'
          go_wp2_with fail
          refine (HV.out _ hbE).mono ?_
          rintro x w9 ⟨rfl, hb9'⟩
          go_wp2
          go_ret
          exact ⟨rfl, bthen hbE hb9' hbE.size⟩
        · have hu' : (8192 : Int) < ((strB (lineT (rowsOf F))).size : Int) := by omega
          have hus : (strB (lineT (rowsOf F))).size ≤ 600000 := by rw [strB_size]; exact lineT_len hwf1 (fun k hk => by rw [(hrd k hk).1]; have := (hn1 k).1; omega)
          have HB1 := Lib.hid (fun W => read_line2 (strB (lineT (rowsOf F))) (by omega) W)
          clear hO hrd hn1 hnil1 hF hm hwf1 hu hb5 HRs HP HSm
          generalize strB (lineT (rowsOf F)) = U at HS1 HB1 hu' hus
          go_wp2_with fail
          refine (HS1.out _ ((Below.refl _ w5).alloc (Nat.le_refl _) _)).mono ?_
          rintro x w6 ⟨rfl, hb6'⟩
          have hbB : Below w5.heap.size w5 w6 := ((Below.refl _ w5).alloc (Nat.le_refl _) _).trans (hb6'.mono (by simp))
          clear hb6'
          go_wp2_with fail
          refine (HB1.out _).mono ?_
          rintro x w7 ⟨G1, A3, n3, c3', pl, ec, rfl, hb7', _, _, _⟩
          have hbC := bthen hbB hb7' hbB.size
          have hbD := bthen hbA hbC hbA.size
          have hbE : Below w.heap.size w w7 := hbD
          clear hb7' HS1 HB1 hbB hbC
          go_wp2_with fail
          refine (HV.out _ (hbD.alloc hbD.size _)).mono ?_
          rintro x w9 ⟨rfl, hb9'⟩
          go_wp2
          go_ret
          exact ⟨rfl, (hbD.alloc hbD.size _).trans (hb9'.mono (by simp; have := hbD.size; omega))⟩
      · have he' : (e != 0) = true := by simpa using he
        have hbA : Below w.heap.size w w5 := bthen hbT hb5 hbT.size
        clear hO he hb5 HRs HP
        go_wp2_with fail
        refine (HV.out _ (hbA.alloc hbA.size _)).mono ?_
        rintro x w9 ⟨rfl, hb9'⟩
        go_wp2
        go_ret
        exact ⟨rfl, (hbA.alloc hbA.size _).trans (hb9'.mono (by simp; have := hbA.size; omega))⟩
end Go.Proofs.YtgliminiiciflaaDoor
