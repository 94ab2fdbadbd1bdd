/- The walk of the law RulereadWeeks. -/
import Derived.Test.YtnelecjjbmjhaaaGreatLRr
import Derived.Test.YtnelecjjbmjhaaaGreatRRuleWk
namespace Go.Proofs.YtnelecjjbmjhaaaGreat
open Go.RowKit
set_option linter.unusedSimpArgs false
set_option linter.unusedVariables false

/-- Whatever is read: the shape of what Read hands back. -/
def RetAnyR (w : World) (x : Ending) (w' : World) : Prop := ∃ r A n c a e, x = .returned (.tuple #[ruV r A n c, .int .i64 a, .int .i64 e]) ∧ Below w.heap.size w w'
theorem rread_shape (s : ByteArray) (hs : s.size ≤ 1000000) (w : World) : Calls Tryz.prog 6 #[.string s] w (RetAnyR w) := by
  refine (rread_any s hs w).mono ?_
  rintro x w' ⟨hm, hb⟩
  cases h : rread s.data.toList with
  | ok r =>
    rw [h] at hm
    obtain ⟨A, n, c, h1, _⟩ := hm
    exact ⟨r, A, n, c, _, _, h1, hb⟩
  | error p =>
    rw [h] at hm
    exact ⟨_, _, _, _, _, _, hm, hb⟩
theorem app_data (s t : ByteArray) : (s ++ t).data.toList = s.data.toList ++ t.data.toList := by
  rw [ByteArray.data_append]; simp
set_option maxRecDepth 20000 in
set_option maxHeartbeats 4000000 in
theorem rulereadWeeks_any (s : ByteArray) (w : World) (hs : s.size ≤ 9223372036854775807) : Calls Tryz.prog 4 #[.string s] w (Ret (.bool true) w) := by
  have HV := Lib.hid (fun W => lives33_any W)
  by_cases hbig : 3000 < s.size
  · have hbig' : (3000 : Int) < (s.size : Int) := by omega
    clear hbig
    go_enter Tryz.func4, Tryz.ntmps4
    go_wp2_with fail
    refine (HV.out _).mono ?_
    rintro e w1 ⟨rfl, hb1⟩
    go_wp2
    go_ret
    exact ⟨rfl, hb1⟩
  · have hbig' : ¬ (3000 : Int) < (s.size : Int) := by omega
    have dM : (s ++ ⟨#[59, 87, 75, 83, 84, 61, 77, 79]⟩).data.toList = s.data.toList ++ 59 :: wkX 77 79 := app_data _ _
    have dS : (s ++ ⟨#[59, 87, 75, 83, 84, 61, 83, 85]⟩).data.toList = s.data.toList ++ 59 :: wkX 83 85 := app_data _ _
    have zM : (s ++ ⟨#[59, 87, 75, 83, 84, 61, 77, 79]⟩).size = s.size + 8 := by rw [ByteArray.size_append]; rfl
    have zS : (s ++ ⟨#[59, 87, 75, 83, 84, 61, 83, 85]⟩).size = s.size + 8 := by rw [ByteArray.size_append]; rfl
    cases hk : rread s.data.toList with
    | error p =>
      obtain ⟨a, e⟩ := p
      obtain ⟨he, _, _⟩ := rread_err hk
      have he' : (e != 0) = true := by simpa using he
      have HR := Lib.hid (rread_errc (s := s) (by omega) hk w)
      have HM := Lib.hid (fun W => rread_shape (s ++ ⟨#[59, 87, 75, 83, 84, 61, 77, 79]⟩) (by omega) W)
      have HS := Lib.hid (fun W => rread_shape (s ++ ⟨#[59, 87, 75, 83, 84, 61, 83, 85]⟩) (by omega) W)
      unfold RetAnyR at HM HS
      unfold ruV at HR HM HS
      unfold ruNil at HR
      dsimp only at HR
      clear hk hbig he dM dS zM zS
      go_enter Tryz.func4, Tryz.ntmps4
      go_wp2_with fail
      refine HR.out.mono ?_
      rintro e' w1 ⟨rfl, hb1⟩
      have hz1 := hb1.size
      go_wp2_with fail
      refine (HM.out _).mono ?_
      rintro e' w2 ⟨r2, A2, n2, c2, a2, e2, rfl, hb2⟩
      have hb3 : Below w.heap.size w w2 := bthen (hb1.alloc hz1 _) hb2 (by simp; omega)
      clear hb2
      have hz3 := hb3.size
      go_wp2_with fail
      refine (HS.out _).mono ?_
      rintro e' w3 ⟨r3, A3, n3, c3, a3, e3, rfl, hb4⟩
      have hb5 : Below w.heap.size w w3 := bthen (hb3.alloc hz3 _) hb4 (by simp; omega)
      clear hb4
      have hz5 := hb5.size
      go_wp2_with fail
      refine (HV.out _).mono ?_
      rintro e' w4 ⟨rfl, hb6⟩
      go_wp2
      go_ret
      exact ⟨rfl, bthen (hb5.alloc hz5 _) hb6 (by simp; omega)⟩
    | ok r =>
      have HR := Lib.hid (rread_okc (s := s) (by omega) hk w)
      unfold RetOkR at HR
      rcases read_wk hk (by rw [len_data]; omega) with ⟨h1, h2⟩ | ⟨h1, h2⟩
      · rw [← dM] at h1
        rw [← dS] at h2
        rw [len_data] at h1 h2
        have HM := Lib.hid (fun W => rread_errc (by omega) h1 W)
        have HS := Lib.hid (fun W => rread_errc (by omega) h2 W)
        unfold ruV at HR HM HS
        unfold ruNil at HM HS
        dsimp only at HM HS
        clear hk hbig dM dS zM zS h1 h2
        go_enter Tryz.func4, Tryz.ntmps4
        go_wp2_with fail
        refine HR.out.mono ?_
        rintro e' w1 ⟨A, n, c, rfl, _, _, _, hb1⟩
        have hz1 := hb1.size
        go_wp2_with fail
        refine (HM.out _).mono ?_
        rintro e' w2 ⟨rfl, hb2⟩
        have hb3 : Below w.heap.size w w2 := bthen (hb1.alloc hz1 _) hb2 (by simp; omega)
        clear hb2
        have hz3 := hb3.size
        go_wp2_with fail
        refine (HS.out _).mono ?_
        rintro e' w3 ⟨rfl, hb4⟩
        have hb5 : Below w.heap.size w w3 := bthen (hb3.alloc hz3 _) hb4 (by simp; omega)
        clear hb4
        have hz5 := hb5.size
        go_wp2_with fail
        refine (HV.out _).mono ?_
        rintro e' w4 ⟨rfl, hb6⟩
        go_wp2
        go_ret
        exact ⟨rfl, bthen (hb5.alloc hz5 _) hb6 (by simp; omega)⟩
      · rw [← dM] at h1
        rw [← dS] at h2
        rw [len_data] at h2
        have HM := Lib.hid (fun W => rread_okc (by omega) h1 W)
        have HS := Lib.hid (fun W => rread_errc (by omega) h2 W)
        unfold RetOkR at HM
        rw [zM] at HM
        have hc8 : ((s.size + 8 : Nat) : Int) = (s.size : Int) + 8 := by omega
        rw [hc8] at HM
        have HSame := Lib.hid (fun A A' n c c' W (h : RdRu W A n r) (h' : RdRu W A' n r) (hn : ∀ k, n k ≤ 1000000) => rsame_any r A A' n c c' W h h' hn)
        unfold ruV at HR HM HS HSame
        unfold ruNil at HS
        dsimp only at HS
        clear hk hbig dM dS zM zS h1 h2 hc8
        go_enter Tryz.func4, Tryz.ntmps4
        go_wp2_with fail
        refine HR.out.mono ?_
        rintro e' w1 ⟨A, n, c, rfl, hr1, hn64, hn0, hb1⟩
        have hz1 := hb1.size
        have HR1 := Lib.hid hr1
        have HE1 := Lib.hid (ruAt_new w1 r A n c 26)
        unfold ruV at HE1
        clear hr1
        go_wp2_with fail
        refine (HM.out _).mono ?_
        rintro e' w2 ⟨A2, n2, c2, rfl, hr2, hn64', hn0', hb2⟩
        obtain rfl : n2 = n := by
          funext k
          by_cases hk : k < 5 ∨ 10 < k
          · rw [hn0 k hk, hn0' k hk]
          · obtain rfl | rfl | rfl | rfl | rfl | rfl : k = 5 ∨ k = 6 ∨ k = 7 ∨ k = 8 ∨ k = 9 ∨ k = 10 := by omega
            · exact hr2.mo.1.symm.trans HR1.out.mo.1
            · exact hr2.da.1.symm.trans HR1.out.da.1
            · exact hr2.wk.1.symm.trans HR1.out.wk.1
            · exact hr2.ho.1.symm.trans HR1.out.ho.1
            · exact hr2.mi.1.symm.trans HR1.out.mi.1
            · exact hr2.se.1.symm.trans HR1.out.se.1
        have hbA : Below w1.heap.size w1 w2 := ((Below.refl _ w1).alloc (Nat.le_refl _) _).trans (hb2.mono (by simp))
        have HE2 := Lib.hid (HE1.out.below hb2)
        have hb3 : Below w.heap.size w w2 := bthen hb1 hbA hz1
        have HR2 := Lib.hid (HR1.out.below hbA)
        have HT2 := Lib.hid hr2
        have HF2 := Lib.hid (ruAt_new w2 r A2 n2 c2 26)
        clear hb2 HE1 hr2 hbA
        have hz3 := hb3.size
        go_wp2_with fail
        refine (HS.out _).mono ?_
        rintro e' w3 ⟨rfl, hb4⟩
        have hbB : Below w2.heap.size w2 w3 := ((Below.refl _ w2).alloc (Nat.le_refl _) _).trans (hb4.mono (by simp))
        have HE3 := Lib.hid (HE2.out.below hbB)
        have HF3 := Lib.hid (HF2.out.below hb4)
        have hb5 : Below w.heap.size w w3 := bthen hb3 hbB hz3
        have HR3 := Lib.hid (HR2.out.below hbB)
        have HT3 := Lib.hid (HT2.out.below hbB)
        clear hb4 HE2 HF2 HR2 HT2 hbB HR1
        have hz5 := hb5.size
        have HE4 := Lib.hid (HE3.out.below ((Below.refl _ w3).alloc (Nat.le_refl _) (.cells #[.int .i64 0, .int .i64 0, .int .i64 0, .int .i64 0, .int .i64 0, .slice none 0 0, .slice none 0 0, .slice none 0 0, .slice none 0 0, .slice none 0 0, .slice none 0 0] 26)))
        have HF4 := Lib.hid (HF3.out.below ((Below.refl _ w3).alloc (Nat.le_refl _) (.cells #[.int .i64 0, .int .i64 0, .int .i64 0, .int .i64 0, .int .i64 0, .slice none 0 0, .slice none 0 0, .slice none 0 0, .slice none 0 0, .slice none 0 0, .slice none 0 0] 26)))
        obtain ⟨x0, x1, x2, x3, x4, x5, x6, x7, x8, x9, x10⟩ := HE4.out
        obtain ⟨y0, y1, y2, y3, y4, y5, y6, y7, y8, y9, y10⟩ := HF4.out
        have HSm := Lib.hid (fun W (hb : Below w3.heap.size w3 W) => HSame.out A A2 n2 c c2 W (HR3.out.below hb) (HT3.out.below hb) (fun k => by have := hn64 k; omega))
        clear HE3 HF3 HE4 HF4
        go_wp2_with fail
        refine (HSm.out _ ((Below.refl _ w3).alloc (Nat.le_refl _) _)).mono ?_
        rintro e' w4 ⟨rfl, hb6⟩
        have hb7 : Below w.heap.size w w4 := bthen (hb5.alloc hz5 _) hb6 (by simp; omega)
        clear hb6 x0 x1 x2 x3 x4 x5 x6 x7 x8 x9 x10 y0 y1 y2 y3 y4 y5 y6 y7 y8 y9 y10
        go_wp2_with fail
        refine (HV.out _).mono ?_
        rintro e' w5 ⟨rfl, hb8⟩
        go_wp2
        go_ret
        exact ⟨rfl, bthen hb7 hb8 hb7.size⟩
end Go.Proofs.YtnelecjjbmjhaaaGreat
