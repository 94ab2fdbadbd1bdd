/- The walks of package feriaref25: Read, plain. -/
import Derived.Test.YtpfcgjneeboamaaDoorWRef25l
import Derived.BigRegion
namespace Go.Proofs.YtpfcgjneeboamaaDoor
open Go.RowKit
set_option linter.unusedSimpArgs false
set_option linter.unusedVariables false

section
variable (s : ByteArray) (hs : s.size ≤ 1000000) (w : World)
include hs
set_option maxHeartbeats 8000000 in
theorem rread_plain (hd : doneP (someP blankP (newP s)).1 = false) (h64 : peekP (someP blankP (newP s)).1 ≠ 64) : Calls Tryd.prog 6 #[.string s] w (RetRef s (rLast s) (fun f => (rListR s.size f (rAt s.size (rHead s) f)).2) w) := by
  have hH : rHead s = (someP blankP (newP s)).1 := by unfold rHead; rw [if_neg (fun h => h64 h.2)]
  obtain ⟨lf, sm, mu, bl, mv, T5, b5, H⟩ := rr_all s hs
  have h00 : rAt s.size (rHead s) 0 = (someP blankP (newP s)).1 := hH
  generalize (fun f => (rListR s.size f (rAt s.size (rHead s) f)).2) = F at *
  generalize rAt s.size (rHead s) = st at *
  generalize rLast s = E at *
  have HNw := Lib.hid (fun W => new_rf s hs W)
  have h0 := ofR_new s
  have HSo := Lib.hid (fun W => some_rf s hs (newP s) h0 W 0)
  have h1 := ofR_some h0 blankP
  have HDo := Lib.hid (fun W => done_rf s (someP blankP (newP s)).1 h1 W)
  rw [show clsP 0 = blankP from rfl] at HSo
  obtain ⟨k, hk, hl, ha⟩ := h1.at_
  rw [hd] at HDo
  have H1 := Lib.hid H
  have hlt : k < s.size := by
    have h2 : ¬ doneP (someP blankP (newP s)).1 = true := by rw [hd]; simp
    unfold doneP at h2
    rw [decide_eq_true_eq, not_or, hl, List.drop_eq_nil_iff, len_data] at h2
    omega
  have hk' : (k : Int) < (s.size : Int) := by omega
  have hpk : peekP (someP blankP (newP s)).1 = (s[k].toNat : Int) := by
    have he : (someP blankP (newP s)).1.e = 0 := by
      have h2 : ¬ doneP (someP blankP (newP s)).1 = true := by rw [hd]; simp
      unfold doneP at h2
      rw [decide_eq_true_eq, not_or, Decidable.not_not] at h2
      exact h2.1
    unfold peekP
    rw [if_pos he, hl, drop_cons s k hlt]
    rfl
  rw [hpk] at h64
  have hc : ((s[k].toNat : Int) == 64) = false := by simpa using h64
  have H01 := Lib.hid h00
  clear hH H h00 h64 hpk
  unfold tupR rvP rV at *
  rw [ha] at HSo HDo
  generalize (someP blankP (newP s)).2 = b0 at *
  generalize (someP blankP (newP s)).1 = T at *
  generalize newP s = N0 at *
  generalize atP s.size N0 = jN at *
  have HAT := Lib.hid ha
  clear hl ha h0 h1 hk hd
  go_enter Tryd.func6, Tryd.ntmps6
  go_wp2_with fail
  refine (HNw.out _).mono ?_
  rintro e w1 ⟨rfl, hb1⟩
  have hbS1 : Below w.heap.size w w1 := ((Below.refl _ w).alloc (Nat.le_refl _) _).trans (hb1.mono (by simp))
  have HR1 := Lib.hid ((arr5_new w 25 (.slice none 0 0) (.slice none 0 0) (.slice none 0 0) (.slice none 0 0) (.slice none 0 0) nil5 rfl rfl rfl rfl rfl).below (by simp) hb1)
  have hzw1 : w.heap.size < w1.heap.size := Arr.lt HR1.out (by decide)
  clear hb1 HNw
  go_wp2_with fail
  generalize hW : World.alloc w1 _ = W2
  have HP2 : Hid (RvAt W2 w1.heap.size s jN N0.a N0.e) := by show RvAt _ _ _ _ _ _; rw [← hW]; exact rvAt_new _ _ _ _ _ _
  have hbW : Below w1.heap.size w1 W2 := by rw [← hW]; exact (Below.refl _ _).alloc (Nat.le_refl _) _
  clear hW
  have HR2 := Lib.hid (Arr.below HR1.out hzw1 hbW)
  have hbS2 := bthen hbS1 hbW hbS1.size
  refine (HSo.out _).mono ?_
  rintro e w2 ⟨rfl, hb2⟩
  have HP := Lib.hid (Arr.below HP2.out (Arr.lt HP2.out (by decide)) hb2)
  have HR := Lib.hid (Arr.below HR2.out (Arr.lt HR2.out (by decide)) hb2)
  have hb := bthen hbS2 hb2 hbS2.size
  clear HSo HP2 HR2 hbS1 hbS2 hbW hb2 HR1
  generalize w1.heap.size = b1 at *
  obtain ⟨p0, p1, p2, p3, pf⟩ := RvAt.cells HP.out
  have zP := Arr.lt HP.out (by decide)
  go_wp2_with fail
  generalize hW : World.setCell _ _ _ = W5
  obtain ⟨hP5, hs5, g5⟩ := rr_store s HP.out hW
  clear hW
  replace HP := Lib.hid hP5
  replace HR := Lib.hid (Arr.chg HR.out (by decide) g5 (by omega))
  replace hb := Chg.below hb g5 (by omega) hb.size
  clear hP5
  clear hs5 g5 p0 p1 p2 p3 pf zP
  refine (HDo.out _).mono ?_
  rintro e w3 ⟨rfl, hb3⟩
  replace HP := Lib.hid (Arr.below HP.out (Arr.lt HP.out (by decide)) hb3)
  replace HR := Lib.hid (Arr.below HR.out (Arr.lt HR.out (by decide)) hb3)
  replace hb := bthen hb hb3 hb.size
  clear hb3 HDo
  obtain ⟨p0, p1, p2, p3, pf⟩ := RvAt.cells HP.out
  have zP := Arr.lt HP.out (by decide)
  go_wp2_with fail
  have HJ0 : Hid (atP s.size (st 0) = k ∧ (st 0).a = T.a ∧ (st 0).e = T.e) := by show _ ∧ _; rw [H01.out]; exact ⟨HAT.out, rfl, rfl⟩
  clear H01 HAT p0 p1 p2 p3 pf zP
  have HC0 := Lib.hid (arr5_new w3 56 (.slice none 0 0) (.slice none 0 0) (.slice none 0 0) (.slice none 0 0) (.slice none 0 0) (slAt (fun _ => none) (fun _ => 0) (fun _ => 0)) rfl rfl rfl rfl rfl)
  generalize hW : World.alloc w3 _ = W4
  rw [hW] at HC0
  have hbW : Below w3.heap.size w3 W4 := by rw [← hW]; exact (Below.refl _ _).alloc (Nat.le_refl _) _
  clear hW
  have zP3 := Arr.lt HP.out (by decide)
  have zC0 := Arr.lt HC0.out (by decide)
  replace HP := Lib.hid (Arr.below HP.out (Arr.lt HP.out (by decide)) hbW)
  replace HR := Lib.hid (Arr.below HR.out (Arr.lt HR.out (by decide)) hbW)
  replace hb := bthen hb hbW hb.size
  clear hbW
  go_loopg [7] 5 (fun gg i wr => ∃ (f m0 : Nat) (A : Nat → Option Addr) (n c : Nat → Nat), gg = m0 ∧ f + m0 = 5 ∧ i = .int .i64 f ∧ Hid (RvAt wr b1 s (atP s.size (st f)) (st f).a (st f).e) ∧ Hid (Arr wr w3.heap.size 5 (slAt A n c)) ∧ Hid (∀ j, j < f → OwnIts wr (w3.heap.size + 1) (slAt A n c j) (F j)) ∧ Hid (Arr wr w.heap.size 5 nil5) ∧ Below w.heap.size w wr)
  case atStart =>
    refine ⟨0, 5, fun _ => none, fun _ => 0, fun _ => 0, rfl, rfl, rfl, ?_, HC0.out, fun j hj => absurd hj (Nat.not_lt_zero _), HR.out, hb⟩
    rw [HJ0.out.1, HJ0.out.2.1, HJ0.out.2.2]
    exact HP.out
  case round =>
    clear HJ0 HC0 HP HR hb zC0
    obtain ⟨f, m0, A, n, c, hgm, hf5, rfl, HP, HC, HO, HR, hb⟩ := hrel
    have hsz := hb.size
    have zC := Arr.lt HC.out (by decide)
    have zR := Arr.lt HR.out (by decide)
    by_cases h5 : f < 5
    · have h5' : (f : Int) < 5 := by omega
      have hf0 : ¬ (f : Int) < 0 := by omega
      have HLf := Lib.hid (H1.out.lis f h5)
      obtain ⟨p0, p1, p2, p3, pf⟩ := RvAt.cells HP.out
      have zP := Arr.lt HP.out (by decide)
      go_wp2_with fail
      refine (HLf.out _).mono ?_
      rintro e w4 ⟨A', n', c', rfl, hown, hb4⟩
      have HC4 := Lib.hid (Arr.below HC.out zC hb4)
      have HO4 : Hid (∀ j, j < f → OwnIts w4 (w3.heap.size + 1) (slAt A n c j) (F j)) := fun j hj => own_below (HO.out j hj) hb4
      have HN4 : Hid (OwnIts w4 (w3.heap.size + 1) (.slice A' n' c') (F f)) := own_base hown (by omega)
      replace HP := Lib.hid (Arr.below HP.out (Arr.lt HP.out (by decide)) hb4)
      replace HR := Lib.hid (Arr.below HR.out (Arr.lt HR.out (by decide)) hb4)
      replace hb := bthen hb hb4 hb.size
      have hsz4 := hb.size
      have ck := HC4.out.1 f h5
      have fk := HC4.out.2
      clear p0 p1 p2 p3 pf zP HLf hb4 hown HC HO zC zR
      obtain ⟨p0, p1, p2, p3, pf⟩ := RvAt.cells HP.out
      have zP := Arr.lt HP.out (by decide)
      have zC := Arr.lt HC4.out (by decide)
      unfold slAt at ck
      by_cases h4 : f < 4
      · have h4' : (f : Int) < 4 := by omega
        have HSm := Lib.hid (H1.out.som f h5)
        have HMu := Lib.hid (H1.out.mus f h5)
        have HNx := Lib.hid (H1.out.nxt f h4)
        go_wp2_with fail
        generalize hW : World.setCell _ _ _ = W5
        obtain ⟨hP5, hC5, hs5, gA, gO, gB⟩ := rr_storeL s HP.out HC4.out h5 zP3 hW
        clear hW
        replace HP := Lib.hid hP5
        have HC := Lib.hid hC5
        replace HR := Lib.hid (gA (by decide) (by omega) (by omega) HR.out)
        replace hb := gB _ _ hb (by omega) hb.size
        have HO : Hid (∀ j, j < f + 1 → OwnIts W5 (w3.heap.size + 1) (slAt (upd A f A') (upd n f n') (upd c f c') j) (F j)) := fun j hj => by
          by_cases e : j = f
          · subst e
            rw [slAt_upd]
            exact gO (by omega) HN4.out
          · rw [slAt_ne e]
            exact gO (by omega) (HO4.out j (by omega))
        clear hP5 hC5 hs5 gA gO gB HC4 HN4 HO4 p0 p1 p2 p3 pf zP zC ck fk
        refine (HSm.out _).mono ?_
        rintro e w5 ⟨rfl, hb5⟩
        replace HC := Lib.hid (Arr.below HC.out (Arr.lt HC.out (by decide)) hb5)
        replace HO : Hid (∀ j, j < f + 1 → OwnIts w5 (w3.heap.size + 1) (slAt (upd A f A') (upd n f n') (upd c f c') j) (F j)) := fun j hj => own_below (HO.out j hj) hb5
        replace HP := Lib.hid (Arr.below HP.out (Arr.lt HP.out (by decide)) hb5)
        replace HR := Lib.hid (Arr.below HR.out (Arr.lt HR.out (by decide)) hb5)
        replace hb := bthen hb hb5 hb.size
        clear hb5 HSm
        obtain ⟨p0, p1, p2, p3, pf⟩ := RvAt.cells HP.out
        have zP := Arr.lt HP.out (by decide)
        have hszA := hb.size
        by_cases hbl : bl f = []
        · have hse : (strB (bl f)).toList.isEmpty = true := by rw [ByteArray.toList_eq, strB_data, hbl]; rfl
          have HE : Hid (st (f + 1) = mu f) := by show _ = _; rw [HNx.out, if_pos hbl]
          clear hbl HNx
          go_wp2_with fail
          generalize hW : World.alloc _ _ = W6
          have hN0 := rvAt_new w5 s (atP s.size (sm f)) (sm f).a (sm f).e 50
          have hc : W6.cell? ⟨w5.heap.size + 1, 0, none⟩ = some (.int .u8 ((32 : UInt8).toNat : Int)) := by rw [← hW]; exact cell_new (by simp) rfl
          have hbW : Below w5.heap.size w5 W6 := by rw [← hW]; exact ((Below.refl _ w5).alloc (Nat.le_refl _) _).alloc (by simp) _
          have hN1 : RvAt W6 w5.heap.size s (atP s.size (sm f)) (sm f).a (sm f).e := by rw [← hW]; exact Arr.alloc hN0 (Arr.lt hN0 (by decide)) _
          clear hW hN0
          refine (HMu.out W6 _ hc).mono ?_
          rintro e w6 ⟨rfl, hb6⟩
          have hb7 : Below w5.heap.size w5 w6 := bthen hbW hb6 hbW.size
          have HN := Lib.hid (Arr.below hN1 (Arr.lt hN1 (by decide)) hb6)
          have HP6 := Lib.hid (Arr.below HP.out zP hb7)
          have zPo : b1 < w5.heap.size := zP
          clear p0 p1 p2 p3 pf zP hb6 hN1 hbW hc HMu
          obtain ⟨p0, p1, p2, p3, pf⟩ := RvAt.cells HP6.out
          obtain ⟨n0, n1, n2, n3, nf⟩ := RvAt.cells HN.out
          have zP := Arr.lt HP6.out (by decide)
          have zN := Arr.lt HN.out (by decide)
          go_wp2
          generalize hW : World.setCell _ _ _ = W7
          obtain ⟨hP7, V, hbV, gV, hs7⟩ := rr_next s hb7 HP.out hW
          clear hW p0 p1 p2 p3 pf zP n0 n1 n2 n3 nf zN
          go_roundg (m0 - 1)
          case measure => omega
          case rel =>
            refine ⟨f + 1, m0 - 1, upd A f A', upd n f n', upd c f c', rfl, by omega, by go_num, ?_, Arr.chg (Arr.below HC.out (Arr.lt HC.out (by decide)) hbV) (by decide) gV (by omega), fun j hj => own_chg (own_below (HO.out j hj) hbV) gV (by omega), Arr.chg (Arr.below HR.out (Arr.lt HR.out (by decide)) hbV) (by decide) gV (by omega), Chg.below (bthen hb hbV hszA) gV (by omega) (by have := hbV.size; omega)⟩
            rw [HE.out]
            exact hP7
        · have hse : (strB (bl f)).toList.isEmpty = false := by
            rw [ByteArray.toList_eq, strB_data]
            cases hq : bl f with
            | nil => exact absurd hq hbl
            | cons x l => rfl
          have HE : Hid (st (f + 1) = sm f) := by show _ = _; rw [HNx.out, if_neg hbl]
          clear hbl HNx HMu
          go_wp2
          generalize hW : World.setCell _ _ _ = W7
          obtain ⟨hP7, hs7, g7⟩ := rr_store s HP.out hW
          clear hW p0 p1 p2 p3 pf zP
          have hbA : Below W7.heap.size W7 (W7.alloc (.cells #[.string s, .int .i64 (atP s.size (sm f)), .int .i64 (sm f).a, .int .i64 (sm f).e] 50)) := (Below.refl _ _).alloc (Nat.le_refl _) _
          go_roundg (m0 - 1)
          case measure => omega
          case rel =>
            refine ⟨f + 1, m0 - 1, upd A f A', upd n f n', upd c f c', rfl, by omega, by go_num, ?_, Arr.below (Arr.chg HC.out (by decide) g7 (by omega)) (by have := Arr.lt HC.out (by decide); omega) hbA, fun j hj => own_below (own_chg (HO.out j hj) g7 (by omega)) hbA, Arr.below (Arr.chg HR.out (by decide) g7 (by omega)) (by have := Arr.lt HR.out (by decide); omega) hbA, bthen (Chg.below hb g7 (by omega) hszA) hbA (by omega)⟩
            rw [HE.out]
            exact Arr.below hP7 (Arr.lt hP7 (by decide)) hbA
      · have h4' : ¬ (f : Int) < 4 := by omega
        have HE : Hid (st (f + 1) = lf f) := by
          obtain rfl : f = 4 := by omega
          exact H1.out.las
        go_wp2
        generalize hW : World.setCell _ _ _ = W5
        obtain ⟨hP5, hC5, hs5, gA, gO, gB⟩ := rr_storeL s HP.out HC4.out h5 zP3 hW
        clear hW
        replace HP := Lib.hid hP5
        have HC := Lib.hid hC5
        replace HR := Lib.hid (gA (by decide) (by omega) (by omega) HR.out)
        replace hb := gB _ _ hb (by omega) hb.size
        have HO : Hid (∀ j, j < f + 1 → OwnIts W5 (w3.heap.size + 1) (slAt (upd A f A') (upd n f n') (upd c f c') j) (F j)) := fun j hj => by
          by_cases e : j = f
          · subst e
            rw [slAt_upd]
            exact gO (by omega) HN4.out
          · rw [slAt_ne e]
            exact gO (by omega) (HO4.out j (by omega))
        clear hP5 hC5 hs5 gA gO gB HC4 HN4 HO4 p0 p1 p2 p3 pf zP zC ck fk
        go_roundg (m0 - 1)
        case measure => omega
        case rel =>
          refine ⟨f + 1, m0 - 1, upd A f A', upd n f n', upd c f c', rfl, by omega, by go_num, ?_, HC.out, HO.out, HR.out, hb⟩
          rw [HE.out]
          exact HP.out
    · obtain rfl : f = 5 := by omega
      have HS5 := Lib.hid H1.out.som5
      have HEn := Lib.hid H1.out.end_
      clear H1 hgm hf5 h5
      obtain ⟨p0, p1, p2, p3, pf⟩ := RvAt.cells HP.out
      have zP := Arr.lt HP.out (by decide)
      go_wp2_with fail
      refine (HS5.out _).mono ?_
      rintro e w4 ⟨rfl, hb4⟩
      replace HC := Lib.hid (Arr.below HC.out (Arr.lt HC.out (by decide)) hb4)
      replace HO : Hid (∀ j, j < 5 → OwnIts w4 (w3.heap.size + 1) (slAt A n c j) (F j)) := fun j hj => own_below (HO.out j hj) hb4
      replace HP := Lib.hid (Arr.below HP.out (Arr.lt HP.out (by decide)) hb4)
      replace HR := Lib.hid (Arr.below HR.out (Arr.lt HR.out (by decide)) hb4)
      replace hb := bthen hb hb4 hb.size
      clear hb4 HS5 p0 p1 p2 p3 pf zP
      obtain ⟨p0, p1, p2, p3, pf⟩ := RvAt.cells HP.out
      have zP := Arr.lt HP.out (by decide)
      go_wp2_with fail
      generalize hW : World.setCell _ _ _ = W5
      obtain ⟨hP5, hs5, g5⟩ := rr_store s HP.out hW
      clear hW p0 p1 p2 p3 pf zP
      replace HP := Lib.hid hP5
      replace HC := Lib.hid (Arr.chg HC.out (by decide) g5 (by omega))
      replace HO : Hid (∀ j, j < 5 → OwnIts W5 (w3.heap.size + 1) (slAt A n c j) (F j)) := fun j hj => own_chg (HO.out j hj) g5 (by omega)
      replace HR := Lib.hid (Arr.chg HR.out (by decide) g5 (by omega))
      replace hb := Chg.below hb g5 (by omega) hb.size
      clear hP5 hs5 g5
      refine (HEn.out _).mono ?_
      rintro e w6 ⟨rfl, hb6⟩
      replace HC := Lib.hid (Arr.below HC.out (Arr.lt HC.out (by decide)) hb6)
      replace HO : Hid (∀ j, j < 5 → OwnIts w6 (w3.heap.size + 1) (slAt A n c j) (F j)) := fun j hj => own_below (HO.out j hj) hb6
      replace HP := Lib.hid (Arr.below HP.out (Arr.lt HP.out (by decide)) hb6)
      replace HR := Lib.hid (Arr.below HR.out (Arr.lt HR.out (by decide)) hb6)
      replace hb := bthen hb hb6 hb.size
      clear hb6 HEn
      obtain ⟨p0, p1, p2, p3, pf⟩ := RvAt.cells HP.out
      have zP := Arr.lt HP.out (by decide)
      by_cases hE : E.e = 0
      · have he' : (E.e != 0) = false := by simpa using hE
        have HE0 := Lib.hid hE
        clear hE
        go_wp2_with fail
        generalize hW : World.setCell _ _ _ = W5
        obtain ⟨hP5, hs5, g5⟩ := rr_store s HP.out hW
        clear hW p0 p1 p2 p3 pf zP
        replace HP := Lib.hid hP5
        replace HC := Lib.hid (Arr.chg HC.out (by decide) g5 (by omega))
        replace HO : Hid (∀ j, j < 5 → OwnIts W5 (w3.heap.size + 1) (slAt A n c j) (F j)) := fun j hj => own_chg (HO.out j hj) g5 (by omega)
        replace HR := Lib.hid (Arr.chg HR.out (by decide) g5 (by omega))
        replace hb := Chg.below hb g5 (by omega) hb.size
        clear hP5 hs5 g5
        obtain ⟨p0, p1, p2, p3, pf⟩ := RvAt.cells HP.out
        have zP := Arr.lt HP.out (by decide)
        obtain ⟨x0, x1, x2, x3, x4, xf⟩ := arr5 HC.out
        obtain ⟨y0, y1, y2, y3, y4, yf⟩ := arr5 HR.out
        have zC := Arr.lt HC.out (by decide)
        have zR := Arr.lt HR.out (by decide)
        unfold slAt at x0 x1 x2 x3 x4
        unfold nil5 at y0 y1 y2 y3 y4
        go_wp2
        go_region
        all_goals (try simp only [Exit.then])
        all_goals (try go_wp2)
        all_goals refine bodyPost_ret (v := .tuple #[crV A n c, .int .i64 (atP s.size E), .int .i64 0]) ?_ rfl ⟨?_, .inl ⟨A, n, c, HE0.out, rfl, fun k hk => ?_⟩⟩
        all_goals first
          | (rw [results_cell2 rfl]; go_simp; done)
          | ((repeat' (first | (with_reducible exact Below.refl _ _) | (with_reducible assumption) | (with_reducible refine below_drewN ?_ _) | (with_reducible refine Below.alloc ?_ ?_ _) | (with_reducible refine Below.drew ?_) | (with_reducible refine Below.setCell ?_ ?_ _) | go_size)); done)
          | (show World.ownsRow _ _ _ _ _ _ _; refine own_base (B := w3.heap.size + 1) ?_ (by omega); exact own_far (HO.out k hk) (by omega))
      · have he' : (E.e != 0) = true := by simpa using hE
        have HE0 := Lib.hid hE
        clear hE
        go_wp2_with fail
        generalize hW : World.setCell _ _ _ = W5
        obtain ⟨hP5, hs5, g5⟩ := rr_store s HP.out hW
        clear hW p0 p1 p2 p3 pf zP
        replace HP := Lib.hid hP5
        replace HC := Lib.hid (Arr.chg HC.out (by decide) g5 (by omega))
        replace HO : Hid (∀ j, j < 5 → OwnIts W5 (w3.heap.size + 1) (slAt A n c j) (F j)) := fun j hj => own_chg (HO.out j hj) g5 (by omega)
        replace HR := Lib.hid (Arr.chg HR.out (by decide) g5 (by omega))
        replace hb := Chg.below hb g5 (by omega) hb.size
        clear hP5 hs5 g5
        obtain ⟨p0, p1, p2, p3, pf⟩ := RvAt.cells HP.out
        have zP := Arr.lt HP.out (by decide)
        obtain ⟨y0, y1, y2, y3, y4, yf⟩ := arr5 HR.out
        have zR := Arr.lt HR.out (by decide)
        unfold nil5 at y0 y1 y2 y3 y4
        go_wp2
        go_region
        all_goals (try simp only [Exit.then])
        all_goals (try go_wp2)
        all_goals refine bodyPost_ret (v := .tuple #[crV (fun _ => none) (fun _ => 0) (fun _ => 0), .int .i64 E.a, .int .i64 E.e]) ?_ rfl ⟨?_, .inr ⟨HE0.out, rfl⟩⟩
        all_goals first
          | (rw [results_cell2 rfl]; go_simp; done)
          | ((repeat' (first | (with_reducible exact Below.refl _ _) | (with_reducible assumption) | (with_reducible refine below_drewN ?_ _) | (with_reducible refine Below.alloc ?_ ?_ _) | (with_reducible refine Below.drew ?_) | (with_reducible refine Below.setCell ?_ ?_ _) | go_size)); done)
end
end Go.Proofs.YtpfcgjneeboamaaDoor
