/- The walk of package calread's words, at a text that begins with a letter. -/
import Derived.Test.YtochhmkdhdadhaaGreatWCalJ
import Derived.Test.YtochhmkdhdadhaaGreatWAny
import Derived.StillTailTactics
/- The walks of package calread's reader: the words behind the weekdays. -/
namespace Go.Proofs.YtochhmkdhdadhaaGreat
open Go.RowKit
set_option linter.unusedSimpArgs false
set_option linter.unusedVariables false

section
variable {w w' : World} {b C B : Nat} {s : ByteArray} {σ : PS} {c : CalV}
theorem cal_drewN {q : Nat} (h : CalAt w C B c) : CalAt (w.drewN q) C B c := h
theorem cal_drew (h : CalAt w C B c) : CalAt w.drew C B c := h
theorem Chg2.drewN2 (h : Chg2 b C w w') (q : Nat) : Chg2 b C w (w'.drewN q) := ⟨h.os, h.tape, h.output, h.size, h.block⟩
theorem Chg2.drew1 (h : Chg2 b C w w') : Chg2 b C w w'.drew := ⟨h.os, h.tape, h.output, h.size, h.block⟩
theorem MaxAt.chg2 (h : MaxAt w) (hr : RdP w b s σ) (hc : CalAt w C B c) (hg : Chg2 b C w w') : MaxAt w' := by
  obtain ⟨m, hm⟩ := h
  obtain ⟨k, _, _, hk⟩ := hr
  obtain ⟨g, h1, _, h3⟩ := hc
  have hne : 0 ≠ b := by
    rintro rfl
    rw [hk.cells.1] at hm; cases hm
  have hnC : 0 ≠ C := by
    rintro rfl
    rw [h1.1 0 (by decide)] at hm
    obtain ⟨A, n, cp, he⟩ := own_slice (h3 0 (by decide) (by decide)).1
    rw [he] at hm; cases hm
  exact ⟨m, hg.cell hne hnC hm⟩
theorem kwords_stops {N q : Nat} {date time : Bool} {c : CalV} {σ : PS} (h : peekP σ = 0 ∨ ltrI (peekP σ) = true ∨ time = true ∨ (date = true ∧ dashed (wordP σ) = true)) : kwordsP N q date time c σ = (kstopP N σ, c) := by
  cases q with
  | zero => rfl
  | succ q => rw [kwordsP, if_pos h]
theorem kwords_dates {N q : Nat} {date : Bool} {c : CalV} {σ : PS} (h : ¬ (peekP σ = 0 ∨ ltrI (peekP σ) = true ∨ false = true ∨ (date = true ∧ dashed (wordP σ) = true))) (hd : dashed (wordP σ) = true) : kwordsP N (q + 1) date false c σ =
    if (knextP N (kdateP N c σ).1).2 then kwordsP N q true false (kdateP N c σ).2 (knextP N (kdateP N c σ).1).1 else ((knextP N (kdateP N c σ).1).1, (kdateP N c σ).2) := by
  rw [kwordsP, if_neg h, if_pos hd]
theorem kwords_times {N q : Nat} {date : Bool} {c : CalV} {σ : PS} (h : ¬ (peekP σ = 0 ∨ ltrI (peekP σ) = true ∨ false = true ∨ (date = true ∧ dashed (wordP σ) = true))) (hd : dashed (wordP σ) = false) : kwordsP N (q + 1) date false c σ =
    if (knextP N (ktimeP N c σ).1).2 then kwordsP N q date true (ktimeP N c σ).2 (knextP N (ktimeP N c σ).1).1 else ((knextP N (ktimeP N c σ).1).1, (ktimeP N c σ).2) := by
  rw [kwordsP, if_neg h, if_neg (by rw [hd]; decide)]
end
end Go.Proofs.YtochhmkdhdadhaaGreat

/- The walk of package calread's words. -/
namespace Go.Proofs.YtochhmkdhdadhaaGreat
open Go.RowKit
set_option linter.unusedSimpArgs false
set_option linter.unusedVariables false

/-- How the reading of words stands: the reader, the event, the reader's box, what has turned since w0. -/
structure WS (w0 : World) (b C B : Nat) (s : ByteArray) (σ : PS) (c : CalV) (W : World) : Prop where
  rd : RdP W b s σ
  cal : CalAt W C B c
  box : KBox W w0.heap.size b s
  chg : Chg2 b C w0 W
  mx : MaxAt W
  hCb : C ≠ b
  hCB : C < B
  hbB : b < B
  hne : w0.heap.size ≠ b
  hneC : w0.heap.size ≠ C
section
variable {w0 W W' : World} {b C B : Nat} {s : ByteArray} {σ σ' : PS} {c c' : CalV}
theorem WS.step (h : WS w0 b C B s σ c W) (hr : RdP W' b s σ') (g : Chg b W W') : WS w0 b C B s σ' c W' :=
  ⟨hr, h.cal.chg g h.hCb h.hbB, h.box.chg g h.hne, h.chg.then g, h.mx.chg h.rd g, h.hCb, h.hCB, h.hbB, h.hne, h.hneC⟩
theorem WS.below (h : WS w0 b C B s σ c W) (hb : Below W.heap.size W W') : WS w0 b C B s σ c W' := h.step (h.rd.below hb) (Chg.of_below hb)
theorem WS.two (h : WS w0 b C B s σ c W) (hr : RdP W' b s σ') (hc : CalAt W' C B c') (g : Chg2 b C W W') : WS w0 b C B s σ' c' W' :=
  ⟨hr, hc, ⟨g.cell h.hne h.hneC h.box.1, g.cell h.hne h.hneC h.box.2⟩, h.chg.trans g, h.mx.chg2 h.rd h.cal g, h.hCb, h.hCB, h.hbB, h.hne, h.hneC⟩
theorem WS.drewN (h : WS w0 b C B s σ c W) (q : Nat) : WS w0 b C B s σ c (W.drewN q) := h.step (h.rd.drewN q) ((Chg.refl b W).drewN q)
theorem WS.size (h : WS w0 b C B s σ c W) : w0.heap.size ≤ W.heap.size := h.chg.size
theorem WS.word (h : WS w0 b C B s σ c W) (hs : s.size ≤ 1000000) : (wordP σ).length ≤ 1000000 := by
  have h1 := h.rd.len
  unfold wordP
  split
  · have h2 : (σ.l.takeWhile (fun c => decide (c ≠ 32))).length ≤ σ.l.length := (List.takeWhile_prefix _).length_le
    omega
  · simp
/-- The list in the event's cell j is another one. -/
theorem WS.setL (h : WS w0 b C B s σ c W) (j : Nat) (hj : j < 8) (h4 : j ≠ 4) (v : Value) (hv : OwnIts W B v (calL c' j)) (hL : calL c' j ≠ []) (ho : ∀ k, k < 8 → k ≠ j → calL c' k = calL c k) (hb : c'.back = c.back) : WS w0 b C B s σ c' (W.setCell ⟨C, j, none⟩ v) :=
  h.two (h.rd.set h.hCb v) (h.cal.setL h.hCB j hj h4 v hv hL ho hb) (((Chg.refl b W).two C).set j v)
end
set_option maxRecDepth 20000 in
set_option maxHeartbeats 4000000 in
theorem words_ks {w : World} {b C B : Nat} {s : ByteArray} {σ : PS} (hs : s.size ≤ 1000000) (h : RdP w b s σ) (hc : CalAt w C B calNil) (hm : MaxAt w) (hCb : C ≠ b) (hCB : C < B) (hbB : b < B) (hB : B ≤ w.heap.size) (hlet : ltrI (peekP σ) = false) :
    Calls Tryz.prog 45 #[kV b s, .pointer (some ⟨C, 0, none⟩)] w (RetC (.tuple #[]) b C B s (kallP s.size σ).1 (kallP s.size σ).2 w) := by
  have hlt := h.lt
  have hCl := hc.lt
  have HW0 : Hid (WS w b C B s σ calNil (w.alloc (.cells #[.pointer (some ⟨b, 0, none⟩), .string s] 82))) :=
    ⟨h.alloc _, hc.alloc _, kbox_new _ _ _ _, ((Chg.refl b w).two C).alloc _, hm.below ((Below.refl _ w).alloc (Nat.le_refl _) _), hCb, hCB, hbB, by omega, by omega⟩
  have HR : Hid (kallP s.size σ = kwordsP s.size 2 false false calNil σ) := by
    show _ = _
    unfold kallP; rw [hlet, if_neg (by decide)]
  generalize kallP s.size σ = R at *
  have HPk := Lib.hid (fun W σ (h : RdP W b s σ) => peek_pp h)
  have HAt := Lib.hid (fun W σ (h : RdP W b s σ) => at_ps h)
  have HFl := Lib.hid (fun W σ p q (h : RdP W b s σ) => fail_ps p q h)
  have HNx := Lib.hid (fun W σ (h : RdP W b s σ) => next_ks hs h)
  have HWd := Lib.hid (fun W σ (h : RdP W b s σ) (hm : MaxAt W) => word_ks hs h hm)
  have HDt := Lib.hid (fun W σ c (h : RdP W b s σ) (hc : CalAt W C B c) (hm : MaxAt W) (hB : B ≤ W.heap.size) => date_ks hs h hc hm hCb hCB hbB hB)
  have HTm := Lib.hid (fun W σ c (h : RdP W b s σ) (hc : CalAt W C B c) (hB : B ≤ W.heap.size) => time_ks hs h hc hCb hCB hbB hB)
  clear h hc hm
  have HP0 := Lib.hid (HPk.out)
  go_enter Tryz.func45, Tryz.ntmps45
  go_wp2
  go_step3
  go_wp2_with fail
  refine (HPk.out _ _ HW0.out.rd).mono ?_
  rintro e w1 ⟨rfl, h1, g1⟩
  have HS1 := Lib.hid (HW0.out.step h1 g1)
  go_wp2_with fail
  refine (kletter_any _ _).mono ?_
  rintro e w2 ⟨rfl, rfl⟩
  go_wp2
  go_step3
  go_wp2
  go_loopg [4, 5] 2 (fun gg dv tv wr => ∃ (date time : Bool) (c' : CalV) (σ' : PS), dv = .bool date ∧ tv = .bool time ∧ (gg = 0 → time = true) ∧ (gg = 1 → date = true ∨ time = true) ∧ gg ≤ 2 ∧ Hid (R = kwordsP s.size gg date time c' σ') ∧ Hid (WS w b C B s σ' c' wr))
  case atStart => exact ⟨false, false, _, _, rfl, rfl, by simp, by simp, by simp, HR.out, HS1.out⟩
  case round =>
    obtain ⟨date, time, c', σ', rfl, rfl, hq0, hq1, hq2, HK, HWr⟩ := hrel
    have HAny := Lib.hid (fun W => cany_any (wordP σ') W (HWr.out.word hs))
    have hzr := HWr.out.size
    have Hq0 := Lib.hid hq0
    have Hq1 := Lib.hid hq1
    clear hq0 hq1
    by_cases hp0 : peekP σ' = 0
    · have HS : Hid (R = (kstopP s.size σ', c')) := by show _ = _; rw [HK.out, kwords_stops (.inl hp0)]
      have hp0' : (peekP σ' == 0) = true := by simpa using hp0
      clear HK hp0
      (try clear c0 c1)
      obtain ⟨c0, c1⟩ := KBox.cells2 (WS.box HWr.out)
      go_wp2_with fail
      refine (HWd.out _ _ HWr.out.rd HWr.out.mx).mono ?_
      rintro e w3 ⟨rfl, h3, g3⟩
      have HW3 := Lib.hid (HWr.out.step h3 g3)
      (try clear c0 c1)
      obtain ⟨c0, c1⟩ := KBox.cells2 (WS.box HW3.out)
      go_wp2_with fail
      refine (HAny.out _).mono ?_
      rintro e w4 ⟨rfl, hb4⟩
      have HW4 := Lib.hid (HW3.out.below hb4)
      (try clear c0 c1)
      obtain ⟨c0, c1⟩ := KBox.cells2 (WS.box HW4.out)
      go_wp2_with fail
      refine (HPk.out _ _ HW4.out.rd).mono ?_
      rintro e w5 ⟨rfl, h5, g5⟩
      have HW5 := Lib.hid (HW4.out.step h5 g5)
      clear h3 g3 hb4 h5 g5 HW3 HW4 HAny
      (try clear c0 c1)
      obtain ⟨c0, c1⟩ := KBox.cells2 (WS.box HW5.out)
      go_wp2_with fail
      refine (HPk.out _ _ (WS.rd HW5.out)).mono ?_
      rintro e wX ⟨rfl, hX, gX0⟩
      have HX := Lib.hid (WS.step HW5.out hX gX0)
      (try clear c0 c1)
      obtain ⟨c0, c1⟩ := KBox.cells2 (WS.box HX.out)
      go_wp2_with fail
      refine (kletter_any _ _).mono ?_
      rintro e wY ⟨rfl, rfl⟩
      cases hltr : ltrI (peekP σ') with
      | true =>
        have HE : Hid (R = (failP (atP s.size σ') 7 σ', c')) := by show _ = _; rw [HS.out]; unfold kstopP; rw [if_pos hltr]
        (try rw [hltr])
        clear HS hltr
        go_wp2
        go_still_tail 5, (by kernel_rfl)
        still_call ((HAt.out _ _ (by exact RdP.drew (WS.rd HX.out))).mono (fun _ _ hh => ⟨hh.1, hh.2.symm⟩))
        refine wpStill_nil ?_
        change wpList _ _ _ _ _ (World.drew _)
        go_wp2_with fail
        refine (HFl.out _ _ _ 7 (by exact RdP.drew (WS.rd HX.out))).mono ?_
        rintro e wz ⟨rfl, hz, gz⟩
        have HZ := Lib.hid ((WS.drewN HX.out 1).step hz gz)
        go_wp2
        first | go_end0 | (refine bodyPost_ret (results_none rfl _ _ _) rfl ?_)
        exact ⟨rfl, by rw [HE.out]; exact HZ.out.rd, by rw [HE.out]; exact HZ.out.cal, HZ.out.chg⟩
      | false =>
        by_cases hl : σ'.l = []
        · have hat : (atP s.size σ' == (s.size : Int)) = true := by rw [beq_iff_eq]; unfold atP; rw [hl]; simp
          have HE : Hid (R = (failP (atP s.size σ') 2 σ', c')) := by show _ = _; rw [HS.out]; unfold kstopP; rw [if_neg (by rw [hltr]; decide), if_pos hl]
          (try rw [hltr])
          clear hl HS hltr
          go_wp2
          go_quiet ((go_at_call 82; exact quietQ (HAt.out _ _ (by exact RdP.drewN (WS.rd HX.out) _))))
          have HX9 := Lib.hid (HX.out.drewN nq)
          generalize World.drewN _ nq = W9 at *
          (try clear c0 c1)
          obtain ⟨c0, c1⟩ := KBox.cells2 (WS.box HX9.out)
          go_wp2
          go_still_tail 5, (by kernel_rfl)
          still_call ((HAt.out _ _ (by exact RdP.drew (WS.rd HX9.out))).mono (fun _ _ hh => ⟨hh.1, hh.2.symm⟩))
          refine wpStill_nil ?_
          change wpList _ _ _ _ _ (World.drew _)
          go_wp2_with fail
          refine (HFl.out _ _ _ 2 (by exact RdP.drew (WS.rd HX9.out))).mono ?_
          rintro e wz ⟨rfl, hz, gz⟩
          have HZ := Lib.hid ((WS.drewN HX9.out 1).step hz gz)
          go_wp2
          first | go_end0 | (refine bodyPost_ret (results_none rfl _ _ _) rfl ?_)
          exact ⟨rfl, by rw [HE.out]; exact HZ.out.rd, by rw [HE.out]; exact HZ.out.cal, HZ.out.chg⟩
        · have hat : (atP s.size σ' == (s.size : Int)) = false := by
            rw [beq_eq_false_iff_ne]; unfold atP
            have h1 : 0 < σ'.l.length := List.length_pos_iff.2 hl
            have h2 := HX.out.rd.len
            omega
          have HE : Hid (R = (failP (atP s.size σ') 3 σ', c')) := by show _ = _; rw [HS.out]; unfold kstopP; rw [if_neg (by rw [hltr]; decide), if_neg hl]
          (try rw [hltr])
          clear hl HS hltr
          go_wp2
          go_quiet ((go_at_call 82; exact quietQ (HAt.out _ _ (by exact RdP.drewN (WS.rd HX.out) _))))
          have HX9 := Lib.hid (HX.out.drewN nq)
          generalize World.drewN _ nq = W9 at *
          (try clear c0 c1)
          obtain ⟨c0, c1⟩ := KBox.cells2 (WS.box HX9.out)
          go_wp2
          go_still_tail 5, (by kernel_rfl)
          still_call ((HAt.out _ _ (by exact RdP.drew (WS.rd HX9.out))).mono (fun _ _ hh => ⟨hh.1, hh.2.symm⟩))
          refine wpStill_nil ?_
          change wpList _ _ _ _ _ (World.drew _)
          go_wp2_with fail
          refine (HFl.out _ _ _ 3 (by exact RdP.drew (WS.rd HX9.out))).mono ?_
          rintro e wz ⟨rfl, hz, gz⟩
          have HZ := Lib.hid ((WS.drewN HX9.out 1).step hz gz)
          go_wp2
          first | go_end0 | (refine bodyPost_ret (results_none rfl _ _ _) rfl ?_)
          exact ⟨rfl, by rw [HE.out]; exact HZ.out.rd, by rw [HE.out]; exact HZ.out.cal, HZ.out.chg⟩
    · have hp0' : (peekP σ' == 0) = false := by simpa using hp0
      cases hlt2 : ltrI (peekP σ') with
      | true =>
        have HS : Hid (R = (kstopP s.size σ', c')) := by show _ = _; rw [HK.out, kwords_stops (.inr (.inl hlt2))]
        clear HK hp0
        (try clear c0 c1)
        obtain ⟨c0, c1⟩ := KBox.cells2 (WS.box HWr.out)
        go_wp2_with fail
        refine (HWd.out _ _ HWr.out.rd HWr.out.mx).mono ?_
        rintro e w3 ⟨rfl, h3, g3⟩
        have HW3 := Lib.hid (HWr.out.step h3 g3)
        (try clear c0 c1)
        obtain ⟨c0, c1⟩ := KBox.cells2 (WS.box HW3.out)
        go_wp2_with fail
        refine (HAny.out _).mono ?_
        rintro e w4 ⟨rfl, hb4⟩
        have HW4 := Lib.hid (HW3.out.below hb4)
        (try clear c0 c1)
        obtain ⟨c0, c1⟩ := KBox.cells2 (WS.box HW4.out)
        go_wp2_with fail
        refine (HPk.out _ _ HW4.out.rd).mono ?_
        rintro e w5 ⟨rfl, h5, g5⟩
        have HW5 := Lib.hid (HW4.out.step h5 g5)
        clear h3 g3 hb4 h5 g5 HW3 HW4 HAny
        (try clear c0 c1)
        obtain ⟨c0, c1⟩ := KBox.cells2 (WS.box HW5.out)
        go_wp2_with fail
        refine (HPk.out _ _ HW5.out.rd).mono ?_
        rintro e w6 ⟨rfl, h6, g6⟩
        have HW6 := Lib.hid (HW5.out.step h6 g6)
        clear h6 g6 HW5
        (try clear c0 c1)
        obtain ⟨c0, c1⟩ := KBox.cells2 (WS.box HW6.out)
        go_wp2_with fail
        refine (kletter_any _ _).mono ?_
        rintro e w7 ⟨rfl, rfl⟩
        rw [hlt2]
        clear hlt2
        go_wp2_with fail
        refine (HPk.out _ _ (WS.rd HW6.out)).mono ?_
        rintro e wX ⟨rfl, hX, gX0⟩
        have HX := Lib.hid (WS.step HW6.out hX gX0)
        (try clear c0 c1)
        obtain ⟨c0, c1⟩ := KBox.cells2 (WS.box HX.out)
        go_wp2_with fail
        refine (kletter_any _ _).mono ?_
        rintro e wY ⟨rfl, rfl⟩
        cases hltr : ltrI (peekP σ') with
        | true =>
          have HE : Hid (R = (failP (atP s.size σ') 7 σ', c')) := by show _ = _; rw [HS.out]; unfold kstopP; rw [if_pos hltr]
          (try rw [hltr])
          clear HS hltr
          go_wp2
          go_still_tail 5, (by kernel_rfl)
          still_call ((HAt.out _ _ (by exact RdP.drew (WS.rd HX.out))).mono (fun _ _ hh => ⟨hh.1, hh.2.symm⟩))
          refine wpStill_nil ?_
          change wpList _ _ _ _ _ (World.drew _)
          go_wp2_with fail
          refine (HFl.out _ _ _ 7 (by exact RdP.drew (WS.rd HX.out))).mono ?_
          rintro e wz ⟨rfl, hz, gz⟩
          have HZ := Lib.hid ((WS.drewN HX.out 1).step hz gz)
          go_wp2
          first | go_end0 | (refine bodyPost_ret (results_none rfl _ _ _) rfl ?_)
          exact ⟨rfl, by rw [HE.out]; exact HZ.out.rd, by rw [HE.out]; exact HZ.out.cal, HZ.out.chg⟩
        | false =>
          by_cases hl : σ'.l = []
          · have hat : (atP s.size σ' == (s.size : Int)) = true := by rw [beq_iff_eq]; unfold atP; rw [hl]; simp
            have HE : Hid (R = (failP (atP s.size σ') 2 σ', c')) := by show _ = _; rw [HS.out]; unfold kstopP; rw [if_neg (by rw [hltr]; decide), if_pos hl]
            (try rw [hltr])
            clear hl HS hltr
            go_wp2
            go_quiet ((go_at_call 82; exact quietQ (HAt.out _ _ (by exact RdP.drewN (WS.rd HX.out) _))))
            have HX9 := Lib.hid (HX.out.drewN nq)
            generalize World.drewN _ nq = W9 at *
            (try clear c0 c1)
            obtain ⟨c0, c1⟩ := KBox.cells2 (WS.box HX9.out)
            go_wp2
            go_still_tail 5, (by kernel_rfl)
            still_call ((HAt.out _ _ (by exact RdP.drew (WS.rd HX9.out))).mono (fun _ _ hh => ⟨hh.1, hh.2.symm⟩))
            refine wpStill_nil ?_
            change wpList _ _ _ _ _ (World.drew _)
            go_wp2_with fail
            refine (HFl.out _ _ _ 2 (by exact RdP.drew (WS.rd HX9.out))).mono ?_
            rintro e wz ⟨rfl, hz, gz⟩
            have HZ := Lib.hid ((WS.drewN HX9.out 1).step hz gz)
            go_wp2
            first | go_end0 | (refine bodyPost_ret (results_none rfl _ _ _) rfl ?_)
            exact ⟨rfl, by rw [HE.out]; exact HZ.out.rd, by rw [HE.out]; exact HZ.out.cal, HZ.out.chg⟩
          · have hat : (atP s.size σ' == (s.size : Int)) = false := by
              rw [beq_eq_false_iff_ne]; unfold atP
              have h1 : 0 < σ'.l.length := List.length_pos_iff.2 hl
              have h2 := HX.out.rd.len
              omega
            have HE : Hid (R = (failP (atP s.size σ') 3 σ', c')) := by show _ = _; rw [HS.out]; unfold kstopP; rw [if_neg (by rw [hltr]; decide), if_neg hl]
            (try rw [hltr])
            clear hl HS hltr
            go_wp2
            go_quiet ((go_at_call 82; exact quietQ (HAt.out _ _ (by exact RdP.drewN (WS.rd HX.out) _))))
            have HX9 := Lib.hid (HX.out.drewN nq)
            generalize World.drewN _ nq = W9 at *
            (try clear c0 c1)
            obtain ⟨c0, c1⟩ := KBox.cells2 (WS.box HX9.out)
            go_wp2
            go_still_tail 5, (by kernel_rfl)
            still_call ((HAt.out _ _ (by exact RdP.drew (WS.rd HX9.out))).mono (fun _ _ hh => ⟨hh.1, hh.2.symm⟩))
            refine wpStill_nil ?_
            change wpList _ _ _ _ _ (World.drew _)
            go_wp2_with fail
            refine (HFl.out _ _ _ 3 (by exact RdP.drew (WS.rd HX9.out))).mono ?_
            rintro e wz ⟨rfl, hz, gz⟩
            have HZ := Lib.hid ((WS.drewN HX9.out 1).step hz gz)
            go_wp2
            first | go_end0 | (refine bodyPost_ret (results_none rfl _ _ _) rfl ?_)
            exact ⟨rfl, by rw [HE.out]; exact HZ.out.rd, by rw [HE.out]; exact HZ.out.cal, HZ.out.chg⟩
      | false =>
        cases time with
        | true =>
          have HS : Hid (R = (kstopP s.size σ', c')) := by show _ = _; rw [HK.out, kwords_stops (.inr (.inr (.inl rfl)))]
          clear HK hp0
          (try clear c0 c1)
          obtain ⟨c0, c1⟩ := KBox.cells2 (WS.box HWr.out)
          go_wp2_with fail
          refine (HWd.out _ _ HWr.out.rd HWr.out.mx).mono ?_
          rintro e w3 ⟨rfl, h3, g3⟩
          have HW3 := Lib.hid (HWr.out.step h3 g3)
          (try clear c0 c1)
          obtain ⟨c0, c1⟩ := KBox.cells2 (WS.box HW3.out)
          go_wp2_with fail
          refine (HAny.out _).mono ?_
          rintro e w4 ⟨rfl, hb4⟩
          have HW4 := Lib.hid (HW3.out.below hb4)
          (try clear c0 c1)
          obtain ⟨c0, c1⟩ := KBox.cells2 (WS.box HW4.out)
          go_wp2_with fail
          refine (HPk.out _ _ HW4.out.rd).mono ?_
          rintro e w5 ⟨rfl, h5, g5⟩
          have HW5 := Lib.hid (HW4.out.step h5 g5)
          clear h3 g3 hb4 h5 g5 HW3 HW4 HAny
          (try clear c0 c1)
          obtain ⟨c0, c1⟩ := KBox.cells2 (WS.box HW5.out)
          go_wp2_with fail
          refine (HPk.out _ _ HW5.out.rd).mono ?_
          rintro e w6 ⟨rfl, h6, g6⟩
          have HW6 := Lib.hid (HW5.out.step h6 g6)
          clear h6 g6 HW5
          (try clear c0 c1)
          obtain ⟨c0, c1⟩ := KBox.cells2 (WS.box HW6.out)
          go_wp2_with fail
          refine (kletter_any _ _).mono ?_
          rintro e w7 ⟨rfl, rfl⟩
          rw [hlt2]
          clear hlt2
          go_wp2_with fail
          refine (HPk.out _ _ (WS.rd HW6.out)).mono ?_
          rintro e wX ⟨rfl, hX, gX0⟩
          have HX := Lib.hid (WS.step HW6.out hX gX0)
          (try clear c0 c1)
          obtain ⟨c0, c1⟩ := KBox.cells2 (WS.box HX.out)
          go_wp2_with fail
          refine (kletter_any _ _).mono ?_
          rintro e wY ⟨rfl, rfl⟩
          cases hltr : ltrI (peekP σ') with
          | true =>
            have HE : Hid (R = (failP (atP s.size σ') 7 σ', c')) := by show _ = _; rw [HS.out]; unfold kstopP; rw [if_pos hltr]
            (try rw [hltr])
            clear HS hltr
            go_wp2
            go_still_tail 5, (by kernel_rfl)
            still_call ((HAt.out _ _ (by exact RdP.drew (WS.rd HX.out))).mono (fun _ _ hh => ⟨hh.1, hh.2.symm⟩))
            refine wpStill_nil ?_
            change wpList _ _ _ _ _ (World.drew _)
            go_wp2_with fail
            refine (HFl.out _ _ _ 7 (by exact RdP.drew (WS.rd HX.out))).mono ?_
            rintro e wz ⟨rfl, hz, gz⟩
            have HZ := Lib.hid ((WS.drewN HX.out 1).step hz gz)
            go_wp2
            first | go_end0 | (refine bodyPost_ret (results_none rfl _ _ _) rfl ?_)
            exact ⟨rfl, by rw [HE.out]; exact HZ.out.rd, by rw [HE.out]; exact HZ.out.cal, HZ.out.chg⟩
          | false =>
            by_cases hl : σ'.l = []
            · have hat : (atP s.size σ' == (s.size : Int)) = true := by rw [beq_iff_eq]; unfold atP; rw [hl]; simp
              have HE : Hid (R = (failP (atP s.size σ') 2 σ', c')) := by show _ = _; rw [HS.out]; unfold kstopP; rw [if_neg (by rw [hltr]; decide), if_pos hl]
              (try rw [hltr])
              clear hl HS hltr
              go_wp2
              go_quiet ((go_at_call 82; exact quietQ (HAt.out _ _ (by exact RdP.drewN (WS.rd HX.out) _))))
              have HX9 := Lib.hid (HX.out.drewN nq)
              generalize World.drewN _ nq = W9 at *
              (try clear c0 c1)
              obtain ⟨c0, c1⟩ := KBox.cells2 (WS.box HX9.out)
              go_wp2
              go_still_tail 5, (by kernel_rfl)
              still_call ((HAt.out _ _ (by exact RdP.drew (WS.rd HX9.out))).mono (fun _ _ hh => ⟨hh.1, hh.2.symm⟩))
              refine wpStill_nil ?_
              change wpList _ _ _ _ _ (World.drew _)
              go_wp2_with fail
              refine (HFl.out _ _ _ 2 (by exact RdP.drew (WS.rd HX9.out))).mono ?_
              rintro e wz ⟨rfl, hz, gz⟩
              have HZ := Lib.hid ((WS.drewN HX9.out 1).step hz gz)
              go_wp2
              first | go_end0 | (refine bodyPost_ret (results_none rfl _ _ _) rfl ?_)
              exact ⟨rfl, by rw [HE.out]; exact HZ.out.rd, by rw [HE.out]; exact HZ.out.cal, HZ.out.chg⟩
            · have hat : (atP s.size σ' == (s.size : Int)) = false := by
                rw [beq_eq_false_iff_ne]; unfold atP
                have h1 : 0 < σ'.l.length := List.length_pos_iff.2 hl
                have h2 := HX.out.rd.len
                omega
              have HE : Hid (R = (failP (atP s.size σ') 3 σ', c')) := by show _ = _; rw [HS.out]; unfold kstopP; rw [if_neg (by rw [hltr]; decide), if_neg hl]
              (try rw [hltr])
              clear hl HS hltr
              go_wp2
              go_quiet ((go_at_call 82; exact quietQ (HAt.out _ _ (by exact RdP.drewN (WS.rd HX.out) _))))
              have HX9 := Lib.hid (HX.out.drewN nq)
              generalize World.drewN _ nq = W9 at *
              (try clear c0 c1)
              obtain ⟨c0, c1⟩ := KBox.cells2 (WS.box HX9.out)
              go_wp2
              go_still_tail 5, (by kernel_rfl)
              still_call ((HAt.out _ _ (by exact RdP.drew (WS.rd HX9.out))).mono (fun _ _ hh => ⟨hh.1, hh.2.symm⟩))
              refine wpStill_nil ?_
              change wpList _ _ _ _ _ (World.drew _)
              go_wp2_with fail
              refine (HFl.out _ _ _ 3 (by exact RdP.drew (WS.rd HX9.out))).mono ?_
              rintro e wz ⟨rfl, hz, gz⟩
              have HZ := Lib.hid ((WS.drewN HX9.out 1).step hz gz)
              go_wp2
              first | go_end0 | (refine bodyPost_ret (results_none rfl _ _ _) rfl ?_)
              exact ⟨rfl, by rw [HE.out]; exact HZ.out.rd, by rw [HE.out]; exact HZ.out.cal, HZ.out.chg⟩
        | false =>
          obtain ⟨q, rfl⟩ : ∃ q, gk = q + 1 := ⟨gk - 1, by
            rcases Nat.eq_zero_or_pos gk with h0 | h0
            · exact absurd (Hq0.out h0) (by decide)
            · omega⟩
          have Hqd : Hid (q = 0 → date = true) := fun h0 => by
            rcases Hq1.out (by omega) with h1 | h1
            · exact h1
            · cases h1
          cases hd : dashed (wordP σ') with
          | true =>
            rw [hd] at HAny
            cases date with
            | true =>
              have HS : Hid (R = (kstopP s.size σ', c')) := by show _ = _; rw [HK.out, kwords_stops (.inr (.inr (.inr ⟨rfl, hd⟩)))]
              clear HK hp0 hd
              (try clear c0 c1)
              obtain ⟨c0, c1⟩ := KBox.cells2 (WS.box HWr.out)
              go_wp2_with fail
              refine (HWd.out _ _ HWr.out.rd HWr.out.mx).mono ?_
              rintro e w3 ⟨rfl, h3, g3⟩
              have HW3 := Lib.hid (HWr.out.step h3 g3)
              (try clear c0 c1)
              obtain ⟨c0, c1⟩ := KBox.cells2 (WS.box HW3.out)
              go_wp2_with fail
              refine (HAny.out _).mono ?_
              rintro e w4 ⟨rfl, hb4⟩
              have HW4 := Lib.hid (HW3.out.below hb4)
              (try clear c0 c1)
              obtain ⟨c0, c1⟩ := KBox.cells2 (WS.box HW4.out)
              go_wp2_with fail
              refine (HPk.out _ _ HW4.out.rd).mono ?_
              rintro e w5 ⟨rfl, h5, g5⟩
              have HW5 := Lib.hid (HW4.out.step h5 g5)
              clear h3 g3 hb4 h5 g5 HW3 HW4 HAny
              (try clear c0 c1)
              obtain ⟨c0, c1⟩ := KBox.cells2 (WS.box HW5.out)
              go_wp2_with fail
              refine (HPk.out _ _ HW5.out.rd).mono ?_
              rintro e w6 ⟨rfl, h6, g6⟩
              have HW6 := Lib.hid (HW5.out.step h6 g6)
              clear h6 g6 HW5
              (try clear c0 c1)
              obtain ⟨c0, c1⟩ := KBox.cells2 (WS.box HW6.out)
              go_wp2_with fail
              refine (kletter_any _ _).mono ?_
              rintro e w7 ⟨rfl, rfl⟩
              rw [hlt2]
              clear hlt2
              go_wp2_with fail
              refine (HPk.out _ _ (WS.rd HW6.out)).mono ?_
              rintro e wX ⟨rfl, hX, gX0⟩
              have HX := Lib.hid (WS.step HW6.out hX gX0)
              (try clear c0 c1)
              obtain ⟨c0, c1⟩ := KBox.cells2 (WS.box HX.out)
              go_wp2_with fail
              refine (kletter_any _ _).mono ?_
              rintro e wY ⟨rfl, rfl⟩
              cases hltr : ltrI (peekP σ') with
              | true =>
                have HE : Hid (R = (failP (atP s.size σ') 7 σ', c')) := by show _ = _; rw [HS.out]; unfold kstopP; rw [if_pos hltr]
                (try rw [hltr])
                clear HS hltr
                go_wp2
                go_still_tail 5, (by kernel_rfl)
                still_call ((HAt.out _ _ (by exact RdP.drew (WS.rd HX.out))).mono (fun _ _ hh => ⟨hh.1, hh.2.symm⟩))
                refine wpStill_nil ?_
                change wpList _ _ _ _ _ (World.drew _)
                go_wp2_with fail
                refine (HFl.out _ _ _ 7 (by exact RdP.drew (WS.rd HX.out))).mono ?_
                rintro e wz ⟨rfl, hz, gz⟩
                have HZ := Lib.hid ((WS.drewN HX.out 1).step hz gz)
                go_wp2
                first | go_end0 | (refine bodyPost_ret (results_none rfl _ _ _) rfl ?_)
                exact ⟨rfl, by rw [HE.out]; exact HZ.out.rd, by rw [HE.out]; exact HZ.out.cal, HZ.out.chg⟩
              | false =>
                by_cases hl : σ'.l = []
                · have hat : (atP s.size σ' == (s.size : Int)) = true := by rw [beq_iff_eq]; unfold atP; rw [hl]; simp
                  have HE : Hid (R = (failP (atP s.size σ') 2 σ', c')) := by show _ = _; rw [HS.out]; unfold kstopP; rw [if_neg (by rw [hltr]; decide), if_pos hl]
                  (try rw [hltr])
                  clear hl HS hltr
                  go_wp2
                  go_quiet ((go_at_call 82; exact quietQ (HAt.out _ _ (by exact RdP.drewN (WS.rd HX.out) _))))
                  have HX9 := Lib.hid (HX.out.drewN nq)
                  generalize World.drewN _ nq = W9 at *
                  (try clear c0 c1)
                  obtain ⟨c0, c1⟩ := KBox.cells2 (WS.box HX9.out)
                  go_wp2
                  go_still_tail 5, (by kernel_rfl)
                  still_call ((HAt.out _ _ (by exact RdP.drew (WS.rd HX9.out))).mono (fun _ _ hh => ⟨hh.1, hh.2.symm⟩))
                  refine wpStill_nil ?_
                  change wpList _ _ _ _ _ (World.drew _)
                  go_wp2_with fail
                  refine (HFl.out _ _ _ 2 (by exact RdP.drew (WS.rd HX9.out))).mono ?_
                  rintro e wz ⟨rfl, hz, gz⟩
                  have HZ := Lib.hid ((WS.drewN HX9.out 1).step hz gz)
                  go_wp2
                  first | go_end0 | (refine bodyPost_ret (results_none rfl _ _ _) rfl ?_)
                  exact ⟨rfl, by rw [HE.out]; exact HZ.out.rd, by rw [HE.out]; exact HZ.out.cal, HZ.out.chg⟩
                · have hat : (atP s.size σ' == (s.size : Int)) = false := by
                    rw [beq_eq_false_iff_ne]; unfold atP
                    have h1 : 0 < σ'.l.length := List.length_pos_iff.2 hl
                    have h2 := HX.out.rd.len
                    omega
                  have HE : Hid (R = (failP (atP s.size σ') 3 σ', c')) := by show _ = _; rw [HS.out]; unfold kstopP; rw [if_neg (by rw [hltr]; decide), if_neg hl]
                  (try rw [hltr])
                  clear hl HS hltr
                  go_wp2
                  go_quiet ((go_at_call 82; exact quietQ (HAt.out _ _ (by exact RdP.drewN (WS.rd HX.out) _))))
                  have HX9 := Lib.hid (HX.out.drewN nq)
                  generalize World.drewN _ nq = W9 at *
                  (try clear c0 c1)
                  obtain ⟨c0, c1⟩ := KBox.cells2 (WS.box HX9.out)
                  go_wp2
                  go_still_tail 5, (by kernel_rfl)
                  still_call ((HAt.out _ _ (by exact RdP.drew (WS.rd HX9.out))).mono (fun _ _ hh => ⟨hh.1, hh.2.symm⟩))
                  refine wpStill_nil ?_
                  change wpList _ _ _ _ _ (World.drew _)
                  go_wp2_with fail
                  refine (HFl.out _ _ _ 3 (by exact RdP.drew (WS.rd HX9.out))).mono ?_
                  rintro e wz ⟨rfl, hz, gz⟩
                  have HZ := Lib.hid ((WS.drewN HX9.out 1).step hz gz)
                  go_wp2
                  first | go_end0 | (refine bodyPost_ret (results_none rfl _ _ _) rfl ?_)
                  exact ⟨rfl, by rw [HE.out]; exact HZ.out.rd, by rw [HE.out]; exact HZ.out.cal, HZ.out.chg⟩
            | false =>
              have Hqn : Hid (q = 0 → false = true) := Hqd.out
              have HS : Hid (R = if (knextP s.size (kdateP s.size c' σ').1).2 then kwordsP s.size q true false (kdateP s.size c' σ').2 (knextP s.size (kdateP s.size c' σ').1).1 else ((knextP s.size (kdateP s.size c' σ').1).1, (kdateP s.size c' σ').2)) := by
                show _ = _
                rw [HK.out]
                exact kwords_dates (fun x => x.elim hp0 (fun x => x.elim (fun y => by rw [hlt2] at y; cases y) (fun x => x.elim (fun y => by cases y) (fun y => by cases y.1)))) hd
              clear HK hp0 hd
              (try clear c0 c1)
              obtain ⟨c0, c1⟩ := KBox.cells2 (WS.box HWr.out)
              go_wp2_with fail
              refine (HWd.out _ _ HWr.out.rd HWr.out.mx).mono ?_
              rintro e w3 ⟨rfl, h3, g3⟩
              have HW3 := Lib.hid (HWr.out.step h3 g3)
              (try clear c0 c1)
              obtain ⟨c0, c1⟩ := KBox.cells2 (WS.box HW3.out)
              go_wp2_with fail
              refine (HAny.out _).mono ?_
              rintro e w4 ⟨rfl, hb4⟩
              have HW4 := Lib.hid (HW3.out.below hb4)
              (try clear c0 c1)
              obtain ⟨c0, c1⟩ := KBox.cells2 (WS.box HW4.out)
              go_wp2_with fail
              refine (HPk.out _ _ HW4.out.rd).mono ?_
              rintro e w5 ⟨rfl, h5, g5⟩
              have HW5 := Lib.hid (HW4.out.step h5 g5)
              clear h3 g3 hb4 h5 g5 HW3 HW4 HAny
              (try clear c0 c1)
              obtain ⟨c0, c1⟩ := KBox.cells2 (WS.box HW5.out)
              go_wp2_with fail
              refine (HPk.out _ _ HW5.out.rd).mono ?_
              rintro e w6 ⟨rfl, h6, g6⟩
              have HW6 := Lib.hid (HW5.out.step h6 g6)
              clear h6 g6 HW5
              (try clear c0 c1)
              obtain ⟨c0, c1⟩ := KBox.cells2 (WS.box HW6.out)
              go_wp2_with fail
              refine (kletter_any _ _).mono ?_
              rintro e w7 ⟨rfl, rfl⟩
              rw [hlt2]
              clear hlt2
              go_wp2_with fail
              refine (HDt.out _ _ _ HW6.out.rd HW6.out.cal HW6.out.mx (Nat.le_trans hB HW6.out.size)).mono ?_
              rintro e w8 ⟨rfl, h8, k8, g8⟩
              have HW8 := Lib.hid (HW6.out.two h8 k8 g8)
              clear h8 k8 g8
              generalize kdateP s.size c' σ' = r8 at *
              obtain ⟨σ8, c8⟩ := r8
              dsimp only at *
              (try clear c0 c1)
              obtain ⟨c0, c1⟩ := KBox.cells2 (WS.box HW8.out)
              go_wp2_with fail
              refine (HNx.out _ _ (WS.rd HW8.out)).mono ?_
              rintro e w9 ⟨rfl, h9, g9⟩
              have HW9 := Lib.hid (WS.step HW8.out h9 g9)
              clear h9 g9
              generalize knextP s.size σ8 = nx at *
              obtain ⟨σ9, nb⟩ := nx
              dsimp only at *
              cases nb with
              | false =>
                have HE : Hid (R = (σ9, c8)) := by show _ = _; rw [HS.out]; rfl
                clear HS
                go_wp2
                first | go_end0 | (refine bodyPost_ret (results_none rfl _ _ _) rfl ?_)
                exact ⟨rfl, by rw [HE.out]; exact HW9.out.rd, by rw [HE.out]; exact HW9.out.cal, HW9.out.chg⟩
              | true =>
                have HE : Hid (R = kwordsP s.size q true false c8 σ9) := by show _ = _; rw [HS.out]; rfl
                clear HS
                go_wp2
                go_roundg q
                case measure => omega
                case rel => exact ⟨_, _, c8, σ9, rfl, rfl, by first | (intro; rfl) | (intro h0; exact Hqn.out h0), by intro; first | exact .inl rfl | exact .inr rfl, by omega, HE.out, HW9.out⟩
          | false =>
            rw [hd] at HAny
            have Hqn : Hid (q = 0 → true = true) := fun _ => rfl
            have HS : Hid (R = if (knextP s.size (ktimeP s.size c' σ').1).2 then kwordsP s.size q date true (ktimeP s.size c' σ').2 (knextP s.size (ktimeP s.size c' σ').1).1 else ((knextP s.size (ktimeP s.size c' σ').1).1, (ktimeP s.size c' σ').2)) := by
              show _ = _
              rw [HK.out]
              exact kwords_times (fun x => x.elim hp0 (fun x => x.elim (fun y => by rw [hlt2] at y; cases y) (fun x => x.elim (fun y => by cases y) (fun y => by rw [hd] at y; cases y.2)))) hd
            clear HK hp0 hd
            cases date with
            | true =>
              (try clear c0 c1)
              obtain ⟨c0, c1⟩ := KBox.cells2 (WS.box HWr.out)
              go_wp2_with fail
              refine (HWd.out _ _ HWr.out.rd HWr.out.mx).mono ?_
              rintro e w3 ⟨rfl, h3, g3⟩
              have HW3 := Lib.hid (HWr.out.step h3 g3)
              (try clear c0 c1)
              obtain ⟨c0, c1⟩ := KBox.cells2 (WS.box HW3.out)
              go_wp2_with fail
              refine (HAny.out _).mono ?_
              rintro e w4 ⟨rfl, hb4⟩
              have HW4 := Lib.hid (HW3.out.below hb4)
              (try clear c0 c1)
              obtain ⟨c0, c1⟩ := KBox.cells2 (WS.box HW4.out)
              go_wp2_with fail
              refine (HPk.out _ _ HW4.out.rd).mono ?_
              rintro e w5 ⟨rfl, h5, g5⟩
              have HW5 := Lib.hid (HW4.out.step h5 g5)
              clear h3 g3 hb4 h5 g5 HW3 HW4 HAny
              (try clear c0 c1)
              obtain ⟨c0, c1⟩ := KBox.cells2 (WS.box HW5.out)
              go_wp2_with fail
              refine (HPk.out _ _ HW5.out.rd).mono ?_
              rintro e w6 ⟨rfl, h6, g6⟩
              have HW6 := Lib.hid (HW5.out.step h6 g6)
              clear h6 g6 HW5
              (try clear c0 c1)
              obtain ⟨c0, c1⟩ := KBox.cells2 (WS.box HW6.out)
              go_wp2_with fail
              refine (kletter_any _ _).mono ?_
              rintro e w7 ⟨rfl, rfl⟩
              rw [hlt2]
              clear hlt2
              go_wp2_with fail
              refine (HTm.out _ _ _ HW6.out.rd HW6.out.cal (Nat.le_trans hB HW6.out.size)).mono ?_
              rintro e w8 ⟨rfl, h8, k8, g8⟩
              have HW8 := Lib.hid (HW6.out.two h8 k8 g8)
              clear h8 k8 g8
              generalize ktimeP s.size c' σ' = r8 at *
              obtain ⟨σ8, c8⟩ := r8
              dsimp only at *
              (try clear c0 c1)
              obtain ⟨c0, c1⟩ := KBox.cells2 (WS.box HW8.out)
              go_wp2_with fail
              refine (HNx.out _ _ (WS.rd HW8.out)).mono ?_
              rintro e w9 ⟨rfl, h9, g9⟩
              have HW9 := Lib.hid (WS.step HW8.out h9 g9)
              clear h9 g9
              generalize knextP s.size σ8 = nx at *
              obtain ⟨σ9, nb⟩ := nx
              dsimp only at *
              cases nb with
              | false =>
                have HE : Hid (R = (σ9, c8)) := by show _ = _; rw [HS.out]; rfl
                clear HS
                go_wp2
                first | go_end0 | (refine bodyPost_ret (results_none rfl _ _ _) rfl ?_)
                exact ⟨rfl, by rw [HE.out]; exact HW9.out.rd, by rw [HE.out]; exact HW9.out.cal, HW9.out.chg⟩
              | true =>
                have HE : Hid (R = kwordsP s.size q true true c8 σ9) := by show _ = _; rw [HS.out]; rfl
                clear HS
                go_wp2
                go_roundg q
                case measure => omega
                case rel => exact ⟨_, _, c8, σ9, rfl, rfl, by first | (intro; rfl) | (intro h0; exact Hqn.out h0), by intro; first | exact .inl rfl | exact .inr rfl, by omega, HE.out, HW9.out⟩
            | false =>
              (try clear c0 c1)
              obtain ⟨c0, c1⟩ := KBox.cells2 (WS.box HWr.out)
              go_wp2_with fail
              refine (HWd.out _ _ HWr.out.rd HWr.out.mx).mono ?_
              rintro e w3 ⟨rfl, h3, g3⟩
              have HW3 := Lib.hid (HWr.out.step h3 g3)
              (try clear c0 c1)
              obtain ⟨c0, c1⟩ := KBox.cells2 (WS.box HW3.out)
              go_wp2_with fail
              refine (HAny.out _).mono ?_
              rintro e w4 ⟨rfl, hb4⟩
              have HW4 := Lib.hid (HW3.out.below hb4)
              (try clear c0 c1)
              obtain ⟨c0, c1⟩ := KBox.cells2 (WS.box HW4.out)
              go_wp2_with fail
              refine (HPk.out _ _ HW4.out.rd).mono ?_
              rintro e w5 ⟨rfl, h5, g5⟩
              have HW5 := Lib.hid (HW4.out.step h5 g5)
              clear h3 g3 hb4 h5 g5 HW3 HW4 HAny
              (try clear c0 c1)
              obtain ⟨c0, c1⟩ := KBox.cells2 (WS.box HW5.out)
              go_wp2_with fail
              refine (HPk.out _ _ HW5.out.rd).mono ?_
              rintro e w6 ⟨rfl, h6, g6⟩
              have HW6 := Lib.hid (HW5.out.step h6 g6)
              clear h6 g6 HW5
              (try clear c0 c1)
              obtain ⟨c0, c1⟩ := KBox.cells2 (WS.box HW6.out)
              go_wp2_with fail
              refine (kletter_any _ _).mono ?_
              rintro e w7 ⟨rfl, rfl⟩
              rw [hlt2]
              clear hlt2
              go_wp2_with fail
              refine (HTm.out _ _ _ HW6.out.rd HW6.out.cal (Nat.le_trans hB HW6.out.size)).mono ?_
              rintro e w8 ⟨rfl, h8, k8, g8⟩
              have HW8 := Lib.hid (HW6.out.two h8 k8 g8)
              clear h8 k8 g8
              generalize ktimeP s.size c' σ' = r8 at *
              obtain ⟨σ8, c8⟩ := r8
              dsimp only at *
              (try clear c0 c1)
              obtain ⟨c0, c1⟩ := KBox.cells2 (WS.box HW8.out)
              go_wp2_with fail
              refine (HNx.out _ _ (WS.rd HW8.out)).mono ?_
              rintro e w9 ⟨rfl, h9, g9⟩
              have HW9 := Lib.hid (WS.step HW8.out h9 g9)
              clear h9 g9
              generalize knextP s.size σ8 = nx at *
              obtain ⟨σ9, nb⟩ := nx
              dsimp only at *
              cases nb with
              | false =>
                have HE : Hid (R = (σ9, c8)) := by show _ = _; rw [HS.out]; rfl
                clear HS
                go_wp2
                first | go_end0 | (refine bodyPost_ret (results_none rfl _ _ _) rfl ?_)
                exact ⟨rfl, by rw [HE.out]; exact HW9.out.rd, by rw [HE.out]; exact HW9.out.cal, HW9.out.chg⟩
              | true =>
                have HE : Hid (R = kwordsP s.size q false true c8 σ9) := by show _ = _; rw [HS.out]; rfl
                clear HS
                go_wp2
                go_roundg q
                case measure => omega
                case rel => exact ⟨_, _, c8, σ9, rfl, rfl, by first | (intro; rfl) | (intro h0; exact Hqn.out h0), by intro; first | exact .inl rfl | exact .inr rfl, by omega, HE.out, HW9.out⟩
end Go.Proofs.YtochhmkdhdadhaaGreat

namespace Go.Proofs.YtochhmkdhdadhaaGreat
open Go.RowKit
set_option linter.unusedSimpArgs false
set_option linter.unusedVariables false

set_option maxRecDepth 20000 in
set_option maxHeartbeats 4000000 in
theorem words_let {w : World} {b C B : Nat} {s : ByteArray} {σ : PS} (hs : s.size ≤ 1000000) (h : RdP w b s σ) (hc : CalAt w C B calNil) (hm : MaxAt w) (hCb : C ≠ b) (hCB : C < B) (hbB : b < B) (hB : B ≤ w.heap.size) (hlet : ltrI (peekP σ) = true) :
    Calls Tryz.prog 45 #[kV b s, .pointer (some ⟨C, 0, none⟩)] w (RetC (.tuple #[]) b C B s (kallP s.size σ).1 (kallP s.size σ).2 w) := by
  have hlt := h.lt
  have hCl := hc.lt
  have HW0 : Hid (WS w b C B s σ calNil (w.alloc (.cells #[.pointer (some ⟨b, 0, none⟩), .string s] 82))) :=
    ⟨h.alloc _, hc.alloc _, kbox_new _ _ _ _, ((Chg.refl b w).two C).alloc _, hm.below ((Below.refl _ w).alloc (Nat.le_refl _) _), hCb, hCB, hbB, by omega, by omega⟩
  have HR : Hid (kallP s.size σ = if (knextP s.size (klistP s.size (daysP s.size) 63 σ).1).2 then kwordsP s.size 2 false false { calNil with week := (klistP s.size (daysP s.size) 63 σ).2 } (knextP s.size (klistP s.size (daysP s.size) 63 σ).1).1 else ((knextP s.size (klistP s.size (daysP s.size) 63 σ).1).1, { calNil with week := (klistP s.size (daysP s.size) 63 σ).2 })) := by
    show _ = _
    unfold kallP; rw [if_pos hlet]
  have HLs := Lib.hid (fun W (h : RdP W b s σ) => dlist_ks hs 63 (by decide) h)
  rw [show ((63 : Nat) : Int) + 1 = 64 from rfl] at HLs
  generalize kallP s.size σ = R at *
  generalize klistP s.size (daysP s.size) 63 σ = ls at *
  obtain ⟨τ, L⟩ := ls
  dsimp only at *
  have HPk := Lib.hid (fun W σ (h : RdP W b s σ) => peek_pp h)
  have HAt := Lib.hid (fun W σ (h : RdP W b s σ) => at_ps h)
  have HFl := Lib.hid (fun W σ p q (h : RdP W b s σ) => fail_ps p q h)
  have HNx := Lib.hid (fun W σ (h : RdP W b s σ) => next_ks hs h)
  have HWd := Lib.hid (fun W σ (h : RdP W b s σ) (hm : MaxAt W) => word_ks hs h hm)
  have HDt := Lib.hid (fun W σ c (h : RdP W b s σ) (hc : CalAt W C B c) (hm : MaxAt W) (hB : B ≤ W.heap.size) => date_ks hs h hc hm hCb hCB hbB hB)
  have HTm := Lib.hid (fun W σ c (h : RdP W b s σ) (hc : CalAt W C B c) (hB : B ≤ W.heap.size) => time_ks hs h hc hCb hCB hbB hB)
  clear h hc hm
  go_enter Tryz.func45, Tryz.ntmps45
  go_wp2
  go_step3
  go_wp2_with fail
  refine (HPk.out _ _ HW0.out.rd).mono ?_
  rintro e w1 ⟨rfl, h1, g1⟩
  have HS1 := Lib.hid (HW0.out.step h1 g1)
  (try clear c0 c1)
  obtain ⟨c0, c1⟩ := KBox.cells2 (WS.box HS1.out)
  go_wp2_with fail
  refine (kletter_any _ _).mono ?_
  rintro e w2 ⟨rfl, rfl⟩
  rw [hlet]
  clear hlet
  go_wp2_with fail
  refine (HLs.out _ HS1.out.rd).mono ?_
  rintro e w2 ⟨v, rfl, hv, hL2, h2, g2⟩
  obtain ⟨Av, nv, cv, rfl⟩ := own_slice hv
  have hv' := Lib.hid (own_base hv (Nat.le_trans hB HS1.out.size))
  have HS2 := Lib.hid (HS1.out.step h2 g2)
  have HS3 := Lib.hid (HS2.out.setL (c' := { calNil with week := L }) 0 (by decide) (by decide) (.slice Av nv cv) hv'.out hL2 (fun k hk hn => by rcases k with _ | _ | _ | _ | _ | _ | _ | _ | k <;> first | rfl | (exact absurd rfl hn) | omega) rfl)
  clear hv h2 g2 h1 g1 hL2
  (try clear c0 c1)
  obtain ⟨c0, c1⟩ := KBox.cells2 (WS.box HS2.out)
  obtain ⟨gx, x0, x1, x2, x3, x4, x5, x6, x7, xf⟩ := CalAt.cells HS2.out.cal
  go_wp2_with fail
  clear x0 x1 x2 x3 x4 x5 x6 x7 xf
  (try clear c0 c1)
  obtain ⟨c0, c1⟩ := KBox.cells2 (WS.box HS3.out)
  generalize World.setCell w2 _ _ = W3 at *
  refine (HNx.out _ _ HS3.out.rd).mono ?_
  rintro e w4 ⟨rfl, h4, g4⟩
  have HS4 := Lib.hid (HS3.out.step h4 g4)
  clear h4 g4
  generalize knextP s.size τ = nx at *
  obtain ⟨σ1, nb⟩ := nx
  dsimp only at *
  (try clear c0 c1)
  obtain ⟨c0, c1⟩ := KBox.cells2 (WS.box HS4.out)
  cases nb with
  | false =>
    have HE : Hid (R = (σ1, { calNil with week := L })) := by show _ = _; rw [HR.out]; rfl
    clear HR
    go_wp2
    first | go_end0 | (refine bodyPost_ret (results_none rfl _ _ _) rfl ?_)
    exact ⟨rfl, by rw [HE.out]; exact HS4.out.rd, by rw [HE.out]; exact HS4.out.cal, HS4.out.chg⟩
  | true =>
    have HR2 : Hid (R = kwordsP s.size 2 false false { calNil with week := L } σ1) := by show _ = _; rw [HR.out]; rfl
    clear HR
    go_wp2
    go_step3
    go_wp2
    go_loopg [4, 5] 2 (fun gg dv tv wr => ∃ (date time : Bool) (c' : CalV) (σ' : PS), dv = .bool date ∧ tv = .bool time ∧ (gg = 0 → time = true) ∧ (gg = 1 → date = true ∨ time = true) ∧ gg ≤ 2 ∧ Hid (R = kwordsP s.size gg date time c' σ') ∧ Hid (WS w b C B s σ' c' wr))
    case atStart => exact ⟨false, false, _, _, rfl, rfl, by simp, by simp, by simp, HR2.out, HS4.out⟩
    case round =>
      obtain ⟨date, time, c', σ', rfl, rfl, hq0, hq1, hq2, HK, HWr⟩ := hrel
      have HAny := Lib.hid (fun W => cany_any (wordP σ') W (HWr.out.word hs))
      have hzr := HWr.out.size
      have Hq0 := Lib.hid hq0
      have Hq1 := Lib.hid hq1
      clear hq0 hq1
      by_cases hp0 : peekP σ' = 0
      · have HS : Hid (R = (kstopP s.size σ', c')) := by show _ = _; rw [HK.out, kwords_stops (.inl hp0)]
        have hp0' : (peekP σ' == 0) = true := by simpa using hp0
        clear HK hp0
        (try clear c0 c1)
        obtain ⟨c0, c1⟩ := KBox.cells2 (WS.box HWr.out)
        go_wp2_with fail
        refine (HWd.out _ _ HWr.out.rd HWr.out.mx).mono ?_
        rintro e w3 ⟨rfl, h3, g3⟩
        have HW3 := Lib.hid (HWr.out.step h3 g3)
        (try clear c0 c1)
        obtain ⟨c0, c1⟩ := KBox.cells2 (WS.box HW3.out)
        go_wp2_with fail
        refine (HAny.out _).mono ?_
        rintro e w4 ⟨rfl, hb4⟩
        have HW4 := Lib.hid (HW3.out.below hb4)
        (try clear c0 c1)
        obtain ⟨c0, c1⟩ := KBox.cells2 (WS.box HW4.out)
        go_wp2_with fail
        refine (HPk.out _ _ HW4.out.rd).mono ?_
        rintro e w5 ⟨rfl, h5, g5⟩
        have HW5 := Lib.hid (HW4.out.step h5 g5)
        clear h3 g3 hb4 h5 g5 HW3 HW4 HAny
        (try clear c0 c1)
        obtain ⟨c0, c1⟩ := KBox.cells2 (WS.box HW5.out)
        go_wp2_with fail
        refine (HPk.out _ _ (WS.rd HW5.out)).mono ?_
        rintro e wX ⟨rfl, hX, gX0⟩
        have HX := Lib.hid (WS.step HW5.out hX gX0)
        (try clear c0 c1)
        obtain ⟨c0, c1⟩ := KBox.cells2 (WS.box HX.out)
        go_wp2_with fail
        refine (kletter_any _ _).mono ?_
        rintro e wY ⟨rfl, rfl⟩
        cases hltr : ltrI (peekP σ') with
        | true =>
          have HE : Hid (R = (failP (atP s.size σ') 7 σ', c')) := by show _ = _; rw [HS.out]; unfold kstopP; rw [if_pos hltr]
          (try rw [hltr])
          clear HS hltr
          go_wp2
          go_still_tail 5, (by kernel_rfl)
          still_call ((HAt.out _ _ (by exact RdP.drew (WS.rd HX.out))).mono (fun _ _ hh => ⟨hh.1, hh.2.symm⟩))
          refine wpStill_nil ?_
          change wpList _ _ _ _ _ (World.drew _)
          go_wp2_with fail
          refine (HFl.out _ _ _ 7 (by exact RdP.drew (WS.rd HX.out))).mono ?_
          rintro e wz ⟨rfl, hz, gz⟩
          have HZ := Lib.hid ((WS.drewN HX.out 1).step hz gz)
          go_wp2
          first | go_end0 | (refine bodyPost_ret (results_none rfl _ _ _) rfl ?_)
          exact ⟨rfl, by rw [HE.out]; exact HZ.out.rd, by rw [HE.out]; exact HZ.out.cal, HZ.out.chg⟩
        | false =>
          by_cases hl : σ'.l = []
          · have hat : (atP s.size σ' == (s.size : Int)) = true := by rw [beq_iff_eq]; unfold atP; rw [hl]; simp
            have HE : Hid (R = (failP (atP s.size σ') 2 σ', c')) := by show _ = _; rw [HS.out]; unfold kstopP; rw [if_neg (by rw [hltr]; decide), if_pos hl]
            (try rw [hltr])
            clear hl HS hltr
            go_wp2
            go_quiet ((go_at_call 82; exact quietQ (HAt.out _ _ (by exact RdP.drewN (WS.rd HX.out) _))))
            have HX9 := Lib.hid (HX.out.drewN nq)
            generalize World.drewN _ nq = W9 at *
            (try clear c0 c1)
            obtain ⟨c0, c1⟩ := KBox.cells2 (WS.box HX9.out)
            go_wp2
            go_still_tail 5, (by kernel_rfl)
            still_call ((HAt.out _ _ (by exact RdP.drew (WS.rd HX9.out))).mono (fun _ _ hh => ⟨hh.1, hh.2.symm⟩))
            refine wpStill_nil ?_
            change wpList _ _ _ _ _ (World.drew _)
            go_wp2_with fail
            refine (HFl.out _ _ _ 2 (by exact RdP.drew (WS.rd HX9.out))).mono ?_
            rintro e wz ⟨rfl, hz, gz⟩
            have HZ := Lib.hid ((WS.drewN HX9.out 1).step hz gz)
            go_wp2
            first | go_end0 | (refine bodyPost_ret (results_none rfl _ _ _) rfl ?_)
            exact ⟨rfl, by rw [HE.out]; exact HZ.out.rd, by rw [HE.out]; exact HZ.out.cal, HZ.out.chg⟩
          · have hat : (atP s.size σ' == (s.size : Int)) = false := by
              rw [beq_eq_false_iff_ne]; unfold atP
              have h1 : 0 < σ'.l.length := List.length_pos_iff.2 hl
              have h2 := HX.out.rd.len
              omega
            have HE : Hid (R = (failP (atP s.size σ') 3 σ', c')) := by show _ = _; rw [HS.out]; unfold kstopP; rw [if_neg (by rw [hltr]; decide), if_neg hl]
            (try rw [hltr])
            clear hl HS hltr
            go_wp2
            go_quiet ((go_at_call 82; exact quietQ (HAt.out _ _ (by exact RdP.drewN (WS.rd HX.out) _))))
            have HX9 := Lib.hid (HX.out.drewN nq)
            generalize World.drewN _ nq = W9 at *
            (try clear c0 c1)
            obtain ⟨c0, c1⟩ := KBox.cells2 (WS.box HX9.out)
            go_wp2
            go_still_tail 5, (by kernel_rfl)
            still_call ((HAt.out _ _ (by exact RdP.drew (WS.rd HX9.out))).mono (fun _ _ hh => ⟨hh.1, hh.2.symm⟩))
            refine wpStill_nil ?_
            change wpList _ _ _ _ _ (World.drew _)
            go_wp2_with fail
            refine (HFl.out _ _ _ 3 (by exact RdP.drew (WS.rd HX9.out))).mono ?_
            rintro e wz ⟨rfl, hz, gz⟩
            have HZ := Lib.hid ((WS.drewN HX9.out 1).step hz gz)
            go_wp2
            first | go_end0 | (refine bodyPost_ret (results_none rfl _ _ _) rfl ?_)
            exact ⟨rfl, by rw [HE.out]; exact HZ.out.rd, by rw [HE.out]; exact HZ.out.cal, HZ.out.chg⟩
      · have hp0' : (peekP σ' == 0) = false := by simpa using hp0
        cases hlt2 : ltrI (peekP σ') with
        | true =>
          have HS : Hid (R = (kstopP s.size σ', c')) := by show _ = _; rw [HK.out, kwords_stops (.inr (.inl hlt2))]
          clear HK hp0
          (try clear c0 c1)
          obtain ⟨c0, c1⟩ := KBox.cells2 (WS.box HWr.out)
          go_wp2_with fail
          refine (HWd.out _ _ HWr.out.rd HWr.out.mx).mono ?_
          rintro e w3 ⟨rfl, h3, g3⟩
          have HW3 := Lib.hid (HWr.out.step h3 g3)
          (try clear c0 c1)
          obtain ⟨c0, c1⟩ := KBox.cells2 (WS.box HW3.out)
          go_wp2_with fail
          refine (HAny.out _).mono ?_
          rintro e w4 ⟨rfl, hb4⟩
          have HW4 := Lib.hid (HW3.out.below hb4)
          (try clear c0 c1)
          obtain ⟨c0, c1⟩ := KBox.cells2 (WS.box HW4.out)
          go_wp2_with fail
          refine (HPk.out _ _ HW4.out.rd).mono ?_
          rintro e w5 ⟨rfl, h5, g5⟩
          have HW5 := Lib.hid (HW4.out.step h5 g5)
          clear h3 g3 hb4 h5 g5 HW3 HW4 HAny
          (try clear c0 c1)
          obtain ⟨c0, c1⟩ := KBox.cells2 (WS.box HW5.out)
          go_wp2_with fail
          refine (HPk.out _ _ HW5.out.rd).mono ?_
          rintro e w6 ⟨rfl, h6, g6⟩
          have HW6 := Lib.hid (HW5.out.step h6 g6)
          clear h6 g6 HW5
          (try clear c0 c1)
          obtain ⟨c0, c1⟩ := KBox.cells2 (WS.box HW6.out)
          go_wp2_with fail
          refine (kletter_any _ _).mono ?_
          rintro e w7 ⟨rfl, rfl⟩
          rw [hlt2]
          clear hlt2
          go_wp2_with fail
          refine (HPk.out _ _ (WS.rd HW6.out)).mono ?_
          rintro e wX ⟨rfl, hX, gX0⟩
          have HX := Lib.hid (WS.step HW6.out hX gX0)
          (try clear c0 c1)
          obtain ⟨c0, c1⟩ := KBox.cells2 (WS.box HX.out)
          go_wp2_with fail
          refine (kletter_any _ _).mono ?_
          rintro e wY ⟨rfl, rfl⟩
          cases hltr : ltrI (peekP σ') with
          | true =>
            have HE : Hid (R = (failP (atP s.size σ') 7 σ', c')) := by show _ = _; rw [HS.out]; unfold kstopP; rw [if_pos hltr]
            (try rw [hltr])
            clear HS hltr
            go_wp2
            go_still_tail 5, (by kernel_rfl)
            still_call ((HAt.out _ _ (by exact RdP.drew (WS.rd HX.out))).mono (fun _ _ hh => ⟨hh.1, hh.2.symm⟩))
            refine wpStill_nil ?_
            change wpList _ _ _ _ _ (World.drew _)
            go_wp2_with fail
            refine (HFl.out _ _ _ 7 (by exact RdP.drew (WS.rd HX.out))).mono ?_
            rintro e wz ⟨rfl, hz, gz⟩
            have HZ := Lib.hid ((WS.drewN HX.out 1).step hz gz)
            go_wp2
            first | go_end0 | (refine bodyPost_ret (results_none rfl _ _ _) rfl ?_)
            exact ⟨rfl, by rw [HE.out]; exact HZ.out.rd, by rw [HE.out]; exact HZ.out.cal, HZ.out.chg⟩
          | false =>
            by_cases hl : σ'.l = []
            · have hat : (atP s.size σ' == (s.size : Int)) = true := by rw [beq_iff_eq]; unfold atP; rw [hl]; simp
              have HE : Hid (R = (failP (atP s.size σ') 2 σ', c')) := by show _ = _; rw [HS.out]; unfold kstopP; rw [if_neg (by rw [hltr]; decide), if_pos hl]
              (try rw [hltr])
              clear hl HS hltr
              go_wp2
              go_quiet ((go_at_call 82; exact quietQ (HAt.out _ _ (by exact RdP.drewN (WS.rd HX.out) _))))
              have HX9 := Lib.hid (HX.out.drewN nq)
              generalize World.drewN _ nq = W9 at *
              (try clear c0 c1)
              obtain ⟨c0, c1⟩ := KBox.cells2 (WS.box HX9.out)
              go_wp2
              go_still_tail 5, (by kernel_rfl)
              still_call ((HAt.out _ _ (by exact RdP.drew (WS.rd HX9.out))).mono (fun _ _ hh => ⟨hh.1, hh.2.symm⟩))
              refine wpStill_nil ?_
              change wpList _ _ _ _ _ (World.drew _)
              go_wp2_with fail
              refine (HFl.out _ _ _ 2 (by exact RdP.drew (WS.rd HX9.out))).mono ?_
              rintro e wz ⟨rfl, hz, gz⟩
              have HZ := Lib.hid ((WS.drewN HX9.out 1).step hz gz)
              go_wp2
              first | go_end0 | (refine bodyPost_ret (results_none rfl _ _ _) rfl ?_)
              exact ⟨rfl, by rw [HE.out]; exact HZ.out.rd, by rw [HE.out]; exact HZ.out.cal, HZ.out.chg⟩
            · have hat : (atP s.size σ' == (s.size : Int)) = false := by
                rw [beq_eq_false_iff_ne]; unfold atP
                have h1 : 0 < σ'.l.length := List.length_pos_iff.2 hl
                have h2 := HX.out.rd.len
                omega
              have HE : Hid (R = (failP (atP s.size σ') 3 σ', c')) := by show _ = _; rw [HS.out]; unfold kstopP; rw [if_neg (by rw [hltr]; decide), if_neg hl]
              (try rw [hltr])
              clear hl HS hltr
              go_wp2
              go_quiet ((go_at_call 82; exact quietQ (HAt.out _ _ (by exact RdP.drewN (WS.rd HX.out) _))))
              have HX9 := Lib.hid (HX.out.drewN nq)
              generalize World.drewN _ nq = W9 at *
              (try clear c0 c1)
              obtain ⟨c0, c1⟩ := KBox.cells2 (WS.box HX9.out)
              go_wp2
              go_still_tail 5, (by kernel_rfl)
              still_call ((HAt.out _ _ (by exact RdP.drew (WS.rd HX9.out))).mono (fun _ _ hh => ⟨hh.1, hh.2.symm⟩))
              refine wpStill_nil ?_
              change wpList _ _ _ _ _ (World.drew _)
              go_wp2_with fail
              refine (HFl.out _ _ _ 3 (by exact RdP.drew (WS.rd HX9.out))).mono ?_
              rintro e wz ⟨rfl, hz, gz⟩
              have HZ := Lib.hid ((WS.drewN HX9.out 1).step hz gz)
              go_wp2
              first | go_end0 | (refine bodyPost_ret (results_none rfl _ _ _) rfl ?_)
              exact ⟨rfl, by rw [HE.out]; exact HZ.out.rd, by rw [HE.out]; exact HZ.out.cal, HZ.out.chg⟩
        | false =>
          cases time with
          | true =>
            have HS : Hid (R = (kstopP s.size σ', c')) := by show _ = _; rw [HK.out, kwords_stops (.inr (.inr (.inl rfl)))]
            clear HK hp0
            (try clear c0 c1)
            obtain ⟨c0, c1⟩ := KBox.cells2 (WS.box HWr.out)
            go_wp2_with fail
            refine (HWd.out _ _ HWr.out.rd HWr.out.mx).mono ?_
            rintro e w3 ⟨rfl, h3, g3⟩
            have HW3 := Lib.hid (HWr.out.step h3 g3)
            (try clear c0 c1)
            obtain ⟨c0, c1⟩ := KBox.cells2 (WS.box HW3.out)
            go_wp2_with fail
            refine (HAny.out _).mono ?_
            rintro e w4 ⟨rfl, hb4⟩
            have HW4 := Lib.hid (HW3.out.below hb4)
            (try clear c0 c1)
            obtain ⟨c0, c1⟩ := KBox.cells2 (WS.box HW4.out)
            go_wp2_with fail
            refine (HPk.out _ _ HW4.out.rd).mono ?_
            rintro e w5 ⟨rfl, h5, g5⟩
            have HW5 := Lib.hid (HW4.out.step h5 g5)
            clear h3 g3 hb4 h5 g5 HW3 HW4 HAny
            (try clear c0 c1)
            obtain ⟨c0, c1⟩ := KBox.cells2 (WS.box HW5.out)
            go_wp2_with fail
            refine (HPk.out _ _ HW5.out.rd).mono ?_
            rintro e w6 ⟨rfl, h6, g6⟩
            have HW6 := Lib.hid (HW5.out.step h6 g6)
            clear h6 g6 HW5
            (try clear c0 c1)
            obtain ⟨c0, c1⟩ := KBox.cells2 (WS.box HW6.out)
            go_wp2_with fail
            refine (kletter_any _ _).mono ?_
            rintro e w7 ⟨rfl, rfl⟩
            rw [hlt2]
            clear hlt2
            go_wp2_with fail
            refine (HPk.out _ _ (WS.rd HW6.out)).mono ?_
            rintro e wX ⟨rfl, hX, gX0⟩
            have HX := Lib.hid (WS.step HW6.out hX gX0)
            (try clear c0 c1)
            obtain ⟨c0, c1⟩ := KBox.cells2 (WS.box HX.out)
            go_wp2_with fail
            refine (kletter_any _ _).mono ?_
            rintro e wY ⟨rfl, rfl⟩
            cases hltr : ltrI (peekP σ') with
            | true =>
              have HE : Hid (R = (failP (atP s.size σ') 7 σ', c')) := by show _ = _; rw [HS.out]; unfold kstopP; rw [if_pos hltr]
              (try rw [hltr])
              clear HS hltr
              go_wp2
              go_still_tail 5, (by kernel_rfl)
              still_call ((HAt.out _ _ (by exact RdP.drew (WS.rd HX.out))).mono (fun _ _ hh => ⟨hh.1, hh.2.symm⟩))
              refine wpStill_nil ?_
              change wpList _ _ _ _ _ (World.drew _)
              go_wp2_with fail
              refine (HFl.out _ _ _ 7 (by exact RdP.drew (WS.rd HX.out))).mono ?_
              rintro e wz ⟨rfl, hz, gz⟩
              have HZ := Lib.hid ((WS.drewN HX.out 1).step hz gz)
              go_wp2
              first | go_end0 | (refine bodyPost_ret (results_none rfl _ _ _) rfl ?_)
              exact ⟨rfl, by rw [HE.out]; exact HZ.out.rd, by rw [HE.out]; exact HZ.out.cal, HZ.out.chg⟩
            | false =>
              by_cases hl : σ'.l = []
              · have hat : (atP s.size σ' == (s.size : Int)) = true := by rw [beq_iff_eq]; unfold atP; rw [hl]; simp
                have HE : Hid (R = (failP (atP s.size σ') 2 σ', c')) := by show _ = _; rw [HS.out]; unfold kstopP; rw [if_neg (by rw [hltr]; decide), if_pos hl]
                (try rw [hltr])
                clear hl HS hltr
                go_wp2
                go_quiet ((go_at_call 82; exact quietQ (HAt.out _ _ (by exact RdP.drewN (WS.rd HX.out) _))))
                have HX9 := Lib.hid (HX.out.drewN nq)
                generalize World.drewN _ nq = W9 at *
                (try clear c0 c1)
                obtain ⟨c0, c1⟩ := KBox.cells2 (WS.box HX9.out)
                go_wp2
                go_still_tail 5, (by kernel_rfl)
                still_call ((HAt.out _ _ (by exact RdP.drew (WS.rd HX9.out))).mono (fun _ _ hh => ⟨hh.1, hh.2.symm⟩))
                refine wpStill_nil ?_
                change wpList _ _ _ _ _ (World.drew _)
                go_wp2_with fail
                refine (HFl.out _ _ _ 2 (by exact RdP.drew (WS.rd HX9.out))).mono ?_
                rintro e wz ⟨rfl, hz, gz⟩
                have HZ := Lib.hid ((WS.drewN HX9.out 1).step hz gz)
                go_wp2
                first | go_end0 | (refine bodyPost_ret (results_none rfl _ _ _) rfl ?_)
                exact ⟨rfl, by rw [HE.out]; exact HZ.out.rd, by rw [HE.out]; exact HZ.out.cal, HZ.out.chg⟩
              · have hat : (atP s.size σ' == (s.size : Int)) = false := by
                  rw [beq_eq_false_iff_ne]; unfold atP
                  have h1 : 0 < σ'.l.length := List.length_pos_iff.2 hl
                  have h2 := HX.out.rd.len
                  omega
                have HE : Hid (R = (failP (atP s.size σ') 3 σ', c')) := by show _ = _; rw [HS.out]; unfold kstopP; rw [if_neg (by rw [hltr]; decide), if_neg hl]
                (try rw [hltr])
                clear hl HS hltr
                go_wp2
                go_quiet ((go_at_call 82; exact quietQ (HAt.out _ _ (by exact RdP.drewN (WS.rd HX.out) _))))
                have HX9 := Lib.hid (HX.out.drewN nq)
                generalize World.drewN _ nq = W9 at *
                (try clear c0 c1)
                obtain ⟨c0, c1⟩ := KBox.cells2 (WS.box HX9.out)
                go_wp2
                go_still_tail 5, (by kernel_rfl)
                still_call ((HAt.out _ _ (by exact RdP.drew (WS.rd HX9.out))).mono (fun _ _ hh => ⟨hh.1, hh.2.symm⟩))
                refine wpStill_nil ?_
                change wpList _ _ _ _ _ (World.drew _)
                go_wp2_with fail
                refine (HFl.out _ _ _ 3 (by exact RdP.drew (WS.rd HX9.out))).mono ?_
                rintro e wz ⟨rfl, hz, gz⟩
                have HZ := Lib.hid ((WS.drewN HX9.out 1).step hz gz)
                go_wp2
                first | go_end0 | (refine bodyPost_ret (results_none rfl _ _ _) rfl ?_)
                exact ⟨rfl, by rw [HE.out]; exact HZ.out.rd, by rw [HE.out]; exact HZ.out.cal, HZ.out.chg⟩
          | false =>
            obtain ⟨q, rfl⟩ : ∃ q, gk = q + 1 := ⟨gk - 1, by
              rcases Nat.eq_zero_or_pos gk with h0 | h0
              · exact absurd (Hq0.out h0) (by decide)
              · omega⟩
            have Hqd : Hid (q = 0 → date = true) := fun h0 => by
              rcases Hq1.out (by omega) with h1 | h1
              · exact h1
              · cases h1
            cases hd : dashed (wordP σ') with
            | true =>
              rw [hd] at HAny
              cases date with
              | true =>
                have HS : Hid (R = (kstopP s.size σ', c')) := by show _ = _; rw [HK.out, kwords_stops (.inr (.inr (.inr ⟨rfl, hd⟩)))]
                clear HK hp0 hd
                (try clear c0 c1)
                obtain ⟨c0, c1⟩ := KBox.cells2 (WS.box HWr.out)
                go_wp2_with fail
                refine (HWd.out _ _ HWr.out.rd HWr.out.mx).mono ?_
                rintro e w3 ⟨rfl, h3, g3⟩
                have HW3 := Lib.hid (HWr.out.step h3 g3)
                (try clear c0 c1)
                obtain ⟨c0, c1⟩ := KBox.cells2 (WS.box HW3.out)
                go_wp2_with fail
                refine (HAny.out _).mono ?_
                rintro e w4 ⟨rfl, hb4⟩
                have HW4 := Lib.hid (HW3.out.below hb4)
                (try clear c0 c1)
                obtain ⟨c0, c1⟩ := KBox.cells2 (WS.box HW4.out)
                go_wp2_with fail
                refine (HPk.out _ _ HW4.out.rd).mono ?_
                rintro e w5 ⟨rfl, h5, g5⟩
                have HW5 := Lib.hid (HW4.out.step h5 g5)
                clear h3 g3 hb4 h5 g5 HW3 HW4 HAny
                (try clear c0 c1)
                obtain ⟨c0, c1⟩ := KBox.cells2 (WS.box HW5.out)
                go_wp2_with fail
                refine (HPk.out _ _ HW5.out.rd).mono ?_
                rintro e w6 ⟨rfl, h6, g6⟩
                have HW6 := Lib.hid (HW5.out.step h6 g6)
                clear h6 g6 HW5
                (try clear c0 c1)
                obtain ⟨c0, c1⟩ := KBox.cells2 (WS.box HW6.out)
                go_wp2_with fail
                refine (kletter_any _ _).mono ?_
                rintro e w7 ⟨rfl, rfl⟩
                rw [hlt2]
                clear hlt2
                go_wp2_with fail
                refine (HPk.out _ _ (WS.rd HW6.out)).mono ?_
                rintro e wX ⟨rfl, hX, gX0⟩
                have HX := Lib.hid (WS.step HW6.out hX gX0)
                (try clear c0 c1)
                obtain ⟨c0, c1⟩ := KBox.cells2 (WS.box HX.out)
                go_wp2_with fail
                refine (kletter_any _ _).mono ?_
                rintro e wY ⟨rfl, rfl⟩
                cases hltr : ltrI (peekP σ') with
                | true =>
                  have HE : Hid (R = (failP (atP s.size σ') 7 σ', c')) := by show _ = _; rw [HS.out]; unfold kstopP; rw [if_pos hltr]
                  (try rw [hltr])
                  clear HS hltr
                  go_wp2
                  go_still_tail 5, (by kernel_rfl)
                  still_call ((HAt.out _ _ (by exact RdP.drew (WS.rd HX.out))).mono (fun _ _ hh => ⟨hh.1, hh.2.symm⟩))
                  refine wpStill_nil ?_
                  change wpList _ _ _ _ _ (World.drew _)
                  go_wp2_with fail
                  refine (HFl.out _ _ _ 7 (by exact RdP.drew (WS.rd HX.out))).mono ?_
                  rintro e wz ⟨rfl, hz, gz⟩
                  have HZ := Lib.hid ((WS.drewN HX.out 1).step hz gz)
                  go_wp2
                  first | go_end0 | (refine bodyPost_ret (results_none rfl _ _ _) rfl ?_)
                  exact ⟨rfl, by rw [HE.out]; exact HZ.out.rd, by rw [HE.out]; exact HZ.out.cal, HZ.out.chg⟩
                | false =>
                  by_cases hl : σ'.l = []
                  · have hat : (atP s.size σ' == (s.size : Int)) = true := by rw [beq_iff_eq]; unfold atP; rw [hl]; simp
                    have HE : Hid (R = (failP (atP s.size σ') 2 σ', c')) := by show _ = _; rw [HS.out]; unfold kstopP; rw [if_neg (by rw [hltr]; decide), if_pos hl]
                    (try rw [hltr])
                    clear hl HS hltr
                    go_wp2
                    go_quiet ((go_at_call 82; exact quietQ (HAt.out _ _ (by exact RdP.drewN (WS.rd HX.out) _))))
                    have HX9 := Lib.hid (HX.out.drewN nq)
                    generalize World.drewN _ nq = W9 at *
                    (try clear c0 c1)
                    obtain ⟨c0, c1⟩ := KBox.cells2 (WS.box HX9.out)
                    go_wp2
                    go_still_tail 5, (by kernel_rfl)
                    still_call ((HAt.out _ _ (by exact RdP.drew (WS.rd HX9.out))).mono (fun _ _ hh => ⟨hh.1, hh.2.symm⟩))
                    refine wpStill_nil ?_
                    change wpList _ _ _ _ _ (World.drew _)
                    go_wp2_with fail
                    refine (HFl.out _ _ _ 2 (by exact RdP.drew (WS.rd HX9.out))).mono ?_
                    rintro e wz ⟨rfl, hz, gz⟩
                    have HZ := Lib.hid ((WS.drewN HX9.out 1).step hz gz)
                    go_wp2
                    first | go_end0 | (refine bodyPost_ret (results_none rfl _ _ _) rfl ?_)
                    exact ⟨rfl, by rw [HE.out]; exact HZ.out.rd, by rw [HE.out]; exact HZ.out.cal, HZ.out.chg⟩
                  · have hat : (atP s.size σ' == (s.size : Int)) = false := by
                      rw [beq_eq_false_iff_ne]; unfold atP
                      have h1 : 0 < σ'.l.length := List.length_pos_iff.2 hl
                      have h2 := HX.out.rd.len
                      omega
                    have HE : Hid (R = (failP (atP s.size σ') 3 σ', c')) := by show _ = _; rw [HS.out]; unfold kstopP; rw [if_neg (by rw [hltr]; decide), if_neg hl]
                    (try rw [hltr])
                    clear hl HS hltr
                    go_wp2
                    go_quiet ((go_at_call 82; exact quietQ (HAt.out _ _ (by exact RdP.drewN (WS.rd HX.out) _))))
                    have HX9 := Lib.hid (HX.out.drewN nq)
                    generalize World.drewN _ nq = W9 at *
                    (try clear c0 c1)
                    obtain ⟨c0, c1⟩ := KBox.cells2 (WS.box HX9.out)
                    go_wp2
                    go_still_tail 5, (by kernel_rfl)
                    still_call ((HAt.out _ _ (by exact RdP.drew (WS.rd HX9.out))).mono (fun _ _ hh => ⟨hh.1, hh.2.symm⟩))
                    refine wpStill_nil ?_
                    change wpList _ _ _ _ _ (World.drew _)
                    go_wp2_with fail
                    refine (HFl.out _ _ _ 3 (by exact RdP.drew (WS.rd HX9.out))).mono ?_
                    rintro e wz ⟨rfl, hz, gz⟩
                    have HZ := Lib.hid ((WS.drewN HX9.out 1).step hz gz)
                    go_wp2
                    first | go_end0 | (refine bodyPost_ret (results_none rfl _ _ _) rfl ?_)
                    exact ⟨rfl, by rw [HE.out]; exact HZ.out.rd, by rw [HE.out]; exact HZ.out.cal, HZ.out.chg⟩
              | false =>
                have Hqn : Hid (q = 0 → false = true) := Hqd.out
                have HS : Hid (R = if (knextP s.size (kdateP s.size c' σ').1).2 then kwordsP s.size q true false (kdateP s.size c' σ').2 (knextP s.size (kdateP s.size c' σ').1).1 else ((knextP s.size (kdateP s.size c' σ').1).1, (kdateP s.size c' σ').2)) := by
                  show _ = _
                  rw [HK.out]
                  exact kwords_dates (fun x => x.elim hp0 (fun x => x.elim (fun y => by rw [hlt2] at y; cases y) (fun x => x.elim (fun y => by cases y) (fun y => by cases y.1)))) hd
                clear HK hp0 hd
                (try clear c0 c1)
                obtain ⟨c0, c1⟩ := KBox.cells2 (WS.box HWr.out)
                go_wp2_with fail
                refine (HWd.out _ _ HWr.out.rd HWr.out.mx).mono ?_
                rintro e w3 ⟨rfl, h3, g3⟩
                have HW3 := Lib.hid (HWr.out.step h3 g3)
                (try clear c0 c1)
                obtain ⟨c0, c1⟩ := KBox.cells2 (WS.box HW3.out)
                go_wp2_with fail
                refine (HAny.out _).mono ?_
                rintro e w4 ⟨rfl, hb4⟩
                have HW4 := Lib.hid (HW3.out.below hb4)
                (try clear c0 c1)
                obtain ⟨c0, c1⟩ := KBox.cells2 (WS.box HW4.out)
                go_wp2_with fail
                refine (HPk.out _ _ HW4.out.rd).mono ?_
                rintro e w5 ⟨rfl, h5, g5⟩
                have HW5 := Lib.hid (HW4.out.step h5 g5)
                clear h3 g3 hb4 h5 g5 HW3 HW4 HAny
                (try clear c0 c1)
                obtain ⟨c0, c1⟩ := KBox.cells2 (WS.box HW5.out)
                go_wp2_with fail
                refine (HPk.out _ _ HW5.out.rd).mono ?_
                rintro e w6 ⟨rfl, h6, g6⟩
                have HW6 := Lib.hid (HW5.out.step h6 g6)
                clear h6 g6 HW5
                (try clear c0 c1)
                obtain ⟨c0, c1⟩ := KBox.cells2 (WS.box HW6.out)
                go_wp2_with fail
                refine (kletter_any _ _).mono ?_
                rintro e w7 ⟨rfl, rfl⟩
                rw [hlt2]
                clear hlt2
                go_wp2_with fail
                refine (HDt.out _ _ _ HW6.out.rd HW6.out.cal HW6.out.mx (Nat.le_trans hB HW6.out.size)).mono ?_
                rintro e w8 ⟨rfl, h8, k8, g8⟩
                have HW8 := Lib.hid (HW6.out.two h8 k8 g8)
                clear h8 k8 g8
                generalize kdateP s.size c' σ' = r8 at *
                obtain ⟨σ8, c8⟩ := r8
                dsimp only at *
                (try clear c0 c1)
                obtain ⟨c0, c1⟩ := KBox.cells2 (WS.box HW8.out)
                go_wp2_with fail
                refine (HNx.out _ _ (WS.rd HW8.out)).mono ?_
                rintro e w9 ⟨rfl, h9, g9⟩
                have HW9 := Lib.hid (WS.step HW8.out h9 g9)
                clear h9 g9
                generalize knextP s.size σ8 = nx at *
                obtain ⟨σ9, nb⟩ := nx
                dsimp only at *
                cases nb with
                | false =>
                  have HE : Hid (R = (σ9, c8)) := by show _ = _; rw [HS.out]; rfl
                  clear HS
                  go_wp2
                  first | go_end0 | (refine bodyPost_ret (results_none rfl _ _ _) rfl ?_)
                  exact ⟨rfl, by rw [HE.out]; exact HW9.out.rd, by rw [HE.out]; exact HW9.out.cal, HW9.out.chg⟩
                | true =>
                  have HE : Hid (R = kwordsP s.size q true false c8 σ9) := by show _ = _; rw [HS.out]; rfl
                  clear HS
                  go_wp2
                  go_roundg q
                  case measure => omega
                  case rel => exact ⟨_, _, c8, σ9, rfl, rfl, by first | (intro; rfl) | (intro h0; exact Hqn.out h0), by intro; first | exact .inl rfl | exact .inr rfl, by omega, HE.out, HW9.out⟩
            | false =>
              rw [hd] at HAny
              have Hqn : Hid (q = 0 → true = true) := fun _ => rfl
              have HS : Hid (R = if (knextP s.size (ktimeP s.size c' σ').1).2 then kwordsP s.size q date true (ktimeP s.size c' σ').2 (knextP s.size (ktimeP s.size c' σ').1).1 else ((knextP s.size (ktimeP s.size c' σ').1).1, (ktimeP s.size c' σ').2)) := by
                show _ = _
                rw [HK.out]
                exact kwords_times (fun x => x.elim hp0 (fun x => x.elim (fun y => by rw [hlt2] at y; cases y) (fun x => x.elim (fun y => by cases y) (fun y => by rw [hd] at y; cases y.2)))) hd
              clear HK hp0 hd
              cases date with
              | true =>
                (try clear c0 c1)
                obtain ⟨c0, c1⟩ := KBox.cells2 (WS.box HWr.out)
                go_wp2_with fail
                refine (HWd.out _ _ HWr.out.rd HWr.out.mx).mono ?_
                rintro e w3 ⟨rfl, h3, g3⟩
                have HW3 := Lib.hid (HWr.out.step h3 g3)
                (try clear c0 c1)
                obtain ⟨c0, c1⟩ := KBox.cells2 (WS.box HW3.out)
                go_wp2_with fail
                refine (HAny.out _).mono ?_
                rintro e w4 ⟨rfl, hb4⟩
                have HW4 := Lib.hid (HW3.out.below hb4)
                (try clear c0 c1)
                obtain ⟨c0, c1⟩ := KBox.cells2 (WS.box HW4.out)
                go_wp2_with fail
                refine (HPk.out _ _ HW4.out.rd).mono ?_
                rintro e w5 ⟨rfl, h5, g5⟩
                have HW5 := Lib.hid (HW4.out.step h5 g5)
                clear h3 g3 hb4 h5 g5 HW3 HW4 HAny
                (try clear c0 c1)
                obtain ⟨c0, c1⟩ := KBox.cells2 (WS.box HW5.out)
                go_wp2_with fail
                refine (HPk.out _ _ HW5.out.rd).mono ?_
                rintro e w6 ⟨rfl, h6, g6⟩
                have HW6 := Lib.hid (HW5.out.step h6 g6)
                clear h6 g6 HW5
                (try clear c0 c1)
                obtain ⟨c0, c1⟩ := KBox.cells2 (WS.box HW6.out)
                go_wp2_with fail
                refine (kletter_any _ _).mono ?_
                rintro e w7 ⟨rfl, rfl⟩
                rw [hlt2]
                clear hlt2
                go_wp2_with fail
                refine (HTm.out _ _ _ HW6.out.rd HW6.out.cal (Nat.le_trans hB HW6.out.size)).mono ?_
                rintro e w8 ⟨rfl, h8, k8, g8⟩
                have HW8 := Lib.hid (HW6.out.two h8 k8 g8)
                clear h8 k8 g8
                generalize ktimeP s.size c' σ' = r8 at *
                obtain ⟨σ8, c8⟩ := r8
                dsimp only at *
                (try clear c0 c1)
                obtain ⟨c0, c1⟩ := KBox.cells2 (WS.box HW8.out)
                go_wp2_with fail
                refine (HNx.out _ _ (WS.rd HW8.out)).mono ?_
                rintro e w9 ⟨rfl, h9, g9⟩
                have HW9 := Lib.hid (WS.step HW8.out h9 g9)
                clear h9 g9
                generalize knextP s.size σ8 = nx at *
                obtain ⟨σ9, nb⟩ := nx
                dsimp only at *
                cases nb with
                | false =>
                  have HE : Hid (R = (σ9, c8)) := by show _ = _; rw [HS.out]; rfl
                  clear HS
                  go_wp2
                  first | go_end0 | (refine bodyPost_ret (results_none rfl _ _ _) rfl ?_)
                  exact ⟨rfl, by rw [HE.out]; exact HW9.out.rd, by rw [HE.out]; exact HW9.out.cal, HW9.out.chg⟩
                | true =>
                  have HE : Hid (R = kwordsP s.size q true true c8 σ9) := by show _ = _; rw [HS.out]; rfl
                  clear HS
                  go_wp2
                  go_roundg q
                  case measure => omega
                  case rel => exact ⟨_, _, c8, σ9, rfl, rfl, by first | (intro; rfl) | (intro h0; exact Hqn.out h0), by intro; first | exact .inl rfl | exact .inr rfl, by omega, HE.out, HW9.out⟩
              | false =>
                (try clear c0 c1)
                obtain ⟨c0, c1⟩ := KBox.cells2 (WS.box HWr.out)
                go_wp2_with fail
                refine (HWd.out _ _ HWr.out.rd HWr.out.mx).mono ?_
                rintro e w3 ⟨rfl, h3, g3⟩
                have HW3 := Lib.hid (HWr.out.step h3 g3)
                (try clear c0 c1)
                obtain ⟨c0, c1⟩ := KBox.cells2 (WS.box HW3.out)
                go_wp2_with fail
                refine (HAny.out _).mono ?_
                rintro e w4 ⟨rfl, hb4⟩
                have HW4 := Lib.hid (HW3.out.below hb4)
                (try clear c0 c1)
                obtain ⟨c0, c1⟩ := KBox.cells2 (WS.box HW4.out)
                go_wp2_with fail
                refine (HPk.out _ _ HW4.out.rd).mono ?_
                rintro e w5 ⟨rfl, h5, g5⟩
                have HW5 := Lib.hid (HW4.out.step h5 g5)
                clear h3 g3 hb4 h5 g5 HW3 HW4 HAny
                (try clear c0 c1)
                obtain ⟨c0, c1⟩ := KBox.cells2 (WS.box HW5.out)
                go_wp2_with fail
                refine (HPk.out _ _ HW5.out.rd).mono ?_
                rintro e w6 ⟨rfl, h6, g6⟩
                have HW6 := Lib.hid (HW5.out.step h6 g6)
                clear h6 g6 HW5
                (try clear c0 c1)
                obtain ⟨c0, c1⟩ := KBox.cells2 (WS.box HW6.out)
                go_wp2_with fail
                refine (kletter_any _ _).mono ?_
                rintro e w7 ⟨rfl, rfl⟩
                rw [hlt2]
                clear hlt2
                go_wp2_with fail
                refine (HTm.out _ _ _ HW6.out.rd HW6.out.cal (Nat.le_trans hB HW6.out.size)).mono ?_
                rintro e w8 ⟨rfl, h8, k8, g8⟩
                have HW8 := Lib.hid (HW6.out.two h8 k8 g8)
                clear h8 k8 g8
                generalize ktimeP s.size c' σ' = r8 at *
                obtain ⟨σ8, c8⟩ := r8
                dsimp only at *
                (try clear c0 c1)
                obtain ⟨c0, c1⟩ := KBox.cells2 (WS.box HW8.out)
                go_wp2_with fail
                refine (HNx.out _ _ (WS.rd HW8.out)).mono ?_
                rintro e w9 ⟨rfl, h9, g9⟩
                have HW9 := Lib.hid (WS.step HW8.out h9 g9)
                clear h9 g9
                generalize knextP s.size σ8 = nx at *
                obtain ⟨σ9, nb⟩ := nx
                dsimp only at *
                cases nb with
                | false =>
                  have HE : Hid (R = (σ9, c8)) := by show _ = _; rw [HS.out]; rfl
                  clear HS
                  go_wp2
                  first | go_end0 | (refine bodyPost_ret (results_none rfl _ _ _) rfl ?_)
                  exact ⟨rfl, by rw [HE.out]; exact HW9.out.rd, by rw [HE.out]; exact HW9.out.cal, HW9.out.chg⟩
                | true =>
                  have HE : Hid (R = kwordsP s.size q false true c8 σ9) := by show _ = _; rw [HS.out]; rfl
                  clear HS
                  go_wp2
                  go_roundg q
                  case measure => omega
                  case rel => exact ⟨_, _, c8, σ9, rfl, rfl, by first | (intro; rfl) | (intro h0; exact Hqn.out h0), by intro; first | exact .inl rfl | exact .inr rfl, by omega, HE.out, HW9.out⟩
theorem words_any {w : World} {b C B : Nat} {s : ByteArray} {σ : PS} (hs : s.size ≤ 1000000) (h : RdP w b s σ) (hc : CalAt w C B calNil) (hm : MaxAt w) (hCb : C ≠ b) (hCB : C < B) (hbB : b < B) (hB : B ≤ w.heap.size) :
    Calls Tryz.prog 45 #[kV b s, .pointer (some ⟨C, 0, none⟩)] w (RetC (.tuple #[]) b C B s (kallP s.size σ).1 (kallP s.size σ).2 w) := by
  cases hl : ltrI (peekP σ) with
  | true => exact words_let hs h hc hm hCb hCB hbB hB hl
  | false => exact words_ks hs h hc hm hCb hCB hbB hB hl
end Go.Proofs.YtochhmkdhdadhaaGreat
