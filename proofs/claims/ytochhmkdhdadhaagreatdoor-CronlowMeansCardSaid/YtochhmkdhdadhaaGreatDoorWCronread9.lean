/- What Read hands back, as a line. -/
import Derived.Test.YtochhmkdhdadhaaGreatDoorWCronread7
import Derived.Test.YtochhmkdhdadhaaGreatDoorRLives
/- The walk of cronread.Read: a text that is read. -/
namespace Go.Proofs.YtochhmkdhdadhaaGreatDoor
open Go.RowKit
set_option linter.unusedSimpArgs false
set_option linter.unusedVariables false

set_option maxRecDepth 20000 in
set_option maxHeartbeats 4000000 in
theorem read_plain (s : ByteArray) (hs : s.size ≤ 1000000) (hl : s.size ≤ 8192) (h64 : headB (· == 64) (s.data.toList.dropWhile blankP) = false) (w : World) :
    Calls Tryz.prog 15 #[.string s] w (RetRead s (outR s) w) := by
  have hs9 : s.size ≤ 9223372036854775807 := by omega
  have HN := Lib.hid (fun W => new_ok hs9 hl W)
  have HO0 : Hid (contR s [] 5 0 (s.data.toList.dropWhile blankP) = outR s) := by
    show _ = _
    unfold outR; rw [if_neg (by omega), if_neg (by rw [h64]; simp)]
  generalize outR s = O at HO0 ⊢
  have hp : ((pPeek (s.data.toList.dropWhile blankP)) == 64) = false := by
    cases hc : s.data.toList.dropWhile blankP with
    | nil => rfl
    | cons c m =>
      rw [hc] at h64
      have h64 : (c == 64) = false := h64
      have : c ≠ 64 := by simpa using h64
      show ((c.toNat : Int) == 64) = false
      rw [beq_eq_false_iff_ne]
      intro h
      exact this (UInt8.toNat_inj.1 (by show c.toNat = 64; omega))
  go_enter Tryz.func15, Tryz.ntmps15
  go_wp2_with fail
  refine (HN.out _).mono ?_
  rintro e w1 ⟨b, hb0, rfl, h1, hb1⟩
  have hbS1 : Below w.heap.size w w1 := ((Below.refl _ w).alloc (Nat.le_refl _) _).trans (hb1.mono (by simp))
  have hbgt : w.heap.size < b := by simp at hb0; omega
  have HR1 := Lib.hid ((arr5_new w 24 (.slice none 0 0) (.slice none 0 0) (.slice none 0 0) (.slice none 0 0) (.slice none 0 0) nil5 rfl rfl rfl rfl rfl).below (by simp) hb1)
  have hzw1 := Nat.lt_of_lt_of_le hbgt (Nat.le_of_lt h1.lt)
  go_wp2_with fail
  refine (blanks_live hs9 h1).mono ?_
  rintro e w2 ⟨rfl, h2, g2⟩
  go_wp2_with fail
  refine (peek_live h2).mono ?_
  rintro e w3 ⟨rfl, h3, g3⟩
  have g23 := g2.trans g3
  have hbS := Chg.below hbS1 g23 (Nat.le_of_lt hbgt) hbS1.size
  have HR := Lib.hid (Arr.chg HR1.out (by decide) g23 (by omega))
  have HSt : Hid (RState w3 b s [] 0 O) := .inl ⟨_, h3, HO0.out⟩
  have hb3 := h3.lt
  clear h1 h2 h3 g2 g3 g23 hb1 hbS1 HR1 h64 hzw1
  go_wp2_with fail
  have HC0 := Lib.hid ((arr5_new w3 24 (.slice none 0 0) (.slice none 0 0) (.slice none 0 0) (.slice none 0 0) (.slice none 0 0) (slAt (fun _ => none) (fun _ => 0) (fun _ => 0)) rfl rfl rfl rfl rfl).alloc (by simp) (.cells #[.pointer (some ⟨w3.heap.size, 0, none⟩), .pointer (some ⟨w3.heap.size, 1, none⟩), .pointer (some ⟨w3.heap.size, 2, none⟩), .pointer (some ⟨w3.heap.size, 3, none⟩), .pointer (some ⟨w3.heap.size, 4, none⟩)] 84))
  have HP0 := Lib.hid (arr5_new (w3.alloc (.cells #[.slice none 0 0, .slice none 0 0, .slice none 0 0, .slice none 0 0, .slice none 0 0] 24)) 84 (.pointer (some ⟨w3.heap.size, 0, none⟩)) (.pointer (some ⟨w3.heap.size, 1, none⟩)) (.pointer (some ⟨w3.heap.size, 2, none⟩)) (.pointer (some ⟨w3.heap.size, 3, none⟩)) (.pointer (some ⟨w3.heap.size, 4, none⟩)) (fun j => .pointer (some ⟨w3.heap.size, j, none⟩)) rfl rfl rfl rfl rfl)
  have hzS := hbS.size
  have hzw : w.heap.size < w3.heap.size := by omega
  have HR0 := Lib.hid ((HR.out.alloc hzw (.cells #[.slice none 0 0, .slice none 0 0, .slice none 0 0, .slice none 0 0, .slice none 0 0] 24)).alloc (by simp; omega) (.cells #[.pointer (some ⟨w3.heap.size, 0, none⟩), .pointer (some ⟨w3.heap.size, 1, none⟩), .pointer (some ⟨w3.heap.size, 2, none⟩), .pointer (some ⟨w3.heap.size, 3, none⟩), .pointer (some ⟨w3.heap.size, 4, none⟩)] 84))
  go_loopw [30] (fun i wr => ∃ (k : Nat) (F : Nat → List It) (A : Nat → Option Addr) (n c : Nat → Nat), k ≤ 5 ∧ i = .int .i64 k ∧ Hid (RState wr b s ((List.range k).map F) k O) ∧ Hid (Arr wr w3.heap.size 5 (slAt A n c)) ∧ Hid (∀ j, j < k → OwnIts wr (w3.heap.size + 2) (slAt A n c j) (F j)) ∧ Hid (Arr wr (w3.heap.size + 1) 5 (fun j => .pointer (some ⟨w3.heap.size, j, none⟩))) ∧ Hid (Arr wr w.heap.size 5 nil5) ∧ Below w.heap.size w wr ∧ w3.heap.size + 2 ≤ wr.heap.size) (fun i _ => 5 - (intOf i).toNat)
  case atStart =>
    exact ⟨0, fun _ => [], fun _ => none, fun _ => 0, fun _ => 0, by omega, rfl, (HSt.out.below ((Below.refl _ w3).alloc (Nat.le_refl _) _)).below ((Below.refl _ _).alloc (Nat.le_refl _) _), HC0.out, fun j hj => absurd hj (Nat.not_lt_zero _), by show Arr _ _ _ _; have := HP0.out; simpa using this, HR0.out, (hbS.alloc hzS _).alloc (by simp; omega) _, by simp⟩
  case round =>
    obtain ⟨k, F, A, n, c, hk, rfl, HStk, HCk, HOk, HPk, HRk, hbk, hzk⟩ := hrel
    have hszk := hbk.size
    have hzC : w3.heap.size < wr.heap.size := by omega
    have hzP : w3.heap.size + 1 < wr.heap.size := by omega
    have hzR : w.heap.size < wr.heap.size := by omega
    have hzb : b < wr.heap.size := by omega
    by_cases h5 : k < 5
    · have h5' : (k : Int) < 5 := by omega
      have hk0 : (0 : Int) ≤ (k : Int) := by omega
      have cP := HPk.out.1 k h5
      have HFd := Lib.hid (fun W (h : RState W b s ((List.range k).map F) k O) => field_any b k h5 s hs ((List.range k).map F) O W h)
      go_wp2_with fail
      refine (HFd.out _ (HStk.out.below ((Below.refl _ wr).alloc (Nat.le_refl _) _))).mono ?_
      rintro e w4 ⟨A', n', c', L, rfl, hown, g4, hst⟩
      have g4' : Chg b wr w4 := ((Chg.refl b wr).alloc _).trans g4
      have HC4 := Lib.hid (Arr.chg HCk.out (by decide) g4' (by omega))
      have HP4 := Lib.hid (Arr.chg HPk.out (by decide) g4' (by omega))
      have HR4 := Lib.hid (Arr.chg HRk.out (by decide) g4' (by omega))
      have hO4 : ∀ j, j < k → OwnIts w4 (w3.heap.size + 2) (slAt A n c j) (F j) := fun j hj => own_chg (HOk.out j hj) g4' (by omega)
      have HO4 := Lib.hid hO4
      have hbk4 := Chg.below hbk g4' (by omega) hszk
      have hz4 := g4.size
      simp at hz4
      have hown4 : OwnIts w4 (w3.heap.size + 2) (.slice A' n' c') L := own_base hown (by simp; omega)
      have HN4 := Lib.hid hown4
      have ck := HC4.out.1 k h5
      have fk := HC4.out.2 k
      have hst2 : (∃ l1, Live (w4.setCell ⟨w3.heap.size, k, none⟩ (.slice A' n' c')) b s l1 ∧ (k = 4 → contR s ((List.range k).map F ++ [L]) 0 5 l1 = O) ∧ (k < 4 → (l1.takeWhile blankP = [] → O = .error (placeI s l1.length, pLack l1)) ∧ (l1.takeWhile blankP ≠ [] → contR s ((List.range k).map F ++ [L]) (4 - k) (k + 1) (l1.dropWhile blankP) = O))) ∨ ∃ a c, Dead (w4.setCell ⟨w3.heap.size, k, none⟩ (.slice A' n' c')) b s a c ∧ O = .error (a, c) := by
        rcases hst with ⟨l1, h1, h2⟩ | ⟨a, c, h1, h2⟩
        · exact .inl ⟨l1, h1.set (by omega) _, h2⟩
        · exact .inr ⟨a, c, h1.set (by omega) _, h2⟩
      have HS2 := Lib.hid hst2
      have HC5 := Lib.hid (HC4.out.set k h5 (.slice A' n' c') (g' := slAt (upd A k A') (upd n k n') (upd c k c')) slAt_upd (fun j _ hj => slAt_ne hj))
      have HP5 := Lib.hid (HP4.out.other (b' := w3.heap.size) (i := k) (v := .slice A' n' c') (by omega))
      have HR5 := Lib.hid (HR4.out.other (b' := w3.heap.size) (i := k) (v := .slice A' n' c') (by omega))
      have hcs : Chg w3.heap.size w4 (w4.setCell ⟨w3.heap.size, k, none⟩ (.slice A' n' c')) := (Chg.refl _ _).set _ _
      have hO5 : ∀ j, j < k + 1 → OwnIts (w4.setCell ⟨w3.heap.size, k, none⟩ (.slice A' n' c')) (w3.heap.size + 2) (slAt (upd A k A') (upd n k n') (upd c k c') j) (upd F k L j) := by
        intro j hj
        by_cases e : j = k
        · subst e
          rw [slAt_upd]
          have : upd F j L j = L := by simp [upd]
          rw [this]
          exact own_chg HN4.out hcs (by omega)
        · rw [slAt_ne e]
          have : upd F k L j = F j := by simp [upd, e]
          rw [this]
          exact own_chg (HO4.out j (by omega)) hcs (by omega)
      have HO5 := Lib.hid hO5
      have hbk5 : Below w.heap.size w (w4.setCell ⟨w3.heap.size, k, none⟩ (.slice A' n' c')) := hbk4.setCell (by simp; omega) _
      unfold slAt at ck
      clear hown hst hO4 hown4 hst2 hcs hO5 g4 g4' cP
      by_cases h4 : k < 4
      · have h4' : (k : Int) < 4 := by omega
        go_wp2_with fail
        have hbt : (∃ l1, Live (w4.setCell ⟨w3.heap.size, k, none⟩ (.slice A' n' c')) b s l1 ∧ ((l1.takeWhile blankP = [] → O = .error (placeI s l1.length, pLack l1)) ∧ (l1.takeWhile blankP ≠ [] → contR s ((List.range (k + 1)).map (upd F k L)) (4 - k) (k + 1) (l1.dropWhile blankP) = O))) ∨ ∃ a c, Dead (w4.setCell ⟨w3.heap.size, k, none⟩ (.slice A' n' c')) b s a c ∧ O = .error (a, c) := by
          rw [range_upd]
          rcases HS2.out with ⟨l1, h1, _, h2⟩ | h2
          · exact .inl ⟨l1, h1, h2 h4⟩
          · exact .inr h2
        refine (between_any b k h4 s hs9 _ O _ hbt).mono ?_
        rintro e w5 ⟨rfl, hst5, g5⟩
        have hz5 := g5.size
        simp [World.setCell] at hz5
        go_wp2
        go_roundw
        case rel =>
          exact ⟨k + 1, upd F k L, upd A k A', upd n k n', upd c k c', by omega, by go_num, hst5, Arr.chg HC5.out (by decide) g5 (by omega), fun j hj => own_chg (HO5.out j hj) g5 (by omega), Arr.chg HP5.out (by decide) g5 (by omega), Arr.chg HR5.out (by decide) g5 (by omega), Chg.below hbk5 g5 (by omega) hbk5.size, by omega⟩
        case measure => simp [intOf]; omega
      · have h4' : ¬ (k : Int) < 4 := by omega
        go_wp2
        go_roundw
        case rel =>
          refine ⟨k + 1, upd F k L, upd A k A', upd n k n', upd c k c', by omega, by go_num, ?_, HC5.out, HO5.out, HP5.out, HR5.out, hbk5, by simp [World.setCell]; omega⟩
          obtain rfl : k = 4 := by omega
          show RState _ _ _ _ _ _
          rw [range_upd]
          rcases HS2.out with ⟨l1, h1, h2, _⟩ | h2
          · exact .inl ⟨l1, h1, h2 rfl⟩
          · exact .inr h2
        case measure => simp [intOf]; omega
    · obtain rfl : k = 5 := by omega
      rcases HStk.out with ⟨l, hL, hO⟩ | ⟨a, ec, hD, hO⟩
      · have HE : Hid (O = if l.dropWhile blankP = [] then .ok ((List.range 5).map F) else .error (placeI s (l.dropWhile blankP).length, 3)) := by
          show _ = _
          rw [← hO]
          unfold contR
          rw [show 5 - 5 = 0 from rfl, cFields]
          simp
        clear hO
        by_cases hend : l.dropWhile blankP = []
        · have HE2 : Hid (O = .ok ((List.range 5).map F)) := by show _ = _; rw [HE.out, if_pos hend]
          have HEnd := Lib.hid hend
          clear hend
          go_wp2_with fail
          refine (blanks_live hs9 hL).mono ?_
          rintro e w4 ⟨rfl, h4, g4⟩
          rw [HEnd.out] at h4
          go_wp2_with fail
          refine (end_ok h4).mono ?_
          rintro e w5 ⟨rfl, h5', g5⟩
          go_wp2_with fail
          refine (wrong_live h5').mono ?_
          rintro e w6 ⟨rfl, h6, g6⟩
          have g46 := (g4.trans g5).trans g6
          have HC6 := Lib.hid (Arr.chg HCk.out (by decide) g46 (by omega))
          have HR6 := Lib.hid (Arr.chg HRk.out (by decide) g46 (by omega))
          have HO6 : Hid (∀ j, j < 5 → OwnIts w6 (w3.heap.size + 2) (slAt A n c j) (F j)) := fun j hj => own_chg (HOk.out j hj) g46 (by omega)
          have hb6 := Chg.below hbk g46 (by omega) hszk
          have hz6 := g46.size
          obtain ⟨x0, x1, x2, x3, x4, xf⟩ := arr5 HC6.out
          obtain ⟨y0, y1, y2, y3, y4, yf⟩ := arr5 HR6.out
          have HAtW : Hid (∀ W, Live W b s [] → Calls Tryz.prog 50 #[.pointer (some ⟨b, 0, none⟩)] W (RetQ (.int .i64 (s.size : Int)) W)) := fun W h => by
            have := at_pure h
            rw [show placeI s ([] : List UInt8).length = (s.size : Int) from placeI_nil s] at this
            exact this
          have H6 := Lib.hid h6
          unfold slAt at x0 x1 x2 x3 x4
          unfold nil5 at y0 y1 y2 y3 y4
          clear g4 g5 g6 g46 h4 h5' h6 hL
          go_wp2_with fail
          go_region_with (go_at_call 50; (with_reducible refine (HAtW.out _ ?_).mono ?_); (focus (exact H6.out)); rintro e w7 ⟨rfl, rfl⟩)
          all_goals (try simp only [Exit.then])
          all_goals (try go_wp2)
          all_goals refine bodyPost_ret (v := .tuple #[crV A n c, .int .i64 (s.size : Int), .int .i64 0]) ?_ rfl ⟨?_, .inl ⟨F, A, n, c, HE2.out, rfl, fun k hk => ?_⟩⟩
          all_goals first
            | (rw [results_cell2 rfl]; go_simp; done)
            | ((repeat' (first | (with_reducible exact Below.refl _ _) | (with_reducible assumption) | (with_reducible refine below_drewN ?_ _) | (with_reducible refine Below.alloc ?_ ?_ _) | (with_reducible refine Below.drew ?_) | (with_reducible refine Below.setCell ?_ ?_ _) | go_size)); done)
            | (show World.ownsRow _ _ _ _ _ _ _; refine own_base (B := w3.heap.size + 2) ?_ (by omega); exact own_far (HO6.out k hk) (by omega))
        · have HE2 : Hid (O = .error (placeI s (l.dropWhile blankP).length, 3)) := by show _ = _; rw [HE.out, if_neg hend]
          have HEnd := Lib.hid hend
          clear hend
          go_wp2_with fail
          refine (blanks_live hs9 hL).mono ?_
          rintro e w4 ⟨rfl, h4, g4⟩
          go_wp2_with fail
          refine (end_err h4 HEnd.out).mono ?_
          rintro e w5 ⟨rfl, h5', g5⟩
          go_wp2_with fail
          refine (wrong_dead h5').mono ?_
          rintro e w6 ⟨rfl, h6, g6⟩
          have g46 := (g4.trans g5).trans g6
          have HR6 := Lib.hid (Arr.chg HRk.out (by decide) g46 (by omega))
          have hb6 := Chg.below hbk g46 (by omega) hszk
          have hz6 := g46.size
          obtain ⟨y0, y1, y2, y3, y4, yf⟩ := arr5 HR6.out
          unfold nil5 at y0 y1 y2 y3 y4
          clear g4 g5 g6 g46 h4 h5' h6
          go_wp2
          refine bodyPost_ret (v := .tuple #[crV (fun _ => none) (fun _ => 0) (fun _ => 0), .int .i64 _, .int .i64 _]) ?_ rfl ⟨?_, .inr ⟨_, _, HE2.out, (by decide), rfl⟩⟩
          · rw [results_cell2 rfl]
            go_simp
          · (repeat' (first | (with_reducible exact Below.refl _ _) | (with_reducible assumption) | (with_reducible refine below_drewN ?_ _) | (with_reducible refine Below.alloc ?_ ?_ _) | (with_reducible refine Below.drew ?_) | (with_reducible refine Below.setCell ?_ ?_ _) | go_size))
      · have HE2 : Hid (O = .error (a, ec)) := hO
        have hne0 := hD.1
        clear hO
        go_wp2_with fail
        refine (blanks_dead hs9 hD).mono ?_
        rintro e w4 ⟨rfl, h4, g4⟩
        go_wp2_with fail
        refine (end_dead h4).mono ?_
        rintro e w5 ⟨rfl, h5', g5⟩
        have hne0' : (ec != 0) = true := by simpa using hne0
        go_wp2_with fail
        refine (wrong_dead h5').mono ?_
        rintro e w6 ⟨rfl, h6, g6⟩
        have g46 := (g4.trans g5).trans g6
        have HR6 := Lib.hid (Arr.chg HRk.out (by decide) g46 (by omega))
        have hb6 := Chg.below hbk g46 (by omega) hszk
        have hz6 := g46.size
        obtain ⟨y0, y1, y2, y3, y4, yf⟩ := arr5 HR6.out
        unfold nil5 at y0 y1 y2 y3 y4
        clear g4 g5 g6 g46 h4 h5' h6
        go_wp2
        refine bodyPost_ret (v := .tuple #[crV (fun _ => none) (fun _ => 0) (fun _ => 0), .int .i64 _, .int .i64 _]) ?_ rfl ⟨?_, .inr ⟨_, _, HE2.out, hne0, rfl⟩⟩
        · rw [results_cell2 rfl]
          go_simp
        · (repeat' (first | (with_reducible exact Below.refl _ _) | (with_reducible assumption) | (with_reducible refine below_drewN ?_ _) | (with_reducible refine Below.alloc ?_ ?_ _) | (with_reducible refine Below.drew ?_) | (with_reducible refine Below.setCell ?_ ?_ _) | go_size))
end Go.Proofs.YtochhmkdhdadhaaGreatDoor

/- The walk of cronread.Read: a text that begins with @. -/
namespace Go.Proofs.YtochhmkdhdadhaaGreatDoor
open Go.RowKit
set_option linter.unusedSimpArgs false
set_option linter.unusedVariables false

set_option maxRecDepth 20000 in
set_option maxHeartbeats 4000000 in
theorem read_nick (s : ByteArray) (hs : s.size ≤ 1000000) (hl : s.size ≤ 8192) (h64 : headB (· == 64) (s.data.toList.dropWhile blankP) = true) (w : World) :
    Calls Tryz.prog 15 #[.string s] w (RetRead s (outR s) w) := by
  have hs9 : s.size ≤ 9223372036854775807 := by omega
  have HN := Lib.hid (fun W => new_ok hs9 hl W)
  have HO0 : Hid (outR s = .error (placeI s (s.data.toList.dropWhile blankP).length, 13)) := by
    show _ = _
    unfold outR; rw [if_neg (by omega), if_pos h64]
  generalize outR s = O at HO0 ⊢
  have hp : ((pPeek (s.data.toList.dropWhile blankP)) == 64) = true := by
    cases hc : s.data.toList.dropWhile blankP with
    | nil => rw [hc] at h64; cases h64
    | cons c m =>
      rw [hc] at h64
      have h64 : (c == 64) = true := h64
      obtain rfl : c = 64 := by simpa using h64
      rfl
  go_enter Tryz.func15, Tryz.ntmps15
  go_wp2_with fail
  refine (HN.out _).mono ?_
  rintro e w1 ⟨b, hb0, rfl, h1, hb1⟩
  have hbS1 : Below w.heap.size w w1 := ((Below.refl _ w).alloc (Nat.le_refl _) _).trans (hb1.mono (by simp))
  have hbgt : w.heap.size < b := by simp at hb0; omega
  have HR1 := Lib.hid ((arr5_new w 24 (.slice none 0 0) (.slice none 0 0) (.slice none 0 0) (.slice none 0 0) (.slice none 0 0) nil5 rfl rfl rfl rfl rfl).below (by simp) hb1)
  go_wp2_with fail
  refine (blanks_live hs9 h1).mono ?_
  rintro e w2 ⟨rfl, h2, g2⟩
  go_wp2_with fail
  refine (peek_live h2).mono ?_
  rintro e w3' ⟨rfl, h3', g3'⟩
  go_wp2_with fail
  refine (at_live h3').mono ?_
  rintro e w4' ⟨rfl, h4', g4'⟩
  go_wp2_with fail
  refine (fail_live _ 13 (by decide) h4').mono ?_
  rintro e w3 ⟨rfl, h3, g3⟩
  have g23 := ((g2.trans g3').trans g4').trans g3
  have hbS := Chg.below hbS1 g23 (Nat.le_of_lt hbgt) hbS1.size
  have HR := Lib.hid (Arr.chg HR1.out (by decide) g23 (by omega))
  have HSt : Hid (RState w3 b s [] 0 O) := .inr ⟨_, _, h3, HO0.out⟩
  have hb3 := h3.lt
  clear h1 h2 h3 g2 g3 g23 hb1 hbS1 HR1 hp h64 h3' g3' h4' g4'
  go_wp2_with fail
  have HC0 := Lib.hid ((arr5_new w3 24 (.slice none 0 0) (.slice none 0 0) (.slice none 0 0) (.slice none 0 0) (.slice none 0 0) (slAt (fun _ => none) (fun _ => 0) (fun _ => 0)) rfl rfl rfl rfl rfl).alloc (by simp) (.cells #[.pointer (some ⟨w3.heap.size, 0, none⟩), .pointer (some ⟨w3.heap.size, 1, none⟩), .pointer (some ⟨w3.heap.size, 2, none⟩), .pointer (some ⟨w3.heap.size, 3, none⟩), .pointer (some ⟨w3.heap.size, 4, none⟩)] 84))
  have HP0 := Lib.hid (arr5_new (w3.alloc (.cells #[.slice none 0 0, .slice none 0 0, .slice none 0 0, .slice none 0 0, .slice none 0 0] 24)) 84 (.pointer (some ⟨w3.heap.size, 0, none⟩)) (.pointer (some ⟨w3.heap.size, 1, none⟩)) (.pointer (some ⟨w3.heap.size, 2, none⟩)) (.pointer (some ⟨w3.heap.size, 3, none⟩)) (.pointer (some ⟨w3.heap.size, 4, none⟩)) (fun j => .pointer (some ⟨w3.heap.size, j, none⟩)) rfl rfl rfl rfl rfl)
  have hzS := hbS.size
  have hzw : w.heap.size < w3.heap.size := by omega
  have HR0 := Lib.hid ((HR.out.alloc hzw (.cells #[.slice none 0 0, .slice none 0 0, .slice none 0 0, .slice none 0 0, .slice none 0 0] 24)).alloc (by simp; omega) (.cells #[.pointer (some ⟨w3.heap.size, 0, none⟩), .pointer (some ⟨w3.heap.size, 1, none⟩), .pointer (some ⟨w3.heap.size, 2, none⟩), .pointer (some ⟨w3.heap.size, 3, none⟩), .pointer (some ⟨w3.heap.size, 4, none⟩)] 84))
  go_loopw [30] (fun i wr => ∃ (k : Nat) (F : Nat → List It) (A : Nat → Option Addr) (n c : Nat → Nat), k ≤ 5 ∧ i = .int .i64 k ∧ Hid (RState wr b s ((List.range k).map F) k O) ∧ Hid (Arr wr w3.heap.size 5 (slAt A n c)) ∧ Hid (∀ j, j < k → OwnIts wr (w3.heap.size + 2) (slAt A n c j) (F j)) ∧ Hid (Arr wr (w3.heap.size + 1) 5 (fun j => .pointer (some ⟨w3.heap.size, j, none⟩))) ∧ Hid (Arr wr w.heap.size 5 nil5) ∧ Below w.heap.size w wr ∧ w3.heap.size + 2 ≤ wr.heap.size) (fun i _ => 5 - (intOf i).toNat)
  case atStart =>
    exact ⟨0, fun _ => [], fun _ => none, fun _ => 0, fun _ => 0, by omega, rfl, (HSt.out.below ((Below.refl _ w3).alloc (Nat.le_refl _) _)).below ((Below.refl _ _).alloc (Nat.le_refl _) _), HC0.out, fun j hj => absurd hj (Nat.not_lt_zero _), by show Arr _ _ _ _; have := HP0.out; simpa using this, HR0.out, (hbS.alloc hzS _).alloc (by simp; omega) _, by simp⟩
  case round =>
    obtain ⟨k, F, A, n, c, hk, rfl, HStk, HCk, HOk, HPk, HRk, hbk, hzk⟩ := hrel
    have hszk := hbk.size
    have hzC : w3.heap.size < wr.heap.size := by omega
    have hzP : w3.heap.size + 1 < wr.heap.size := by omega
    have hzR : w.heap.size < wr.heap.size := by omega
    have hzb : b < wr.heap.size := by omega
    by_cases h5 : k < 5
    · have h5' : (k : Int) < 5 := by omega
      have hk0 : (0 : Int) ≤ (k : Int) := by omega
      have cP := HPk.out.1 k h5
      have HFd := Lib.hid (fun W (h : RState W b s ((List.range k).map F) k O) => field_any b k h5 s hs ((List.range k).map F) O W h)
      go_wp2_with fail
      refine (HFd.out _ (HStk.out.below ((Below.refl _ wr).alloc (Nat.le_refl _) _))).mono ?_
      rintro e w4 ⟨A', n', c', L, rfl, hown, g4, hst⟩
      have g4' : Chg b wr w4 := ((Chg.refl b wr).alloc _).trans g4
      have HC4 := Lib.hid (Arr.chg HCk.out (by decide) g4' (by omega))
      have HP4 := Lib.hid (Arr.chg HPk.out (by decide) g4' (by omega))
      have HR4 := Lib.hid (Arr.chg HRk.out (by decide) g4' (by omega))
      have hO4 : ∀ j, j < k → OwnIts w4 (w3.heap.size + 2) (slAt A n c j) (F j) := fun j hj => own_chg (HOk.out j hj) g4' (by omega)
      have HO4 := Lib.hid hO4
      have hbk4 := Chg.below hbk g4' (by omega) hszk
      have hz4 := g4.size
      simp at hz4
      have hown4 : OwnIts w4 (w3.heap.size + 2) (.slice A' n' c') L := own_base hown (by simp; omega)
      have HN4 := Lib.hid hown4
      have ck := HC4.out.1 k h5
      have fk := HC4.out.2 k
      have hst2 : (∃ l1, Live (w4.setCell ⟨w3.heap.size, k, none⟩ (.slice A' n' c')) b s l1 ∧ (k = 4 → contR s ((List.range k).map F ++ [L]) 0 5 l1 = O) ∧ (k < 4 → (l1.takeWhile blankP = [] → O = .error (placeI s l1.length, pLack l1)) ∧ (l1.takeWhile blankP ≠ [] → contR s ((List.range k).map F ++ [L]) (4 - k) (k + 1) (l1.dropWhile blankP) = O))) ∨ ∃ a c, Dead (w4.setCell ⟨w3.heap.size, k, none⟩ (.slice A' n' c')) b s a c ∧ O = .error (a, c) := by
        rcases hst with ⟨l1, h1, h2⟩ | ⟨a, c, h1, h2⟩
        · exact .inl ⟨l1, h1.set (by omega) _, h2⟩
        · exact .inr ⟨a, c, h1.set (by omega) _, h2⟩
      have HS2 := Lib.hid hst2
      have HC5 := Lib.hid (HC4.out.set k h5 (.slice A' n' c') (g' := slAt (upd A k A') (upd n k n') (upd c k c')) slAt_upd (fun j _ hj => slAt_ne hj))
      have HP5 := Lib.hid (HP4.out.other (b' := w3.heap.size) (i := k) (v := .slice A' n' c') (by omega))
      have HR5 := Lib.hid (HR4.out.other (b' := w3.heap.size) (i := k) (v := .slice A' n' c') (by omega))
      have hcs : Chg w3.heap.size w4 (w4.setCell ⟨w3.heap.size, k, none⟩ (.slice A' n' c')) := (Chg.refl _ _).set _ _
      have hO5 : ∀ j, j < k + 1 → OwnIts (w4.setCell ⟨w3.heap.size, k, none⟩ (.slice A' n' c')) (w3.heap.size + 2) (slAt (upd A k A') (upd n k n') (upd c k c') j) (upd F k L j) := by
        intro j hj
        by_cases e : j = k
        · subst e
          rw [slAt_upd]
          have : upd F j L j = L := by simp [upd]
          rw [this]
          exact own_chg HN4.out hcs (by omega)
        · rw [slAt_ne e]
          have : upd F k L j = F j := by simp [upd, e]
          rw [this]
          exact own_chg (HO4.out j (by omega)) hcs (by omega)
      have HO5 := Lib.hid hO5
      have hbk5 : Below w.heap.size w (w4.setCell ⟨w3.heap.size, k, none⟩ (.slice A' n' c')) := hbk4.setCell (by simp; omega) _
      unfold slAt at ck
      clear hown hst hO4 hown4 hst2 hcs hO5 g4 g4' cP
      by_cases h4 : k < 4
      · have h4' : (k : Int) < 4 := by omega
        go_wp2_with fail
        have hbt : (∃ l1, Live (w4.setCell ⟨w3.heap.size, k, none⟩ (.slice A' n' c')) b s l1 ∧ ((l1.takeWhile blankP = [] → O = .error (placeI s l1.length, pLack l1)) ∧ (l1.takeWhile blankP ≠ [] → contR s ((List.range (k + 1)).map (upd F k L)) (4 - k) (k + 1) (l1.dropWhile blankP) = O))) ∨ ∃ a c, Dead (w4.setCell ⟨w3.heap.size, k, none⟩ (.slice A' n' c')) b s a c ∧ O = .error (a, c) := by
          rw [range_upd]
          rcases HS2.out with ⟨l1, h1, _, h2⟩ | h2
          · exact .inl ⟨l1, h1, h2 h4⟩
          · exact .inr h2
        refine (between_any b k h4 s hs9 _ O _ hbt).mono ?_
        rintro e w5 ⟨rfl, hst5, g5⟩
        have hz5 := g5.size
        simp [World.setCell] at hz5
        go_wp2
        go_roundw
        case rel =>
          exact ⟨k + 1, upd F k L, upd A k A', upd n k n', upd c k c', by omega, by go_num, hst5, Arr.chg HC5.out (by decide) g5 (by omega), fun j hj => own_chg (HO5.out j hj) g5 (by omega), Arr.chg HP5.out (by decide) g5 (by omega), Arr.chg HR5.out (by decide) g5 (by omega), Chg.below hbk5 g5 (by omega) hbk5.size, by omega⟩
        case measure => simp [intOf]; omega
      · have h4' : ¬ (k : Int) < 4 := by omega
        go_wp2
        go_roundw
        case rel =>
          refine ⟨k + 1, upd F k L, upd A k A', upd n k n', upd c k c', by omega, by go_num, ?_, HC5.out, HO5.out, HP5.out, HR5.out, hbk5, by simp [World.setCell]; omega⟩
          obtain rfl : k = 4 := by omega
          show RState _ _ _ _ _ _
          rw [range_upd]
          rcases HS2.out with ⟨l1, h1, h2, _⟩ | h2
          · exact .inl ⟨l1, h1, h2 rfl⟩
          · exact .inr h2
        case measure => simp [intOf]; omega
    · obtain rfl : k = 5 := by omega
      rcases HStk.out with ⟨l, hL, hO⟩ | ⟨a, ec, hD, hO⟩
      · have HE : Hid (O = if l.dropWhile blankP = [] then .ok ((List.range 5).map F) else .error (placeI s (l.dropWhile blankP).length, 3)) := by
          show _ = _
          rw [← hO]
          unfold contR
          rw [show 5 - 5 = 0 from rfl, cFields]
          simp
        clear hO
        by_cases hend : l.dropWhile blankP = []
        · have HE2 : Hid (O = .ok ((List.range 5).map F)) := by show _ = _; rw [HE.out, if_pos hend]
          have HEnd := Lib.hid hend
          clear hend
          go_wp2_with fail
          refine (blanks_live hs9 hL).mono ?_
          rintro e w4 ⟨rfl, h4, g4⟩
          rw [HEnd.out] at h4
          go_wp2_with fail
          refine (end_ok h4).mono ?_
          rintro e w5 ⟨rfl, h5', g5⟩
          go_wp2_with fail
          refine (wrong_live h5').mono ?_
          rintro e w6 ⟨rfl, h6, g6⟩
          have g46 := (g4.trans g5).trans g6
          have HC6 := Lib.hid (Arr.chg HCk.out (by decide) g46 (by omega))
          have HR6 := Lib.hid (Arr.chg HRk.out (by decide) g46 (by omega))
          have HO6 : Hid (∀ j, j < 5 → OwnIts w6 (w3.heap.size + 2) (slAt A n c j) (F j)) := fun j hj => own_chg (HOk.out j hj) g46 (by omega)
          have hb6 := Chg.below hbk g46 (by omega) hszk
          have hz6 := g46.size
          obtain ⟨x0, x1, x2, x3, x4, xf⟩ := arr5 HC6.out
          obtain ⟨y0, y1, y2, y3, y4, yf⟩ := arr5 HR6.out
          have HAtW : Hid (∀ W, Live W b s [] → Calls Tryz.prog 50 #[.pointer (some ⟨b, 0, none⟩)] W (RetQ (.int .i64 (s.size : Int)) W)) := fun W h => by
            have := at_pure h
            rw [show placeI s ([] : List UInt8).length = (s.size : Int) from placeI_nil s] at this
            exact this
          have H6 := Lib.hid h6
          unfold slAt at x0 x1 x2 x3 x4
          unfold nil5 at y0 y1 y2 y3 y4
          clear g4 g5 g6 g46 h4 h5' h6 hL
          go_wp2_with fail
          go_region_with (go_at_call 50; (with_reducible refine (HAtW.out _ ?_).mono ?_); (focus (exact H6.out)); rintro e w7 ⟨rfl, rfl⟩)
          all_goals (try simp only [Exit.then])
          all_goals (try go_wp2)
          all_goals refine bodyPost_ret (v := .tuple #[crV A n c, .int .i64 (s.size : Int), .int .i64 0]) ?_ rfl ⟨?_, .inl ⟨F, A, n, c, HE2.out, rfl, fun k hk => ?_⟩⟩
          all_goals first
            | (rw [results_cell2 rfl]; go_simp; done)
            | ((repeat' (first | (with_reducible exact Below.refl _ _) | (with_reducible assumption) | (with_reducible refine below_drewN ?_ _) | (with_reducible refine Below.alloc ?_ ?_ _) | (with_reducible refine Below.drew ?_) | (with_reducible refine Below.setCell ?_ ?_ _) | go_size)); done)
            | (show World.ownsRow _ _ _ _ _ _ _; refine own_base (B := w3.heap.size + 2) ?_ (by omega); exact own_far (HO6.out k hk) (by omega))
        · have HE2 : Hid (O = .error (placeI s (l.dropWhile blankP).length, 3)) := by show _ = _; rw [HE.out, if_neg hend]
          have HEnd := Lib.hid hend
          clear hend
          go_wp2_with fail
          refine (blanks_live hs9 hL).mono ?_
          rintro e w4 ⟨rfl, h4, g4⟩
          go_wp2_with fail
          refine (end_err h4 HEnd.out).mono ?_
          rintro e w5 ⟨rfl, h5', g5⟩
          go_wp2_with fail
          refine (wrong_dead h5').mono ?_
          rintro e w6 ⟨rfl, h6, g6⟩
          have g46 := (g4.trans g5).trans g6
          have HR6 := Lib.hid (Arr.chg HRk.out (by decide) g46 (by omega))
          have hb6 := Chg.below hbk g46 (by omega) hszk
          have hz6 := g46.size
          obtain ⟨y0, y1, y2, y3, y4, yf⟩ := arr5 HR6.out
          unfold nil5 at y0 y1 y2 y3 y4
          clear g4 g5 g6 g46 h4 h5' h6
          go_wp2
          refine bodyPost_ret (v := .tuple #[crV (fun _ => none) (fun _ => 0) (fun _ => 0), .int .i64 _, .int .i64 _]) ?_ rfl ⟨?_, .inr ⟨_, _, HE2.out, (by decide), rfl⟩⟩
          · rw [results_cell2 rfl]
            go_simp
          · (repeat' (first | (with_reducible exact Below.refl _ _) | (with_reducible assumption) | (with_reducible refine below_drewN ?_ _) | (with_reducible refine Below.alloc ?_ ?_ _) | (with_reducible refine Below.drew ?_) | (with_reducible refine Below.setCell ?_ ?_ _) | go_size))
      · have HE2 : Hid (O = .error (a, ec)) := hO
        have hne0 := hD.1
        clear hO
        go_wp2_with fail
        refine (blanks_dead hs9 hD).mono ?_
        rintro e w4 ⟨rfl, h4, g4⟩
        go_wp2_with fail
        refine (end_dead h4).mono ?_
        rintro e w5 ⟨rfl, h5', g5⟩
        have hne0' : (ec != 0) = true := by simpa using hne0
        go_wp2_with fail
        refine (wrong_dead h5').mono ?_
        rintro e w6 ⟨rfl, h6, g6⟩
        have g46 := (g4.trans g5).trans g6
        have HR6 := Lib.hid (Arr.chg HRk.out (by decide) g46 (by omega))
        have hb6 := Chg.below hbk g46 (by omega) hszk
        have hz6 := g46.size
        obtain ⟨y0, y1, y2, y3, y4, yf⟩ := arr5 HR6.out
        unfold nil5 at y0 y1 y2 y3 y4
        clear g4 g5 g6 g46 h4 h5' h6
        go_wp2
        refine bodyPost_ret (v := .tuple #[crV (fun _ => none) (fun _ => 0) (fun _ => 0), .int .i64 _, .int .i64 _]) ?_ rfl ⟨?_, .inr ⟨_, _, HE2.out, hne0, rfl⟩⟩
        · rw [results_cell2 rfl]
          go_simp
        · (repeat' (first | (with_reducible exact Below.refl _ _) | (with_reducible assumption) | (with_reducible refine below_drewN ?_ _) | (with_reducible refine Below.alloc ?_ ?_ _) | (with_reducible refine Below.drew ?_) | (with_reducible refine Below.setCell ?_ ?_ _) | go_size))
end Go.Proofs.YtochhmkdhdadhaaGreatDoor

namespace Go.Proofs.YtochhmkdhdadhaaGreatDoor
open Go.RowKit
set_option linter.unusedSimpArgs false
set_option linter.unusedVariables false

set_option maxRecDepth 20000 in
set_option maxHeartbeats 4000000 in
theorem read_long (s : ByteArray) (hs : s.size ≤ 1000000) (hl : 8192 < s.size) (w : World) :
    Calls Tryz.prog 15 #[.string s] w (RetRead s (outR s) w) := by
  have hs9 : s.size ≤ 9223372036854775807 := by omega
  have HN := Lib.hid (fun W => new_long hs9 hl W)
  have HO0 : Hid (outR s = .error (8192, 5)) := by
    show _ = _
    unfold outR; rw [if_pos hl]
  generalize outR s = O at HO0 ⊢
  go_enter Tryz.func15, Tryz.ntmps15
  go_wp2_with fail
  refine (HN.out _).mono ?_
  rintro e w1 ⟨b, hb0, rfl, h1, hb1⟩
  have hbS1 : Below w.heap.size w w1 := ((Below.refl _ w).alloc (Nat.le_refl _) _).trans (hb1.mono (by simp))
  have hbgt : w.heap.size < b := by simp at hb0; omega
  have HR1 := Lib.hid ((arr5_new w 24 (.slice none 0 0) (.slice none 0 0) (.slice none 0 0) (.slice none 0 0) (.slice none 0 0) nil5 rfl rfl rfl rfl rfl).below (by simp) hb1)
  go_wp2_with fail
  refine (blanks_dead hs9 h1).mono ?_
  rintro e w2 ⟨rfl, h2, g2⟩
  go_wp2_with fail
  refine (peek_dead h2).mono ?_
  rintro e w3 ⟨rfl, h3, g3⟩
  have g23 := g2.trans g3
  have hbS := Chg.below hbS1 g23 (Nat.le_of_lt hbgt) hbS1.size
  have HR := Lib.hid (Arr.chg HR1.out (by decide) g23 (by omega))
  have HSt : Hid (RState w3 b s [] 0 O) := .inr ⟨_, _, h3, HO0.out⟩
  have hb3 := h3.lt
  clear h1 h2 h3 g2 g3 g23 hb1 hbS1 HR1
  go_wp2_with fail
  have HC0 := Lib.hid ((arr5_new w3 24 (.slice none 0 0) (.slice none 0 0) (.slice none 0 0) (.slice none 0 0) (.slice none 0 0) (slAt (fun _ => none) (fun _ => 0) (fun _ => 0)) rfl rfl rfl rfl rfl).alloc (by simp) (.cells #[.pointer (some ⟨w3.heap.size, 0, none⟩), .pointer (some ⟨w3.heap.size, 1, none⟩), .pointer (some ⟨w3.heap.size, 2, none⟩), .pointer (some ⟨w3.heap.size, 3, none⟩), .pointer (some ⟨w3.heap.size, 4, none⟩)] 84))
  have HP0 := Lib.hid (arr5_new (w3.alloc (.cells #[.slice none 0 0, .slice none 0 0, .slice none 0 0, .slice none 0 0, .slice none 0 0] 24)) 84 (.pointer (some ⟨w3.heap.size, 0, none⟩)) (.pointer (some ⟨w3.heap.size, 1, none⟩)) (.pointer (some ⟨w3.heap.size, 2, none⟩)) (.pointer (some ⟨w3.heap.size, 3, none⟩)) (.pointer (some ⟨w3.heap.size, 4, none⟩)) (fun j => .pointer (some ⟨w3.heap.size, j, none⟩)) rfl rfl rfl rfl rfl)
  have hzS := hbS.size
  have hzw : w.heap.size < w3.heap.size := by omega
  have HR0 := Lib.hid ((HR.out.alloc hzw (.cells #[.slice none 0 0, .slice none 0 0, .slice none 0 0, .slice none 0 0, .slice none 0 0] 24)).alloc (by simp; omega) (.cells #[.pointer (some ⟨w3.heap.size, 0, none⟩), .pointer (some ⟨w3.heap.size, 1, none⟩), .pointer (some ⟨w3.heap.size, 2, none⟩), .pointer (some ⟨w3.heap.size, 3, none⟩), .pointer (some ⟨w3.heap.size, 4, none⟩)] 84))
  go_loopw [30] (fun i wr => ∃ (k : Nat) (F : Nat → List It) (A : Nat → Option Addr) (n c : Nat → Nat), k ≤ 5 ∧ i = .int .i64 k ∧ Hid (RState wr b s ((List.range k).map F) k O) ∧ Hid (Arr wr w3.heap.size 5 (slAt A n c)) ∧ Hid (∀ j, j < k → OwnIts wr (w3.heap.size + 2) (slAt A n c j) (F j)) ∧ Hid (Arr wr (w3.heap.size + 1) 5 (fun j => .pointer (some ⟨w3.heap.size, j, none⟩))) ∧ Hid (Arr wr w.heap.size 5 nil5) ∧ Below w.heap.size w wr ∧ w3.heap.size + 2 ≤ wr.heap.size) (fun i _ => 5 - (intOf i).toNat)
  case atStart =>
    exact ⟨0, fun _ => [], fun _ => none, fun _ => 0, fun _ => 0, by omega, rfl, (HSt.out.below ((Below.refl _ w3).alloc (Nat.le_refl _) _)).below ((Below.refl _ _).alloc (Nat.le_refl _) _), HC0.out, fun j hj => absurd hj (Nat.not_lt_zero _), by show Arr _ _ _ _; have := HP0.out; simpa using this, HR0.out, (hbS.alloc hzS _).alloc (by simp; omega) _, by simp⟩
  case round =>
    obtain ⟨k, F, A, n, c, hk, rfl, HStk, HCk, HOk, HPk, HRk, hbk, hzk⟩ := hrel
    have hszk := hbk.size
    have hzC : w3.heap.size < wr.heap.size := by omega
    have hzP : w3.heap.size + 1 < wr.heap.size := by omega
    have hzR : w.heap.size < wr.heap.size := by omega
    have hzb : b < wr.heap.size := by omega
    by_cases h5 : k < 5
    · have h5' : (k : Int) < 5 := by omega
      have hk0 : (0 : Int) ≤ (k : Int) := by omega
      have cP := HPk.out.1 k h5
      have HFd := Lib.hid (fun W (h : RState W b s ((List.range k).map F) k O) => field_any b k h5 s hs ((List.range k).map F) O W h)
      go_wp2_with fail
      refine (HFd.out _ (HStk.out.below ((Below.refl _ wr).alloc (Nat.le_refl _) _))).mono ?_
      rintro e w4 ⟨A', n', c', L, rfl, hown, g4, hst⟩
      have g4' : Chg b wr w4 := ((Chg.refl b wr).alloc _).trans g4
      have HC4 := Lib.hid (Arr.chg HCk.out (by decide) g4' (by omega))
      have HP4 := Lib.hid (Arr.chg HPk.out (by decide) g4' (by omega))
      have HR4 := Lib.hid (Arr.chg HRk.out (by decide) g4' (by omega))
      have hO4 : ∀ j, j < k → OwnIts w4 (w3.heap.size + 2) (slAt A n c j) (F j) := fun j hj => own_chg (HOk.out j hj) g4' (by omega)
      have HO4 := Lib.hid hO4
      have hbk4 := Chg.below hbk g4' (by omega) hszk
      have hz4 := g4.size
      simp at hz4
      have hown4 : OwnIts w4 (w3.heap.size + 2) (.slice A' n' c') L := own_base hown (by simp; omega)
      have HN4 := Lib.hid hown4
      have ck := HC4.out.1 k h5
      have fk := HC4.out.2 k
      have hst2 : (∃ l1, Live (w4.setCell ⟨w3.heap.size, k, none⟩ (.slice A' n' c')) b s l1 ∧ (k = 4 → contR s ((List.range k).map F ++ [L]) 0 5 l1 = O) ∧ (k < 4 → (l1.takeWhile blankP = [] → O = .error (placeI s l1.length, pLack l1)) ∧ (l1.takeWhile blankP ≠ [] → contR s ((List.range k).map F ++ [L]) (4 - k) (k + 1) (l1.dropWhile blankP) = O))) ∨ ∃ a c, Dead (w4.setCell ⟨w3.heap.size, k, none⟩ (.slice A' n' c')) b s a c ∧ O = .error (a, c) := by
        rcases hst with ⟨l1, h1, h2⟩ | ⟨a, c, h1, h2⟩
        · exact .inl ⟨l1, h1.set (by omega) _, h2⟩
        · exact .inr ⟨a, c, h1.set (by omega) _, h2⟩
      have HS2 := Lib.hid hst2
      have HC5 := Lib.hid (HC4.out.set k h5 (.slice A' n' c') (g' := slAt (upd A k A') (upd n k n') (upd c k c')) slAt_upd (fun j _ hj => slAt_ne hj))
      have HP5 := Lib.hid (HP4.out.other (b' := w3.heap.size) (i := k) (v := .slice A' n' c') (by omega))
      have HR5 := Lib.hid (HR4.out.other (b' := w3.heap.size) (i := k) (v := .slice A' n' c') (by omega))
      have hcs : Chg w3.heap.size w4 (w4.setCell ⟨w3.heap.size, k, none⟩ (.slice A' n' c')) := (Chg.refl _ _).set _ _
      have hO5 : ∀ j, j < k + 1 → OwnIts (w4.setCell ⟨w3.heap.size, k, none⟩ (.slice A' n' c')) (w3.heap.size + 2) (slAt (upd A k A') (upd n k n') (upd c k c') j) (upd F k L j) := by
        intro j hj
        by_cases e : j = k
        · subst e
          rw [slAt_upd]
          have : upd F j L j = L := by simp [upd]
          rw [this]
          exact own_chg HN4.out hcs (by omega)
        · rw [slAt_ne e]
          have : upd F k L j = F j := by simp [upd, e]
          rw [this]
          exact own_chg (HO4.out j (by omega)) hcs (by omega)
      have HO5 := Lib.hid hO5
      have hbk5 : Below w.heap.size w (w4.setCell ⟨w3.heap.size, k, none⟩ (.slice A' n' c')) := hbk4.setCell (by simp; omega) _
      unfold slAt at ck
      clear hown hst hO4 hown4 hst2 hcs hO5 g4 g4' cP
      by_cases h4 : k < 4
      · have h4' : (k : Int) < 4 := by omega
        go_wp2_with fail
        have hbt : (∃ l1, Live (w4.setCell ⟨w3.heap.size, k, none⟩ (.slice A' n' c')) b s l1 ∧ ((l1.takeWhile blankP = [] → O = .error (placeI s l1.length, pLack l1)) ∧ (l1.takeWhile blankP ≠ [] → contR s ((List.range (k + 1)).map (upd F k L)) (4 - k) (k + 1) (l1.dropWhile blankP) = O))) ∨ ∃ a c, Dead (w4.setCell ⟨w3.heap.size, k, none⟩ (.slice A' n' c')) b s a c ∧ O = .error (a, c) := by
          rw [range_upd]
          rcases HS2.out with ⟨l1, h1, _, h2⟩ | h2
          · exact .inl ⟨l1, h1, h2 h4⟩
          · exact .inr h2
        refine (between_any b k h4 s hs9 _ O _ hbt).mono ?_
        rintro e w5 ⟨rfl, hst5, g5⟩
        have hz5 := g5.size
        simp [World.setCell] at hz5
        go_wp2
        go_roundw
        case rel =>
          exact ⟨k + 1, upd F k L, upd A k A', upd n k n', upd c k c', by omega, by go_num, hst5, Arr.chg HC5.out (by decide) g5 (by omega), fun j hj => own_chg (HO5.out j hj) g5 (by omega), Arr.chg HP5.out (by decide) g5 (by omega), Arr.chg HR5.out (by decide) g5 (by omega), Chg.below hbk5 g5 (by omega) hbk5.size, by omega⟩
        case measure => simp [intOf]; omega
      · have h4' : ¬ (k : Int) < 4 := by omega
        go_wp2
        go_roundw
        case rel =>
          refine ⟨k + 1, upd F k L, upd A k A', upd n k n', upd c k c', by omega, by go_num, ?_, HC5.out, HO5.out, HP5.out, HR5.out, hbk5, by simp [World.setCell]; omega⟩
          obtain rfl : k = 4 := by omega
          show RState _ _ _ _ _ _
          rw [range_upd]
          rcases HS2.out with ⟨l1, h1, h2, _⟩ | h2
          · exact .inl ⟨l1, h1, h2 rfl⟩
          · exact .inr h2
        case measure => simp [intOf]; omega
    · obtain rfl : k = 5 := by omega
      rcases HStk.out with ⟨l, hL, hO⟩ | ⟨a, ec, hD, hO⟩
      · have HE : Hid (O = if l.dropWhile blankP = [] then .ok ((List.range 5).map F) else .error (placeI s (l.dropWhile blankP).length, 3)) := by
          show _ = _
          rw [← hO]
          unfold contR
          rw [show 5 - 5 = 0 from rfl, cFields]
          simp
        clear hO
        by_cases hend : l.dropWhile blankP = []
        · have HE2 : Hid (O = .ok ((List.range 5).map F)) := by show _ = _; rw [HE.out, if_pos hend]
          have HEnd := Lib.hid hend
          clear hend
          go_wp2_with fail
          refine (blanks_live hs9 hL).mono ?_
          rintro e w4 ⟨rfl, h4, g4⟩
          rw [HEnd.out] at h4
          go_wp2_with fail
          refine (end_ok h4).mono ?_
          rintro e w5 ⟨rfl, h5', g5⟩
          go_wp2_with fail
          refine (wrong_live h5').mono ?_
          rintro e w6 ⟨rfl, h6, g6⟩
          have g46 := (g4.trans g5).trans g6
          have HC6 := Lib.hid (Arr.chg HCk.out (by decide) g46 (by omega))
          have HR6 := Lib.hid (Arr.chg HRk.out (by decide) g46 (by omega))
          have HO6 : Hid (∀ j, j < 5 → OwnIts w6 (w3.heap.size + 2) (slAt A n c j) (F j)) := fun j hj => own_chg (HOk.out j hj) g46 (by omega)
          have hb6 := Chg.below hbk g46 (by omega) hszk
          have hz6 := g46.size
          obtain ⟨x0, x1, x2, x3, x4, xf⟩ := arr5 HC6.out
          obtain ⟨y0, y1, y2, y3, y4, yf⟩ := arr5 HR6.out
          have HAtW : Hid (∀ W, Live W b s [] → Calls Tryz.prog 50 #[.pointer (some ⟨b, 0, none⟩)] W (RetQ (.int .i64 (s.size : Int)) W)) := fun W h => by
            have := at_pure h
            rw [show placeI s ([] : List UInt8).length = (s.size : Int) from placeI_nil s] at this
            exact this
          have H6 := Lib.hid h6
          unfold slAt at x0 x1 x2 x3 x4
          unfold nil5 at y0 y1 y2 y3 y4
          clear g4 g5 g6 g46 h4 h5' h6 hL
          go_wp2_with fail
          go_region_with (go_at_call 50; (with_reducible refine (HAtW.out _ ?_).mono ?_); (focus (exact H6.out)); rintro e w7 ⟨rfl, rfl⟩)
          all_goals (try simp only [Exit.then])
          all_goals (try go_wp2)
          all_goals refine bodyPost_ret (v := .tuple #[crV A n c, .int .i64 (s.size : Int), .int .i64 0]) ?_ rfl ⟨?_, .inl ⟨F, A, n, c, HE2.out, rfl, fun k hk => ?_⟩⟩
          all_goals first
            | (rw [results_cell2 rfl]; go_simp; done)
            | ((repeat' (first | (with_reducible exact Below.refl _ _) | (with_reducible assumption) | (with_reducible refine below_drewN ?_ _) | (with_reducible refine Below.alloc ?_ ?_ _) | (with_reducible refine Below.drew ?_) | (with_reducible refine Below.setCell ?_ ?_ _) | go_size)); done)
            | (show World.ownsRow _ _ _ _ _ _ _; refine own_base (B := w3.heap.size + 2) ?_ (by omega); exact own_far (HO6.out k hk) (by omega))
        · have HE2 : Hid (O = .error (placeI s (l.dropWhile blankP).length, 3)) := by show _ = _; rw [HE.out, if_neg hend]
          have HEnd := Lib.hid hend
          clear hend
          go_wp2_with fail
          refine (blanks_live hs9 hL).mono ?_
          rintro e w4 ⟨rfl, h4, g4⟩
          go_wp2_with fail
          refine (end_err h4 HEnd.out).mono ?_
          rintro e w5 ⟨rfl, h5', g5⟩
          go_wp2_with fail
          refine (wrong_dead h5').mono ?_
          rintro e w6 ⟨rfl, h6, g6⟩
          have g46 := (g4.trans g5).trans g6
          have HR6 := Lib.hid (Arr.chg HRk.out (by decide) g46 (by omega))
          have hb6 := Chg.below hbk g46 (by omega) hszk
          have hz6 := g46.size
          obtain ⟨y0, y1, y2, y3, y4, yf⟩ := arr5 HR6.out
          unfold nil5 at y0 y1 y2 y3 y4
          clear g4 g5 g6 g46 h4 h5' h6
          go_wp2
          refine bodyPost_ret (v := .tuple #[crV (fun _ => none) (fun _ => 0) (fun _ => 0), .int .i64 _, .int .i64 _]) ?_ rfl ⟨?_, .inr ⟨_, _, HE2.out, (by decide), rfl⟩⟩
          · rw [results_cell2 rfl]
            go_simp
          · (repeat' (first | (with_reducible exact Below.refl _ _) | (with_reducible assumption) | (with_reducible refine below_drewN ?_ _) | (with_reducible refine Below.alloc ?_ ?_ _) | (with_reducible refine Below.drew ?_) | (with_reducible refine Below.setCell ?_ ?_ _) | go_size))
      · have HE2 : Hid (O = .error (a, ec)) := hO
        have hne0 := hD.1
        clear hO
        go_wp2_with fail
        refine (blanks_dead hs9 hD).mono ?_
        rintro e w4 ⟨rfl, h4, g4⟩
        go_wp2_with fail
        refine (end_dead h4).mono ?_
        rintro e w5 ⟨rfl, h5', g5⟩
        have hne0' : (ec != 0) = true := by simpa using hne0
        go_wp2_with fail
        refine (wrong_dead h5').mono ?_
        rintro e w6 ⟨rfl, h6, g6⟩
        have g46 := (g4.trans g5).trans g6
        have HR6 := Lib.hid (Arr.chg HRk.out (by decide) g46 (by omega))
        have hb6 := Chg.below hbk g46 (by omega) hszk
        have hz6 := g46.size
        obtain ⟨y0, y1, y2, y3, y4, yf⟩ := arr5 HR6.out
        unfold nil5 at y0 y1 y2 y3 y4
        clear g4 g5 g6 g46 h4 h5' h6
        go_wp2
        refine bodyPost_ret (v := .tuple #[crV (fun _ => none) (fun _ => 0) (fun _ => 0), .int .i64 _, .int .i64 _]) ?_ rfl ⟨?_, .inr ⟨_, _, HE2.out, hne0, rfl⟩⟩
        · rw [results_cell2 rfl]
          go_simp
        · (repeat' (first | (with_reducible exact Below.refl _ _) | (with_reducible assumption) | (with_reducible refine below_drewN ?_ _) | (with_reducible refine Below.alloc ?_ ?_ _) | (with_reducible refine Below.drew ?_) | (with_reducible refine Below.setCell ?_ ?_ _) | go_size))
theorem read_any (s : ByteArray) (hs : s.size ≤ 1000000) (w : World) : Calls Tryz.prog 15 #[.string s] w (RetRead s (outR s) w) := by
  by_cases hl : s.size ≤ 8192
  · cases h : headB (· == 64) (s.data.toList.dropWhile blankP) with
    | false => exact read_plain s hs hl h w
    | true => exact read_nick s hs hl h w
  · exact read_long s hs (by omega) w


/-- What Read hands back: a line that reads as F, or what is wrong. -/
def RetLine (s : ByteArray) (w : World) (x : Ending) (w' : World) : Prop :=
  Below w.heap.size w w' ∧ ((∃ (F : Nat → List It) (A : Nat → Option Addr) (n c : Nat → Nat), outR s = .ok ((List.range 5).map F) ∧ x = .returned (.tuple #[crV A n c, .int .i64 (s.size : Int), .int .i64 0]) ∧
      RdLine w' A n F ∧ (∀ k, n k ≤ 64 ∧ n k ≤ c k ∧ c k ≤ maxLen) ∧ (∀ k, A k = none → n k = 0) ∧ (∀ k, 5 ≤ k → F k = []) ∧ ∀ k, k < 5 → faultI k (F k) = 0) ∨
    ∃ a e, outR s = .error (a, e) ∧ e ≠ 0 ∧ 0 ≤ a ∧ a ≤ s.size ∧ x = .returned (.tuple #[crV (fun _ => none) (fun _ => 0) (fun _ => 0), .int .i64 a, .int .i64 e]))
theorem read_line (s : ByteArray) (hs : s.size ≤ 1000000) (w : World) : Calls Tryz.prog 15 #[.string s] w (RetLine s w) := by
  refine (read_any s hs w).mono ?_
  rintro x w' ⟨hb, ⟨F, A, n, c, hO, rfl, hown⟩ | ⟨a, e, hO, he, rfl⟩⟩
  · have hmay := outR_may hO
    have hlen : ∀ k, k < 5 → (F k).length ≤ 64 := fun k hk => (fault_parts (hmay k hk)).2.1
    have hk : ∀ k, k < 5 → n k = (F k).length ∧ n k ≤ c k ∧ c k ≤ maxLen ∧ RdIts w' (A k) (n k) (F k) := by
      intro k hk
      obtain ⟨A', c', he, h1, h2, h3, _⟩ := Rd.of_own (enc := itEnc) itEnc_len (hown k hk) rfl
      unfold slAt at he
      injection he with e1 e2 e3
      rw [e1, e2, e3]
      exact ⟨rfl, h1, h2, h3⟩
    refine ⟨hb, .inl ⟨fun k => if k < 5 then F k else [], fun k => if k < 5 then A k else none, fun k => if k < 5 then n k else 0, fun k => if k < 5 then c k else 0, ?_, rfl, ?_, ?_, ?_, ?_, ?_⟩⟩
    · rw [hO]; rfl
    · intro k h5
      dsimp only
      rw [if_pos h5, if_pos h5, if_pos h5]
      exact (hk k h5).2.2.2
    · intro k
      dsimp only
      by_cases h5 : k < 5
      · have h1 := hk k h5
        have h2 := hlen k h5
        rw [if_pos h5, if_pos h5]
        exact ⟨by omega, h1.2.1, h1.2.2.1⟩
      · rw [if_neg h5, if_neg h5]
        exact ⟨by omega, by omega, Nat.zero_le _⟩
    · intro k
      dsimp only
      by_cases h5 : k < 5
      · rw [if_pos h5, if_pos h5]
        intro hA
        have h1 := (hk k h5).2.2.2
        rcases Nat.eq_zero_or_pos (n k) with h0 | h0
        · exact h0
        · obtain ⟨b, o, hb, _⟩ := h1.2 h0
          rw [hA] at hb; cases hb
      · rw [if_neg h5, if_neg h5]; intro; rfl
    · intro k h5; exact if_neg (by omega)
    · intro k h5
      dsimp only
      rw [if_pos h5]; exact hmay k h5
  · have := outR_place hO
    exact ⟨hb, .inr ⟨a, e, hO, he, this.1, this.2.1, rfl⟩⟩
theorem rd_nil (w : World) : RdLine w (fun _ => none) (fun _ => 0) (fun _ => []) := fun k _ => Rd.nil
/-- What Read hands back, whether something is wrong or not. -/
def RetLine2 (s : ByteArray) (w : World) (x : Ending) (w' : World) : Prop :=
  ∃ (F : Nat → List It) (A : Nat → Option Addr) (n c : Nat → Nat) (at' e : Int), x = .returned (.tuple #[crV A n c, .int .i64 at', .int .i64 e]) ∧ Below w.heap.size w w' ∧ RdLine w' A n F ∧ (∀ k, n k ≤ 64) ∧
    (e = 0 ∧ outR s = .ok ((List.range 5).map F) ∨ e ≠ 0 ∧ (∃ a, outR s = .error (a, e)) ∧ F = fun _ => [])
theorem read_line2 (s : ByteArray) (hs : s.size ≤ 1000000) (w : World) : Calls Tryz.prog 15 #[.string s] w (RetLine2 s w) := by
  refine (read_line s hs w).mono ?_
  rintro x w1 ⟨hb1, ⟨F, A, n, c, hO, rfl, hrd, hn, hz, hF, hm⟩ | ⟨a, e, hO, he, ha0, ha1, rfl⟩⟩
  · exact ⟨F, A, n, c, _, 0, rfl, hb1, hrd, fun k => (hn k).1, .inl ⟨rfl, hO⟩⟩
  · exact ⟨fun _ => [], fun _ => none, fun _ => 0, fun _ => 0, a, e, rfl, hb1, rd_nil _, fun _ => Nat.zero_le _, .inr ⟨he, ⟨a, hO⟩, rfl⟩⟩
theorem range5_eq {F G : Nat → List It} (h : (List.range 5).map F = (List.range 5).map G) : ∀ k, k < 5 → F k = G k := by
  intro k hk
  have := congrArg (·[k]?) h
  simpa [hk] using this
end Go.Proofs.YtochhmkdhdadhaaGreatDoor
