/- A reader's list at which something is wrong; the blanks between two fields. -/
import Derived.Test.YtpfcgjneeboamaaDoorWCronread5
namespace Go.Proofs.YtpfcgjneeboamaaDoor
open Go.RowKit
set_option linter.unusedSimpArgs false
set_option linter.unusedVariables false

set_option maxRecDepth 20000 in
set_option maxHeartbeats 1000000 in
theorem list_err (b f : Nat) (hf : f < 5) (s : ByteArray) (hs : s.size ≤ 1000000) (l : List UInt8) (m : Nat) (c : Int) (w : World) (h : Live w b s l) (hp : cItems f 63 l = .error (m, c)) :
    Calls Tryd.prog 13 #[rdV b f, .func (.func 14) #[rdV b f] #[]] w (RetDLs b s (placeI s m) c w) := by
  have hs9 : s.size ≤ 9223372036854775807 := by omega
  have hlt := h.lt
  have hne : w.heap.size ≠ b := by omega
  have H := Lib.hid h
  have HP := Lib.hid hp
  obtain ⟨i0, hi0, hz0, hz1, hz2⟩ := info_parts info_it
  have HI0 := Lib.hid hi0
  have HZ0 := Lib.hid hz0
  have HZ1 := Lib.hid hz1
  have HZ2 := Lib.hid hz2
  clear hi0 hz0 hz1 hz2
  clear h hp
  go_enter Tryd.func13, Tryd.ntmps13
  go_wp2
  go_step3
  go_wp2
  go_step3
  go_wp2
  go_loopg [5] 63 (fun gg v wr => ∃ (vo : Value) (acc : List It) (l' : List UInt8) (q0 : Nat), vo = v ∧ gg = q0 ∧ acc.length + q0 = 63 ∧ Hid (cItems f q0 l' = .error (m, c)) ∧ Hid (OwnIts wr (w.heap.size + 1) vo acc) ∧ Hid (Live wr b s l') ∧ Hid (Box wr w.heap.size b (f : Int)) ∧ Hid (Chg b w wr))
  case atStart => exact ⟨_, [], l, 63, rfl, rfl, rfl, HP.out, World.ownsRow_nil _ _ _ _, H.out.alloc _, box_new _ _ _ _, (Chg.refl b w).alloc _⟩
  case round =>
    obtain ⟨vo, acc, l', q0, rfl, hgq, hal, HQ, HO, HD, HB, HC⟩ := hrel
    have hlt : b < w.heap.size + 1 := by omega
    have hq := HQ.out
    rw [cItems_step] at hq
    cases h1 : cItem f l' with
    | error e =>
      obtain ⟨m', c'⟩ := e
      rw [h1] at hq
      have HE : Hid (m' = m ∧ c' = c) := by cases hq; exact ⟨rfl, rfl⟩
      have HI := Lib.hid (fun W (h : Live W b s l') => item_err b f hf s hs l' m' c' W h h1)
      clear hq h1
      go_wp2_with fail
      refine (HI.out _ HD.out).mono ?_
      rintro e w2 ⟨i, rfl, h2, g2⟩
      have HO2 := Lib.hid (own_chg HO.out g2 hlt)
      have HB2 := Lib.hid (HB.out.chg g2 hne)
      have hgA := HC.out.trans g2
      have hz2 := hgA.size
      have hi0 := HI0.out
      have hz0 := HZ0.out
      have hz1 := HZ1.out
      have hzz2 := HZ2.out
      go_wp2_with (at_builtin; refine wpList_append_own _ rfl _ _ 23 rfl (w.heap.size + 1) 34 i0 _ 4 32 Tryd.underlying23 hi0 hz0 hz1 hzz2 rfl (by decide) _ acc.length _ rfl (HO2.out.alloc _) ⟨w2.heap.size, 0, none⟩ 1 1 [.int .i64 i.k, .int .i64 i.f, .int .i64 i.t, .int .i64 i.s] rfl rfl ?c1 ?c2 ?c3 ?c4 ?c5 ?c6)
      case c1 =>
        intro j u hu
        rcases j with _ | _ | _ | _ | j
        · simp at hu; subst hu
          exact cell_new rfl rfl
        · simp at hu; subst hu
          exact cell_new rfl rfl
        · simp at hu; subst hu
          exact cell_new rfl rfl
        · simp at hu; subst hu
          exact cell_new rfl rfl
        · simp at hu
      case c2 => intro u hu; simp at hu; rcases hu with rfl | rfl | rfl | rfl <;> rfl
      case c3 => simp only [maxLen]; omega
      case c4 => omega
      case c5 => simp; omega
      case c6 =>
        intro v' w3 hown hg _
        have HV : Hid (OwnIts w3 (w.heap.size + 1) v' (acc ++ [i])) := by
          show World.ownsRow _ _ _ _ _ _ _
          rw [List.length_append, List.flatMap_append, List.flatMap_singleton]
          exact hown
        have hob1 : ∀ k, vo.ownBlock = some k → w.heap.size + 1 ≤ k := own_ge HO.out
        have hob : ∀ k, vo.ownBlock = some k → w.heap.size ≤ k := fun k hk => by have := hob1 k hk; omega
        have hobn : vo.ownBlock ≠ some b := fun e => by have := hob b e; omega
        have hobB : vo.ownBlock ≠ some w.heap.size := fun e => by have := hob1 _ e; omega
        have h3 := (h2.alloc (.cells #[.int .i64 i.k, .int .i64 i.f, .int .i64 i.t, .int .i64 i.s] 34)).grown hg hobn
        have HB3 := Lib.hid ((HB2.out.alloc _).grown hg hobB)
        have hgB := (hgA.alloc _).grown hg hob
        have HLn : Hid ((acc ++ [i]).length = acc.length + 1) := by show _ = _; simp
        have hpos : 0 < (acc ++ [i]).length := by simp
        clear hown hg hi0 hz0 hz1 hzz2 h2 g2 HO2 HB2 hob hob1 hobn hobB
        obtain ⟨g, cap, rfl, hgb, hgl⟩ : ∃ g cap, v' = .slice (some ⟨g, 0, none⟩) (acc ++ [i]).length cap ∧ w.heap.size + 1 ≤ g ∧ g < w3.heap.size := by
          rcases own_some HV.out with ⟨_, h0⟩ | h1
          · omega
          · exact h1
        obtain ⟨acc1, hacc⟩ : ∃ x, x = acc ++ [i] := ⟨_, rfl⟩
        rw [← hacc] at HV HLn ⊢
        have HAcc := Lib.hid hacc
        rw [HLn.out]
        clear hpos hacc
        obtain ⟨c0, c1⟩ := HB3.out
        have hz3 := hgB.size
        go_wp2_with fail
        refine (at_dead h3).mono ?_
        rintro e w4 ⟨p, hp, rfl, h4, g4⟩
        have hgC := hgB.trans g4
        have HB4 := Lib.hid (HB3.out.chg g4 hne)
        have HV4 := Lib.hid (own_chg HV.out g4 hlt)
        clear c0 c1
        obtain ⟨c0, c1⟩ := HB4.out
        go_wp2_with fail
        refine (is_dead hs9 (h4.alloc _) (rdB1 (c := 44) (cell_new (by simp) rfl)) (by decide)).mono ?_
        rintro e w5 ⟨rfl, h5, g5⟩
        have hgD := (hgC.alloc _).trans g5
        have HV5 := Lib.hid (own_chg (HV4.out.alloc _) g5 hlt)
        go_wp2
        rw [Exit.noGoto_ret]
        go_ret
        exact ⟨.slice (some ⟨g, 0, none⟩) acc1.length cap, acc1, by rw [HLn.out]; rfl, own_base HV5.out (by omega), by rw [← HE.out.1, ← HE.out.2]; exact h5, hgD⟩
    | ok x =>
      obtain ⟨i, l1⟩ := x
      rw [h1] at hq
      dsimp only at hq
      have HI := Lib.hid (fun W (h : Live W b s l') => item_ok b f hf s hs l' l1 i W h h1)
      cases h2' : pIs [44] l1 with
      | none => rw [h2'] at hq; cases hq
      | some l2 =>
        rw [h2'] at hq
        have HP2 := Lib.hid h2'
        cases q0 with
        | zero =>
          have HE : Hid (m = l1.length ∧ c = 5) := by cases hq; exact ⟨rfl, rfl⟩
          have hal2 : ((acc.length : Int) + 1 == 64) = true := by simp; omega
          clear hq h1 h2'
          go_wp2_with fail
          refine (HI.out _ HD.out).mono ?_
          rintro e w2 ⟨rfl, h2, g2⟩
          have HO2 := Lib.hid (own_chg HO.out g2 hlt)
          have HB2 := Lib.hid (HB.out.chg g2 hne)
          have hgA := HC.out.trans g2
          have hz2 := hgA.size
          have hi0 := HI0.out
          have hz0 := HZ0.out
          have hz1 := HZ1.out
          have hzz2 := HZ2.out
          go_wp2_with (at_builtin; refine wpList_append_own _ rfl _ _ 23 rfl (w.heap.size + 1) 34 i0 _ 4 32 Tryd.underlying23 hi0 hz0 hz1 hzz2 rfl (by decide) _ acc.length _ rfl (HO2.out.alloc _) ⟨w2.heap.size, 0, none⟩ 1 1 [.int .i64 i.k, .int .i64 i.f, .int .i64 i.t, .int .i64 i.s] rfl rfl ?c1 ?c2 ?c3 ?c4 ?c5 ?c6)
          case c1 =>
            intro j u hu
            rcases j with _ | _ | _ | _ | j
            · simp at hu; subst hu
              exact cell_new rfl rfl
            · simp at hu; subst hu
              exact cell_new rfl rfl
            · simp at hu; subst hu
              exact cell_new rfl rfl
            · simp at hu; subst hu
              exact cell_new rfl rfl
            · simp at hu
          case c2 => intro u hu; simp at hu; rcases hu with rfl | rfl | rfl | rfl <;> rfl
          case c3 => simp only [maxLen]; omega
          case c4 => omega
          case c5 => simp; omega
          case c6 =>
            intro v' w3 hown hg _
            have HV : Hid (OwnIts w3 (w.heap.size + 1) v' (acc ++ [i])) := by
              show World.ownsRow _ _ _ _ _ _ _
              rw [List.length_append, List.flatMap_append, List.flatMap_singleton]
              exact hown
            have hob1 : ∀ k, vo.ownBlock = some k → w.heap.size + 1 ≤ k := own_ge HO.out
            have hob : ∀ k, vo.ownBlock = some k → w.heap.size ≤ k := fun k hk => by have := hob1 k hk; omega
            have hobn : vo.ownBlock ≠ some b := fun e => by have := hob b e; omega
            have hobB : vo.ownBlock ≠ some w.heap.size := fun e => by have := hob1 _ e; omega
            have h3 := (h2.alloc (.cells #[.int .i64 i.k, .int .i64 i.f, .int .i64 i.t, .int .i64 i.s] 34)).grown hg hobn
            have HB3 := Lib.hid ((HB2.out.alloc _).grown hg hobB)
            have hgB := (hgA.alloc _).grown hg hob
            have HLn : Hid ((acc ++ [i]).length = acc.length + 1) := by show _ = _; simp
            have hpos : 0 < (acc ++ [i]).length := by simp
            clear hown hg hi0 hz0 hz1 hzz2 h2 g2 HO2 HB2 hob hob1 hobn hobB
            obtain ⟨g, cap, rfl, hgb, hgl⟩ : ∃ g cap, v' = .slice (some ⟨g, 0, none⟩) (acc ++ [i]).length cap ∧ w.heap.size + 1 ≤ g ∧ g < w3.heap.size := by
              rcases own_some HV.out with ⟨_, h0⟩ | h1
              · omega
              · exact h1
            obtain ⟨acc1, hacc⟩ : ∃ x, x = acc ++ [i] := ⟨_, rfl⟩
            rw [← hacc] at HV HLn ⊢
            have HAcc := Lib.hid hacc
            rw [HLn.out]
            clear hpos hacc
            obtain ⟨c0, c1⟩ := HB3.out
            have hz3 := hgB.size
            go_wp2_with fail
            refine (at_live h3).mono ?_
            rintro e w4 ⟨rfl, h4, g4⟩
            have hgC := hgB.trans g4
            have HB4 := Lib.hid (HB3.out.chg g4 hne)
            have HV4 := Lib.hid (own_chg HV.out g4 hlt)
            clear c0 c1
            obtain ⟨c0, c1⟩ := HB4.out
            go_wp2_with fail
            refine (is_yes hs9 (h4.alloc _) (rdB1 (c := 44) (cell_new (by simp) rfl)) (by decide) HP2.out).mono ?_
            rintro e w5 ⟨rfl, h5, g5⟩
            have hgD := (hgC.alloc _).trans g5
            have HB5 := Lib.hid ((HB4.out.alloc _).chg g5 hne)
            have HV5 := Lib.hid (own_chg (HV4.out.alloc _) g5 hlt)
            clear c0 c1
            obtain ⟨c0, c1⟩ := HB5.out
            go_wp2_with fail
            refine (fail_live (placeI s l1.length) 5 (by decide) h5).mono ?_
            rintro e w6 ⟨rfl, h6, g6⟩
            have HV6 := Lib.hid (own_chg HV5.out g6 hlt)
            have hgE := hgD.trans g6
            go_wp2
            rw [Exit.noGoto_ret]
            go_ret
            exact ⟨.slice (some ⟨g, 0, none⟩) acc1.length cap, acc1, by rw [HLn.out]; rfl, own_base HV6.out (by omega), by rw [HE.out.1, HE.out.2]; exact h6, hgE⟩
        | succ q =>
          dsimp only at hq
          cases h3' : cItems f q l2 with
          | ok x => obtain ⟨r1, r2⟩ := x; rw [h3'] at hq; cases hq
          | error e =>
            rw [h3'] at hq
            have HP3 : Hid (cItems f q l2 = .error (m, c)) := by cases hq; exact h3'
            have hal2 : ((acc.length : Int) + 1 == 64) = false := by simp; omega
            clear hq h1 h2' h3'
            go_wp2_with fail
            refine (HI.out _ HD.out).mono ?_
            rintro e w2 ⟨rfl, h2, g2⟩
            have HO2 := Lib.hid (own_chg HO.out g2 hlt)
            have HB2 := Lib.hid (HB.out.chg g2 hne)
            have hgA := HC.out.trans g2
            have hz2 := hgA.size
            have hi0 := HI0.out
            have hz0 := HZ0.out
            have hz1 := HZ1.out
            have hzz2 := HZ2.out
            go_wp2_with (at_builtin; refine wpList_append_own _ rfl _ _ 23 rfl (w.heap.size + 1) 34 i0 _ 4 32 Tryd.underlying23 hi0 hz0 hz1 hzz2 rfl (by decide) _ acc.length _ rfl (HO2.out.alloc _) ⟨w2.heap.size, 0, none⟩ 1 1 [.int .i64 i.k, .int .i64 i.f, .int .i64 i.t, .int .i64 i.s] rfl rfl ?c1 ?c2 ?c3 ?c4 ?c5 ?c6)
            case c1 =>
              intro j u hu
              rcases j with _ | _ | _ | _ | j
              · simp at hu; subst hu
                exact cell_new rfl rfl
              · simp at hu; subst hu
                exact cell_new rfl rfl
              · simp at hu; subst hu
                exact cell_new rfl rfl
              · simp at hu; subst hu
                exact cell_new rfl rfl
              · simp at hu
            case c2 => intro u hu; simp at hu; rcases hu with rfl | rfl | rfl | rfl <;> rfl
            case c3 => simp only [maxLen]; omega
            case c4 => omega
            case c5 => simp; omega
            case c6 =>
              intro v' w3 hown hg _
              have HV : Hid (OwnIts w3 (w.heap.size + 1) v' (acc ++ [i])) := by
                show World.ownsRow _ _ _ _ _ _ _
                rw [List.length_append, List.flatMap_append, List.flatMap_singleton]
                exact hown
              have hob1 : ∀ k, vo.ownBlock = some k → w.heap.size + 1 ≤ k := own_ge HO.out
              have hob : ∀ k, vo.ownBlock = some k → w.heap.size ≤ k := fun k hk => by have := hob1 k hk; omega
              have hobn : vo.ownBlock ≠ some b := fun e => by have := hob b e; omega
              have hobB : vo.ownBlock ≠ some w.heap.size := fun e => by have := hob1 _ e; omega
              have h3 := (h2.alloc (.cells #[.int .i64 i.k, .int .i64 i.f, .int .i64 i.t, .int .i64 i.s] 34)).grown hg hobn
              have HB3 := Lib.hid ((HB2.out.alloc _).grown hg hobB)
              have hgB := (hgA.alloc _).grown hg hob
              have HLn : Hid ((acc ++ [i]).length = acc.length + 1) := by show _ = _; simp
              have hpos : 0 < (acc ++ [i]).length := by simp
              clear hown hg hi0 hz0 hz1 hzz2 h2 g2 HO2 HB2 hob hob1 hobn hobB
              obtain ⟨g, cap, rfl, hgb, hgl⟩ : ∃ g cap, v' = .slice (some ⟨g, 0, none⟩) (acc ++ [i]).length cap ∧ w.heap.size + 1 ≤ g ∧ g < w3.heap.size := by
                rcases own_some HV.out with ⟨_, h0⟩ | h1
                · omega
                · exact h1
              obtain ⟨acc1, hacc⟩ : ∃ x, x = acc ++ [i] := ⟨_, rfl⟩
              rw [← hacc] at HV HLn ⊢
              have HAcc := Lib.hid hacc
              rw [HLn.out]
              clear hpos hacc
              obtain ⟨c0, c1⟩ := HB3.out
              have hz3 := hgB.size
              go_wp2_with fail
              refine (at_live h3).mono ?_
              rintro e w4 ⟨rfl, h4, g4⟩
              have hgC := hgB.trans g4
              have HB4 := Lib.hid (HB3.out.chg g4 hne)
              have HV4 := Lib.hid (own_chg HV.out g4 hlt)
              clear c0 c1
              obtain ⟨c0, c1⟩ := HB4.out
              go_wp2_with fail
              refine (is_yes hs9 (h4.alloc _) (rdB1 (c := 44) (cell_new (by simp) rfl)) (by decide) HP2.out).mono ?_
              rintro e w5 ⟨rfl, h5, g5⟩
              have hgD := (hgC.alloc _).trans g5
              have HB5 := Lib.hid ((HB4.out.alloc _).chg g5 hne)
              have HV5 := Lib.hid (own_chg (HV4.out.alloc _) g5 hlt)
              go_wp2
              go_roundg q
              case measure => omega
              case rel =>
                exact ⟨.slice (some ⟨g, 0, none⟩) acc1.length cap, acc1, l2, q, by rw [HLn.out], rfl, by rw [HLn.out]; omega, HP3.out, HV5.out, h5, HB5.out, hgD⟩

section
variable (b : Nat) (s : ByteArray) (hs : s.size ≤ 9223372036854775807) (l : List UInt8) (w : World)
include hs
theorem between_ok (h : Live w b s l) (hp : l.takeWhile blankP ≠ []) : Calls Tryd.prog 15 #[.pointer (some ⟨b, 0, none⟩)] w (RetL (.tuple #[]) b s (l.dropWhile blankP) w) := by
  have HB := Lib.hid (blanks_live hs h)
  have hn : (((l.takeWhile blankP).length : Int) == 0) = false := by
    have : (l.takeWhile blankP).length ≠ 0 := fun e => hp (List.length_eq_zero_iff.1 e)
    simp; exact hp
  generalize (l.takeWhile blankP).length = q at HB hn
  clear h hp
  go_enter Tryd.func15, Tryd.ntmps15
  go_wp2_with fail
  refine HB.out.mono ?_
  rintro e w1 ⟨rfl, h1, g1⟩
  go_wp2
  first | go_end0 | (refine bodyPost_ret (results_none rfl _ _ _) rfl ?_)
  exact ⟨rfl, h1, g1⟩
theorem between_err (h : Live w b s l) (hp : l.takeWhile blankP = []) : Calls Tryd.prog 15 #[.pointer (some ⟨b, 0, none⟩)] w (RetD (.tuple #[]) b s (placeI s l.length) (pLack l) w) := by
  have HB := Lib.hid (blanks_live hs h)
  have hd : l.dropWhile blankP = l := by
    have := List.takeWhile_append_dropWhile (p := blankP) (l := l)
    rw [hp, List.nil_append] at this; exact this
  have hm : pIs [32] l = none := by
    cases l with
    | nil => rfl
    | cons c l =>
      have : blankP c = false := by
        cases hc : blankP c with
        | false => rfl
        | true => rw [List.takeWhile_cons, if_pos hc] at hp; cases hp
      unfold pIs
      have h2 : [32].elem c = false := by
        have : c ≠ 32 := by rintro rfl; simp [blankP] at this
        simpa using this
      show (if [32].elem c = true then some l else none) = none
      rw [h2]; rfl
  rw [hp, hd] at HB
  have HM := Lib.hid hm
  clear h hp hd hm
  go_enter Tryd.func15, Tryd.ntmps15
  go_wp2_with fail
  refine HB.out.mono ?_
  rintro e w1 ⟨rfl, h1, g1⟩
  go_wp2_with fail
  refine (must_no hs (h1.alloc _) (rdB1 (c := 32) (cell_new (by simp) rfl)) (by decide) HM.out).mono ?_
  rintro e w2 ⟨rfl, h2, g2⟩
  go_wp2
  first | go_end0 | (refine bodyPost_ret (results_none rfl _ _ _) rfl ?_)
  exact ⟨rfl, h2, (g1.alloc _).trans g2⟩
theorem between_dead (a c : Int) (h : Dead w b s a c) : Calls Tryd.prog 15 #[.pointer (some ⟨b, 0, none⟩)] w (RetD (.tuple #[]) b s a c w) := by
  have HB := Lib.hid (blanks_dead hs h)
  clear h
  go_enter Tryd.func15, Tryd.ntmps15
  go_wp2_with fail
  refine HB.out.mono ?_
  rintro e w1 ⟨rfl, h1, g1⟩
  go_wp2_with fail
  refine (must_dead hs (h1.alloc _) (rdB1 (c := 32) (cell_new (by simp) rfl)) (by decide)).mono ?_
  rintro e w2 ⟨rfl, h2, g2⟩
  go_wp2
  first | go_end0 | (refine bodyPost_ret (results_none rfl _ _ _) rfl ?_)
  exact ⟨rfl, h2, (g1.alloc _).trans g2⟩
end
end Go.Proofs.YtpfcgjneeboamaaDoor
