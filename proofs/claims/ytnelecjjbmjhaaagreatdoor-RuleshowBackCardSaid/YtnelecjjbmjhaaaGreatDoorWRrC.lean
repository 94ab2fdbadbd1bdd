/- The walks of package ruleread's reader: the units' names, weekdays, the week's start, lists. -/
import Derived.Test.YtnelecjjbmjhaaaGreatDoorWRrB
import Derived.Test.YtnelecjjbmjhaaaGreatDoorWRuA
import Derived.Deep.LoopGhost
namespace Go.Proofs.YtnelecjjbmjhaaaGreatDoor
open Go.RowKit
set_option linter.unusedSimpArgs false
set_option linter.unusedVariables false

theorem info_strR : (Tryz.prog.info? 9).map (fun i => (i.zero, i.size, i.bytes)) = some (some (.string ⟨#[]⟩), 1, 16) := by kernel_rfl
theorem info_nthR : (Tryz.prog.info? 54).map (fun i => (i.zero, i.size, i.bytes)) = some (some (.agg #[.int .i64 0, .int .i64 0]), 2, 16) := by kernel_rfl
theorem unT_at (k : Nat) (hk : k < 7) : unT (k : Int) = unN.getD k [] := by
  obtain rfl | rfl | rfl | rfl | rfl | rfl | rfl : k = 0 ∨ k = 1 ∨ k = 2 ∨ k = 3 ∨ k = 4 ∨ k = 5 ∨ k = 6 := by omega
  all_goals decide
set_option maxRecDepth 20000 in
set_option maxHeartbeats 2000000 in
theorem runits_any (w : World) : Calls Tryz.prog 76 #[] w (RetStrs unN w) := by
  obtain ⟨i0, hi0, hz0, hz1, hz2⟩ := info_parts info_strR
  have HI0 := Lib.hid hi0
  have HZ0 := Lib.hid hz0
  have HZ1 := Lib.hid hz1
  have HZ2 := Lib.hid hz2
  clear hi0 hz0 hz1 hz2
  go_enter Tryz.func76, Tryz.ntmps76
  go_wp2
  go_loopw [1, 3] (fun v i wr => ∃ (vo : Value) (k : Nat), vo = v ∧ k ≤ 7 ∧ i = .int .i64 k ∧ Hid (World.ownsRow wr w.heap.size 9 1 vo ((unN.take k).map strB).length (((unN.take k).map strB).map Value.string)) ∧ Below w.heap.size w wr) (fun _ i _ => 7 - (intOf i).toNat)
  case atStart => exact ⟨_, 0, rfl, by decide, rfl, World.ownsRow_nil _ _ _ _, Below.refl _ _⟩
  case round =>
    obtain ⟨vo, k, rfl, hk, rfl, HO, hb⟩ := hrel
    have hsz := hb.size
    by_cases hlt : k < 7
    · have hlt' : (k : Int) < 7 := by omega
      have HI := Lib.hid (fun W => uname_any (k : Int) W)
      rw [unT_at k hlt] at HI
      have HS1 : Hid ((unN.take (k + 1)).map strB = (unN.take k).map strB ++ [strB (unN.getD k [])]) := by
        show _ = _
        have hx : unN[k]? = some (unN.getD k []) := by
          rw [List.getD_eq_getElem?_getD, List.getElem?_eq_getElem (show k < unN.length from hlt)]; rfl
        rw [List.take_add_one, hx]; simp
      have hkl : ((unN.take k).map strB).length = k := by rw [List.length_map, List.length_take_of_le (show k ≤ unN.length from hk)]
      obtain ⟨T, hT⟩ : ∃ T, T = strB (unN.getD k []) := ⟨_, rfl⟩
      rw [← hT] at HI HS1
      clear hT
      obtain ⟨X0, hX0⟩ : ∃ X, X = (unN.take k).map strB := ⟨_, rfl⟩
      obtain ⟨X1, hX1⟩ : ∃ X, X = (unN.take (k + 1)).map strB := ⟨_, rfl⟩
      rw [← hX0] at HO HS1 hkl
      rw [← hX1] at HS1
      have HX1 := Lib.hid hX1
      have HKL := Lib.hid hkl
      clear hX0 hX1 hkl
      have hcall := Lib.hid (HI.out wr)
      go_wp2_with fail
      refine hcall.out.mono ?_
      rintro e w2 ⟨rfl, hb2⟩
      have hsz3 := hb2.size
      have hbx : Below w.heap.size w w2 := bthen hb hb2 hsz
      have hi0 := HI0.out
      have hz0 := HZ0.out
      have hz1 := HZ1.out
      have hz2 := HZ2.out
      go_wp2_with (at_builtin; refine wpList_append_own _ rfl _ _ 84 rfl w.heap.size 9 i0 _ 1 16 Tryz.underlying84 hi0 hz0 hz1 hz2 rfl (by decide) _ X0.length _ rfl (own_below HO.out ?cB) ⟨w2.heap.size, 0, none⟩ 1 1 [.string T] rfl rfl ?c1 ?c2 ?c3 ?c4 ?c5 ?c6)
      case cB => exact hb2.alloc hsz3 _
      case c1 =>
        intro j u hu
        rcases j with _ | j
        · simp at hu; subst hu
          exact cell_new rfl rfl
        · simp at hu
      case c2 =>
        intro u hu
        simp at hu
        subst hu
        rfl
      case c3 => rw [HKL.out]; simp only [maxLen]; omega
      case c4 => rw [HKL.out]; omega
      case c5 => simp; omega
      case c6 =>
        intro v' w' hown hg _
        have HV : Hid (World.ownsRow w' w.heap.size 9 1 v' X1.length (X1.map Value.string)) := by
          show World.ownsRow _ _ _ _ _ _ _
          rw [HS1.out, List.length_append, List.map_append]
          exact hown
        have hbn : Below w.heap.size w w' := by
          refine Below.grown (hbx.alloc (by omega) _) hg (by simp; omega) ?_
          intro b hb'
          rcases own_some HO.out with ⟨h1, _⟩ | ⟨g, cap, h1, h2, h3⟩
          · rw [h1] at hb'; simp [Value.ownBlock] at hb'
          · rw [h1] at hb'; simp [Value.ownBlock] at hb'; subst hb'; exact h2
        clear hown hg hi0 hz0 hz1 hz2
        go_wp2
        go_roundw
        case rel => exact ⟨_, k + 1, rfl, by omega, by go_num, by rw [← HX1.out]; exact HV.out, hbn⟩
        case measure => simp [intOf]; omega
    · obtain rfl : k = 7 := by omega
      go_wp2
      go_ret
      have hO := HO.out
      rw [List.take_of_length_le (by decide)] at hO
      rcases own_some hO with ⟨_, h0⟩ | ⟨g, cap, rfl, h2, h3⟩
      · exact absurd h0 (by decide)
      · refine ⟨g, cap, rfl, ?_, h2, hb⟩
        intro j hj
        have := hO.cells (g := g) rfl j (.string (strB (unN.getD j []))) (by
          rw [List.getElem?_map, List.getElem?_map, List.getElem?_eq_getElem hj, List.getD_eq_getElem?_getD, List.getElem?_eq_getElem hj]
          rfl)
        rwa [show (⟨g, 0, none⟩ : Addr).add j = ⟨g, j, none⟩ from by unfold Addr.add; split <;> simp_all] at this
theorem cell_old {w : World} {o : Obj} {B k : Nat} {v : Value} (h : w.cell? ⟨B, k, none⟩ = some v) : (w.alloc o).cell? ⟨B, k, none⟩ = some v :=
  (((Below.refl _ w).alloc (Nat.le_refl _) o).cell (p := ⟨B, k, none⟩) (World.block_lt_of_cell? w _ h)).trans h
theorem rlistP_step {α : Type} (N : Nat) (one : PS → PS × α) (q : Nat) (σ : PS) : rlistP N one q σ = if (isP [44] (one σ).1).2 then
    (match q with | 0 => (failP (atP N (one σ).1) 5 (isP [44] (one σ).1).1, [(one σ).2]) | q + 1 => ((rlistP N one q (isP [44] (one σ).1).1).1, (one σ).2 :: (rlistP N one q (isP [44] (one σ).1).1).2))
    else ((isP [44] (one σ).1).1, [(one σ).2]) := by
  cases q with
  | zero => rw [rlistP]; split <;> rfl
  | succ q => rw [rlistP]
/-- A slice of weekdays of the call's own. -/
abbrev OwnNths (w : World) (B : Nat) (v : Value) (l : List (Int × Int)) : Prop := w.ownsRow B 54 2 v l.length (l.flatMap nthEnc)
/-- It hands back a slice of its own; the reader stands so. -/
def RetPI (L : List Int) (b : Nat) (s : ByteArray) (σ : PS) (w : World) (x : Ending) (w' : World) : Prop := ∃ v, x = .returned v ∧ OwnInts w' w.heap.size v L ∧ RdP w' b s σ ∧ Chg b w w'
def RetPN (L : List (Int × Int)) (b : Nat) (s : ByteArray) (σ : PS) (w : World) (x : Ending) (w' : World) : Prop := ∃ v, x = .returned v ∧ OwnNths w' w.heap.size v L ∧ RdP w' b s σ ∧ Chg b w w'
section
variable {w : World} {b : Nat} {s : ByteArray} {σ : PS} (hs : s.size ≤ 1000000)
include hs
set_option maxRecDepth 20000 in
set_option maxHeartbeats 2000000 in
/-- The closure that reads a number between two others. -/
theorem nums1_rr (lo hi : Int) (Bx Bl Bh : Nat) (hx : KBox w Bx b s) (hl : w.cell? ⟨Bl, 0, none⟩ = some (.int .i64 lo)) (hh : w.cell? ⟨Bh, 0, none⟩ = some (.int .i64 hi)) (h : RdP w b s σ) : Calls Tryz.prog 135 #[.pointer (some ⟨Bx, 0, none⟩), .pointer (some ⟨Bl, 0, none⟩), .pointer (some ⟨Bh, 0, none⟩)] w (RetP (.int .i64 (rnumP s.size 2 lo hi σ).2) b s (rnumP s.size 2 lo hi σ).1 w) := by
  have HI := Lib.hid (fun W (h : RdP W b s σ) => number_rr hs 2 (by decide) lo hi h)
  obtain ⟨c0, c1⟩ := hx
  generalize rnumP s.size 2 lo hi σ = R at *
  obtain ⟨τ, i⟩ := R
  dsimp only at *
  have H := Lib.hid h
  clear h
  go_enter Tryz.func135, Tryz.ntmps135
  go_wp2_with fail
  refine (HI.out _ H.out).mono ?_
  rintro e w1 ⟨rfl, h1, g1⟩
  go_wp2
  go_ret
  exact ⟨rfl, h1, g1⟩
set_option maxRecDepth 20000 in
set_option maxHeartbeats 2000000 in
theorem days1_rr (Bx : Nat) (hx : KBox w Bx b s) (h : RdP w b s σ) : Calls Tryz.prog 85 #[.pointer (some ⟨Bx, 0, none⟩)] w (RetP (.int .i64 (signP s.size 31 σ).2) b s (signP s.size 31 σ).1 w) := by
  have HI := Lib.hid (fun W (h : RdP W b s σ) => signed_rr hs 31 h)
  obtain ⟨c0, c1⟩ := hx
  generalize signP s.size 31 σ = R at *
  obtain ⟨τ, i⟩ := R
  dsimp only at *
  have H := Lib.hid h
  clear h
  go_enter Tryz.func85, Tryz.ntmps85
  go_wp2_with fail
  refine (HI.out _ H.out).mono ?_
  rintro e w1 ⟨rfl, h1, g1⟩
  go_wp2
  go_ret
  exact ⟨rfl, h1, g1⟩
set_option maxRecDepth 20000 in
set_option maxHeartbeats 2000000 in
theorem nlist_rr (lo hi : Int) (Bx Bl Bh : Nat) (hbx : Bx ≠ b) (hbl : Bl ≠ b) (hbh : Bh ≠ b) (hx : KBox w Bx b s) (hl : w.cell? ⟨Bl, 0, none⟩ = some (.int .i64 lo)) (hh : w.cell? ⟨Bh, 0, none⟩ = some (.int .i64 hi)) (h : RdP w b s σ) :
    Calls Tryz.prog 84 #[kV b s, .func (.func 135) #[] #[.pointer (some ⟨Bx, 0, none⟩), .pointer (some ⟨Bl, 0, none⟩), .pointer (some ⟨Bh, 0, none⟩)]] w (RetPI (numsP s.size lo hi σ).2 b s (numsP s.size lo hi σ).1 w) := by
  have HI := Lib.hid (fun W σ (g : Chg b w W) (h : RdP W b s σ) => nums1_rr hs lo hi Bx Bl Bh (hx.chg g hbx) (g.cell hbl hl) (g.cell hbh hh) h)
  clear hx hl hh
  unfold numsP
  generalize rnumP s.size 2 lo hi = one at *
  obtain ⟨q, hq⟩ : ∃ q : Nat, q = 63 := ⟨_, rfl⟩
  obtain ⟨i0, hi0, hz0, hz1, hz2⟩ := info_parts info_int
  have hs9 : s.size ≤ 9223372036854775807 := by omega
  have hlt := h.lt
  have hne : w.heap.size ≠ b := by omega
  have H := Lib.hid h
  have HI0 := Lib.hid hi0
  have HZ0 := Lib.hid hz0
  have HZ1 := Lib.hid hz1
  have HZ2 := Lib.hid hz2
  clear hi0 hz0 hz1 hz2
  clear h
  go_enter Tryz.func84, Tryz.ntmps84
  go_wp2
  go_step3
  go_wp2
  go_step3
  go_wp2
  go_loopg [5] (q : Nat) (fun gg v wr => ∃ (vo : Value) (acc : List Int) (σ' : PS) (q0 : Nat), vo = v ∧ gg = q0 ∧ acc.length + q0 = 63 ∧ Hid (rlistP s.size one 63 σ = ((rlistP s.size one q0 σ').1, acc ++ (rlistP s.size one q0 σ').2)) ∧ Hid (OwnInts wr (w.heap.size + 1) vo acc) ∧ Hid (RdP wr b s σ') ∧ Hid (KBox wr w.heap.size b s) ∧ Hid (Chg b w wr))
  case atStart => exact ⟨_, [], σ, 63, rfl, hq, by simp, by show _ = _; simp, World.ownsRow_nil _ _ _ _, H.out.alloc _, kbox_new _ _ _ _, (Chg.refl b w).alloc _⟩
  case round =>
    obtain ⟨vo, acc, σ', q0, rfl, hgq, hal, HQ, HO, HD, HB, HC⟩ := hrel
    have hlt : b < w.heap.size + 1 := by omega
    have HOne := Lib.hid (HI.out wr σ' HC.out HD.out)
    have HST := Lib.hid (rlistP_step s.size one q0 σ')
    generalize one σ' = r at *
    obtain ⟨τ, i⟩ := r
    dsimp only at *
    have HA := Lib.hid (fun W (h : RdP W b s τ) => at_ps h)
    have HIs := Lib.hid (fun W A n cp (h : RdP W b s τ) (hA : RdBytes W A n [44]) (hn : n ≤ 9223372036854775807) => is_ps (cp := cp) hs9 h hA hn)
    generalize atP s.size τ = at0 at *
    generalize isP [44] τ = u at *
    obtain ⟨υ, comma⟩ := u
    dsimp only at *
    have HF := Lib.hid (fun W (h : RdP W b s υ) => fail_ps at0 5 h)
    go_wp2_with fail
    refine (HOne.out).mono ?_
    rintro e w2 ⟨rfl, h2, g2⟩
    have HO2 := Lib.hid (own_chg HO.out g2 hlt)
    have HB2 := Lib.hid (HB.out.chg g2 hne)
    have hgA := HC.out.trans g2
    have hz2 := hgA.size
    have hi0 := HI0.out
    have hz0 := HZ0.out
    have hz1 := HZ1.out
    have hzz2 := HZ2.out
    go_wp2_with (at_builtin; refine wpList_append_own _ rfl _ _ 22 rfl (w.heap.size + 1) 3 i0 _ 1 8 Tryz.underlying22 hi0 hz0 hz1 hzz2 rfl (by decide) _ acc.length _ rfl (HO2.out.alloc _) ⟨w2.heap.size, 0, none⟩ 1 1 [.int .i64 i] rfl rfl ?c1 ?c2 ?c3 ?c4 ?c5 ?c6)
    case c1 =>
      intro j u hu
      rcases j with _ | j
      · simp at hu; subst hu
        exact cell_new rfl rfl
      · simp at hu
    case c2 =>
      intro u hu
      simp at hu
      subst hu
      rfl
    case c3 => simp only [maxLen]; omega
    case c4 => omega
    case c5 => simp; omega
    case c6 =>
      intro v' w3 hown hg _
      have HV : Hid (OwnInts w3 (w.heap.size + 1) v' (acc ++ [i])) := by
        show World.ownsRow _ _ _ _ _ _ _
        rw [List.length_append, List.map_append]
        exact hown
      have hob1 : ∀ k, vo.ownBlock = some k → w.heap.size + 1 ≤ k := own_ge HO.out
      have hob : ∀ k, vo.ownBlock = some k → w.heap.size ≤ k := fun k hk => by have := hob1 k hk; omega
      have hobn : vo.ownBlock ≠ some b := fun e => by have := hob b e; omega
      have hobB : vo.ownBlock ≠ some w.heap.size := fun e => by have := hob1 _ e; omega
      have h3 := (h2.alloc (.cells #[.int .i64 i] 3)).grown hg hobn
      have HB3 := Lib.hid ((HB2.out.alloc _).grown hg hobB)
      have hgB := (hgA.alloc _).grown hg hob
      have HLn : Hid ((acc ++ [i]).length = acc.length + 1) := by show _ = _; simp
      have hpos : 0 < (acc ++ [i]).length := by simp
      clear hown hg hi0 hz0 hz1 hzz2 h2 g2 HO2 HB2 hob hob1 hobn hobB
      obtain ⟨g, cap, rfl, hgb, hgl⟩ : ∃ g cap, v' = .slice (some ⟨g, 0, none⟩) (acc ++ [i]).length cap ∧ w.heap.size + 1 ≤ g ∧ g < w3.heap.size := by
        rcases own_some HV.out with ⟨_, h0⟩ | h1
        · omega
        · exact h1
      obtain ⟨acc1, hacc⟩ : ∃ x, x = acc ++ [i] := ⟨_, rfl⟩
      rw [← hacc] at HV HLn ⊢
      have HAcc := Lib.hid hacc
      rw [HLn.out]
      clear hpos hacc
      obtain ⟨c0, c1⟩ := HB3.out
      have hz3 := hgB.size
      go_wp2_with fail
      refine (HA.out _ h3).mono ?_
      rintro e w4 ⟨rfl, rfl⟩
      go_wp2_with fail
      refine (HIs.out _ _ _ _ (h3.alloc _) (rdB1 (c := 44) (cell_new rfl rfl)) (by decide)).mono ?_
      rintro e w5 ⟨rfl, h5, g5⟩
      have hgD := (hgB.alloc _).trans g5
      have HB5 := Lib.hid ((HB3.out.alloc _).chg g5 hne)
      have HV5 := Lib.hid (own_chg (HV.out.alloc _) g5 hlt)
      clear c0 c1
      obtain ⟨c0, c1⟩ := HB5.out
      cases comma with
      | false =>
        have HE : Hid (rlistP s.size one 63 σ = (υ, acc1)) := by
          show _ = _
          rw [HQ.out, HST.out, HAcc.out]
          simp
        clear HQ HST
        go_wp2
        (try rw [Exit.noGoto_ret])
        go_ret
        exact ⟨.slice (some ⟨g, 0, none⟩) acc1.length cap, by rw [HLn.out]; rfl, by rw [HE.out]; exact own_base HV5.out (by omega), by rw [HE.out]; exact h5, hgD⟩
      | true =>
        cases q0 with
        | zero =>
          have hal2 : ((acc.length : Int) + 1 == 64) = true := by simp; omega
          have HE : Hid (rlistP s.size one 63 σ = (failP at0 5 υ, acc1)) := by
            show _ = _
            rw [HQ.out, HST.out, HAcc.out]
            simp
          clear HQ HST
          go_wp2_with fail
          refine (HF.out _ h5).mono ?_
          rintro e w6 ⟨rfl, h6, g6⟩
          have HV6 := Lib.hid (own_chg HV5.out g6 hlt)
          go_wp2
          (try rw [Exit.noGoto_ret])
          go_ret
          exact ⟨.slice (some ⟨g, 0, none⟩) acc1.length cap, by rw [HLn.out]; rfl, by rw [HE.out]; exact own_base HV6.out (by omega), by rw [HE.out]; exact h6, hgD.trans g6⟩
        | succ q1 =>
          have hal2 : ((acc.length : Int) + 1 == 64) = false := by simp; omega
          have HE : Hid (rlistP s.size one 63 σ = ((rlistP s.size one q1 υ).1, acc1 ++ (rlistP s.size one q1 υ).2)) := by
            show _ = _
            rw [HQ.out, HST.out, HAcc.out]
            simp
          clear HQ HST
          go_wp2
          go_roundg q1
          case measure => omega
          case rel => exact ⟨.slice (some ⟨g, 0, none⟩) acc1.length cap, acc1, υ, q1, by rw [HLn.out], rfl, by rw [HLn.out]; omega, HE.out, HV5.out, h5, HB5.out, hgD⟩
set_option maxRecDepth 20000 in
set_option maxHeartbeats 2000000 in
theorem dlist_rr (Bx : Nat) (hbx : Bx ≠ b) (hx : KBox w Bx b s) (h : RdP w b s σ) :
    Calls Tryz.prog 84 #[kV b s, .func (.func 85) #[] #[.pointer (some ⟨Bx, 0, none⟩)]] w (RetPI (rlistP s.size (signP s.size 31) 63 σ).2 b s (rlistP s.size (signP s.size 31) 63 σ).1 w) := by
  have HI := Lib.hid (fun W σ (g : Chg b w W) (h : RdP W b s σ) => days1_rr hs Bx (hx.chg g hbx) h)
  clear hx
  generalize signP s.size 31 = one at *
  obtain ⟨q, hq⟩ : ∃ q : Nat, q = 63 := ⟨_, rfl⟩
  obtain ⟨i0, hi0, hz0, hz1, hz2⟩ := info_parts info_int
  have hs9 : s.size ≤ 9223372036854775807 := by omega
  have hlt := h.lt
  have hne : w.heap.size ≠ b := by omega
  have H := Lib.hid h
  have HI0 := Lib.hid hi0
  have HZ0 := Lib.hid hz0
  have HZ1 := Lib.hid hz1
  have HZ2 := Lib.hid hz2
  clear hi0 hz0 hz1 hz2
  clear h
  go_enter Tryz.func84, Tryz.ntmps84
  go_wp2
  go_step3
  go_wp2
  go_step3
  go_wp2
  go_loopg [5] (q : Nat) (fun gg v wr => ∃ (vo : Value) (acc : List Int) (σ' : PS) (q0 : Nat), vo = v ∧ gg = q0 ∧ acc.length + q0 = 63 ∧ Hid (rlistP s.size one 63 σ = ((rlistP s.size one q0 σ').1, acc ++ (rlistP s.size one q0 σ').2)) ∧ Hid (OwnInts wr (w.heap.size + 1) vo acc) ∧ Hid (RdP wr b s σ') ∧ Hid (KBox wr w.heap.size b s) ∧ Hid (Chg b w wr))
  case atStart => exact ⟨_, [], σ, 63, rfl, hq, by simp, by show _ = _; simp, World.ownsRow_nil _ _ _ _, H.out.alloc _, kbox_new _ _ _ _, (Chg.refl b w).alloc _⟩
  case round =>
    obtain ⟨vo, acc, σ', q0, rfl, hgq, hal, HQ, HO, HD, HB, HC⟩ := hrel
    have hlt : b < w.heap.size + 1 := by omega
    have HOne := Lib.hid (HI.out wr σ' HC.out HD.out)
    have HST := Lib.hid (rlistP_step s.size one q0 σ')
    generalize one σ' = r at *
    obtain ⟨τ, i⟩ := r
    dsimp only at *
    have HA := Lib.hid (fun W (h : RdP W b s τ) => at_ps h)
    have HIs := Lib.hid (fun W A n cp (h : RdP W b s τ) (hA : RdBytes W A n [44]) (hn : n ≤ 9223372036854775807) => is_ps (cp := cp) hs9 h hA hn)
    generalize atP s.size τ = at0 at *
    generalize isP [44] τ = u at *
    obtain ⟨υ, comma⟩ := u
    dsimp only at *
    have HF := Lib.hid (fun W (h : RdP W b s υ) => fail_ps at0 5 h)
    go_wp2_with fail
    refine (HOne.out).mono ?_
    rintro e w2 ⟨rfl, h2, g2⟩
    have HO2 := Lib.hid (own_chg HO.out g2 hlt)
    have HB2 := Lib.hid (HB.out.chg g2 hne)
    have hgA := HC.out.trans g2
    have hz2 := hgA.size
    have hi0 := HI0.out
    have hz0 := HZ0.out
    have hz1 := HZ1.out
    have hzz2 := HZ2.out
    go_wp2_with (at_builtin; refine wpList_append_own _ rfl _ _ 22 rfl (w.heap.size + 1) 3 i0 _ 1 8 Tryz.underlying22 hi0 hz0 hz1 hzz2 rfl (by decide) _ acc.length _ rfl (HO2.out.alloc _) ⟨w2.heap.size, 0, none⟩ 1 1 [.int .i64 i] rfl rfl ?c1 ?c2 ?c3 ?c4 ?c5 ?c6)
    case c1 =>
      intro j u hu
      rcases j with _ | j
      · simp at hu; subst hu
        exact cell_new rfl rfl
      · simp at hu
    case c2 =>
      intro u hu
      simp at hu
      subst hu
      rfl
    case c3 => simp only [maxLen]; omega
    case c4 => omega
    case c5 => simp; omega
    case c6 =>
      intro v' w3 hown hg _
      have HV : Hid (OwnInts w3 (w.heap.size + 1) v' (acc ++ [i])) := by
        show World.ownsRow _ _ _ _ _ _ _
        rw [List.length_append, List.map_append]
        exact hown
      have hob1 : ∀ k, vo.ownBlock = some k → w.heap.size + 1 ≤ k := own_ge HO.out
      have hob : ∀ k, vo.ownBlock = some k → w.heap.size ≤ k := fun k hk => by have := hob1 k hk; omega
      have hobn : vo.ownBlock ≠ some b := fun e => by have := hob b e; omega
      have hobB : vo.ownBlock ≠ some w.heap.size := fun e => by have := hob1 _ e; omega
      have h3 := (h2.alloc (.cells #[.int .i64 i] 3)).grown hg hobn
      have HB3 := Lib.hid ((HB2.out.alloc _).grown hg hobB)
      have hgB := (hgA.alloc _).grown hg hob
      have HLn : Hid ((acc ++ [i]).length = acc.length + 1) := by show _ = _; simp
      have hpos : 0 < (acc ++ [i]).length := by simp
      clear hown hg hi0 hz0 hz1 hzz2 h2 g2 HO2 HB2 hob hob1 hobn hobB
      obtain ⟨g, cap, rfl, hgb, hgl⟩ : ∃ g cap, v' = .slice (some ⟨g, 0, none⟩) (acc ++ [i]).length cap ∧ w.heap.size + 1 ≤ g ∧ g < w3.heap.size := by
        rcases own_some HV.out with ⟨_, h0⟩ | h1
        · omega
        · exact h1
      obtain ⟨acc1, hacc⟩ : ∃ x, x = acc ++ [i] := ⟨_, rfl⟩
      rw [← hacc] at HV HLn ⊢
      have HAcc := Lib.hid hacc
      rw [HLn.out]
      clear hpos hacc
      obtain ⟨c0, c1⟩ := HB3.out
      have hz3 := hgB.size
      go_wp2_with fail
      refine (HA.out _ h3).mono ?_
      rintro e w4 ⟨rfl, rfl⟩
      go_wp2_with fail
      refine (HIs.out _ _ _ _ (h3.alloc _) (rdB1 (c := 44) (cell_new rfl rfl)) (by decide)).mono ?_
      rintro e w5 ⟨rfl, h5, g5⟩
      have hgD := (hgB.alloc _).trans g5
      have HB5 := Lib.hid ((HB3.out.alloc _).chg g5 hne)
      have HV5 := Lib.hid (own_chg (HV.out.alloc _) g5 hlt)
      clear c0 c1
      obtain ⟨c0, c1⟩ := HB5.out
      cases comma with
      | false =>
        have HE : Hid (rlistP s.size one 63 σ = (υ, acc1)) := by
          show _ = _
          rw [HQ.out, HST.out, HAcc.out]
          simp
        clear HQ HST
        go_wp2
        (try rw [Exit.noGoto_ret])
        go_ret
        exact ⟨.slice (some ⟨g, 0, none⟩) acc1.length cap, by rw [HLn.out]; rfl, by rw [HE.out]; exact own_base HV5.out (by omega), by rw [HE.out]; exact h5, hgD⟩
      | true =>
        cases q0 with
        | zero =>
          have hal2 : ((acc.length : Int) + 1 == 64) = true := by simp; omega
          have HE : Hid (rlistP s.size one 63 σ = (failP at0 5 υ, acc1)) := by
            show _ = _
            rw [HQ.out, HST.out, HAcc.out]
            simp
          clear HQ HST
          go_wp2_with fail
          refine (HF.out _ h5).mono ?_
          rintro e w6 ⟨rfl, h6, g6⟩
          have HV6 := Lib.hid (own_chg HV5.out g6 hlt)
          go_wp2
          (try rw [Exit.noGoto_ret])
          go_ret
          exact ⟨.slice (some ⟨g, 0, none⟩) acc1.length cap, by rw [HLn.out]; rfl, by rw [HE.out]; exact own_base HV6.out (by omega), by rw [HE.out]; exact h6, hgD.trans g6⟩
        | succ q1 =>
          have hal2 : ((acc.length : Int) + 1 == 64) = false := by simp; omega
          have HE : Hid (rlistP s.size one 63 σ = ((rlistP s.size one q1 υ).1, acc1 ++ (rlistP s.size one q1 υ).2)) := by
            show _ = _
            rw [HQ.out, HST.out, HAcc.out]
            simp
          clear HQ HST
          go_wp2
          go_roundg q1
          case measure => omega
          case rel => exact ⟨.slice (some ⟨g, 0, none⟩) acc1.length cap, acc1, υ, q1, by rw [HLn.out], rfl, by rw [HLn.out]; omega, HE.out, HV5.out, h5, HB5.out, hgD⟩
set_option maxRecDepth 20000 in
set_option maxHeartbeats 2000000 in
theorem numbers_rr (lo hi : Int) (h : RdP w b s σ) : Calls Tryz.prog 82 #[kV b s, .int .i64 lo, .int .i64 hi] w (RetPI (numsP s.size lo hi σ).2 b s (numsP s.size lo hi σ).1 w) := by
  have hlt := h.lt
  have HI := Lib.hid (fun W (hx : KBox W w.heap.size b s) (hl : W.cell? ⟨w.heap.size + 1, 0, none⟩ = some (.int .i64 lo)) (hh : W.cell? ⟨w.heap.size + 2, 0, none⟩ = some (.int .i64 hi)) (h : RdP W b s σ) => nlist_rr hs lo hi w.heap.size (w.heap.size + 1) (w.heap.size + 2) (by omega) (by omega) (by omega) hx hl hh h)
  have H := Lib.hid h
  generalize numsP s.size lo hi σ = R at *
  obtain ⟨τ, L⟩ := R
  dsimp only at *
  clear h
  go_enter Tryz.func82, Tryz.ntmps82
  go_wp2_with fail
  refine (HI.out _ (((kbox_new w b s _).alloc _).alloc _) ?cl ?ch (((H.out.alloc _).alloc _).alloc _)).mono ?_
  case cl => exact cell_old (cell_new (by simp) rfl)
  case ch => exact cell_new (by simp) rfl
  rintro e w1 ⟨v, rfl, hv, h1, g1⟩
  go_wp2
  go_ret
  exact ⟨v, rfl, own_base hv (by simp; omega), h1, ((((Chg.refl b w).alloc _).alloc _).alloc _).trans g1⟩
set_option maxRecDepth 20000 in
set_option maxHeartbeats 2000000 in
theorem start_rr (h : RdP w b s σ) : Calls Tryz.prog 93 #[kV b s] w (RetP (.tuple #[]) b s (startP s.size σ) w) := by
  have hlt := h.lt
  have hne : ¬ w.heap.size = b := by omega
  have H := Lib.hid h
  have HA := Lib.hid (fun W (h : RdP W b s σ) => at_ps h)
  have HW := Lib.hid (fun W => rwdays_any W)
  have HO := Lib.hid (fun W B c (hB : B ≠ b) (hA : StrsAt W B wdN) (h : RdP W b s σ) => one_rr hs wdN (by decide) B c hB (by decide) hA h)
  have HR : Hid (startP s.size σ = if 0 < (oneP s.size wdN σ).2 then failP (atP s.size σ) 9 (oneP s.size wdN σ).1 else (oneP s.size wdN σ).1) := rfl
  generalize startP s.size σ = R at *
  generalize oneP s.size wdN σ = r at *
  generalize atP s.size σ = at0 at *
  obtain ⟨τ, n⟩ := r
  dsimp only at *
  have HF := Lib.hid (fun W (h : RdP W b s τ) => fail_ps at0 9 h)
  clear h
  go_enter Tryz.func93, Tryz.ntmps93
  go_wp2_with fail
  refine (HA.out _ (H.out.alloc _)).mono ?_
  rintro e w2 ⟨rfl, rfl⟩
  have hr : 0 < n ∨ ¬ 0 < n := by omega
  rcases hr with hr | hr
  · have HE : Hid (R = failP at0 9 τ) := by show _ = _; rw [HR.out, if_pos hr]
    clear HR
    go_wp2_with fail
    go_region_with ((first | (go_at_call 136; refine (HW.out _).mono ?_; rintro e w3 ⟨B, c, rfl, hA3, hB3, hb3⟩; have u0 : w3.cell? ⟨w.heap.size, 0, none⟩ = some (.pointer (some ⟨b, 0, none⟩)) := (hb3.cell (p := ⟨w.heap.size, 0, none⟩) (by simp)).trans (cell_new rfl rfl); have u1 : w3.cell? ⟨w.heap.size, 1, none⟩ = some (.string s) := (hb3.cell (p := ⟨w.heap.size, 1, none⟩) (by simp)).trans (cell_new rfl rfl); have hz3 : w.heap.size < w3.heap.size := by have := hb3.size; simp at this; omega) | (go_at_call 75; refine (HO.out _ B c (by simp at hB3; omega) hA3 (((H.out.alloc _).drew).below hb3)).mono ?_; rintro e w4 ⟨rfl, h4, g4⟩; have u4 : w4.cell? ⟨w.heap.size, 0, none⟩ = some (.pointer (some ⟨b, 0, none⟩)) := g4.cell hne u0; have hz4 : w.heap.size < w4.heap.size := Nat.lt_of_lt_of_le hz3 g4.size)))
    all_goals
      go_wp2_with fail
      refine (HF.out _ h4).mono ?_
      rintro e w5 ⟨rfl, h5, g5⟩
      go_wp2
      first | go_end0 | (refine bodyPost_ret (results_none rfl _ _ _) rfl ?_)
      exact ⟨rfl, by rw [HE.out]; exact h5, ((((Chg.refl b w).alloc _).drewN 1).trans (chg_of hb3)).trans (g4.trans g5)⟩
  · have HE : Hid (R = τ) := by show _ = _; rw [HR.out, if_neg hr]
    clear HR
    go_wp2_with fail
    go_region_with ((first | (go_at_call 136; refine (HW.out _).mono ?_; rintro e w3 ⟨B, c, rfl, hA3, hB3, hb3⟩; have u0 : w3.cell? ⟨w.heap.size, 0, none⟩ = some (.pointer (some ⟨b, 0, none⟩)) := (hb3.cell (p := ⟨w.heap.size, 0, none⟩) (by simp)).trans (cell_new rfl rfl); have u1 : w3.cell? ⟨w.heap.size, 1, none⟩ = some (.string s) := (hb3.cell (p := ⟨w.heap.size, 1, none⟩) (by simp)).trans (cell_new rfl rfl); have hz3 : w.heap.size < w3.heap.size := by have := hb3.size; simp at this; omega) | (go_at_call 75; refine (HO.out _ B c (by simp at hB3; omega) hA3 (((H.out.alloc _).drew).below hb3)).mono ?_; rintro e w4 ⟨rfl, h4, g4⟩; have u4 : w4.cell? ⟨w.heap.size, 0, none⟩ = some (.pointer (some ⟨b, 0, none⟩)) := g4.cell hne u0; have hz4 : w.heap.size < w4.heap.size := Nat.lt_of_lt_of_le hz3 g4.size)))
    all_goals
      go_wp2
      first | go_end0 | (refine bodyPost_ret (results_none rfl _ _ _) rfl ?_)
      exact ⟨rfl, by rw [HE.out]; exact h4, ((((Chg.refl b w).alloc _).drewN 1).trans (chg_of hb3)).trans g4⟩
end
end Go.Proofs.YtnelecjjbmjhaaaGreatDoor
