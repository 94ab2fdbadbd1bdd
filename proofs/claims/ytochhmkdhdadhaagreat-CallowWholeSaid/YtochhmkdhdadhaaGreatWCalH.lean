/- The walks of package calread's reader: a field, a date, a time. -/
import Derived.Test.YtochhmkdhdadhaaGreatWCalF3
import Derived.Test.YtochhmkdhdadhaaGreatWOwn
import Derived.Deep.LoopGhost
/- The walks of package calread's reader: a list of items, a field. -/
namespace Go.Proofs.YtochhmkdhdadhaaGreat
open Go.RowKit
set_option linter.unusedSimpArgs false
set_option linter.unusedVariables false

/-- It hands back a slice of items of its own; the reader stands so. -/
def RetPL (L : List It) (b : Nat) (s : ByteArray) (σ : PS) (w : World) (x : Ending) (w' : World) : Prop := ∃ v, x = .returned v ∧ OwnIts w' w.heap.size v L ∧ L ≠ [] ∧ RdP w' b s σ ∧ Chg b w w'
theorem klistP_step (N : Nat) (one : PS → PS × It) (q : Nat) (σ : PS) : klistP N one q σ = if (isP [44] (one σ).1).2 then
    (match q with | 0 => (failP (atP N (one σ).1) 5 (isP [44] (one σ).1).1, [(one σ).2]) | q + 1 => ((klistP N one q (isP [44] (one σ).1).1).1, (one σ).2 :: (klistP N one q (isP [44] (one σ).1).1).2))
    else ((isP [44] (one σ).1).1, [(one σ).2]) := by
  cases q with
  | zero => rw [klistP]; split <;> rfl
  | succ q => rw [klistP]
theorem kitem_any {w : World} {b : Nat} {s : ByteArray} {σ : PS} (hs : s.size ≤ 1000000) (f : Nat) (hf : f < 7) (h : RdP w b s σ) : Calls Tryz.prog 154 #[kV b s, .int .i64 (f : Int)] w (RetP (itV (kitemP s.size f σ).2) b s (kitemP s.size f σ).1 w) := by
  cases hyes : (textP dots (subP s.size f (knumP s.size f σ).1)).2 with
  | false => exact kitem_no hs f hf h hyes
  | true =>
    by_cases hl : (knumP s.size f (textP dots (subP s.size f (knumP s.size f σ).1)).1).2 < (knumP s.size f σ).2
    · exact kitem_less hs f hf h hyes hl
    · exact kitem_rng hs f hf h hyes hl
section
variable {w : World} {b : Nat} {s : ByteArray} {σ : PS} (hs : s.size ≤ 1000000)
include hs
set_option maxRecDepth 20000 in
set_option maxHeartbeats 2000000 in
theorem dlist_ks (q : Nat) (hq : q ≤ 400) (h : RdP w b s σ) : Calls Tryz.prog 75 #[kV b s, .int .i64 ((q : Int) + 1), .func (.func 76) #[kV b s] #[]] w (RetPL (klistP s.size (daysP s.size) q σ).2 b s (klistP s.size (daysP s.size) q σ).1 w) := by
  have HI := Lib.hid (fun W σ (_ : Chg b w W) (h : RdP W b s σ) => days_ks hs h)
  generalize daysP s.size = one at *
  have hs9 : s.size ≤ 9223372036854775807 := by omega
  have hlt := h.lt
  have hne : w.heap.size ≠ b := by omega
  have H := Lib.hid h
  obtain ⟨i0, hi0, hz0, hz1, hz2⟩ := info_parts info_it
  have HI0 := Lib.hid hi0
  have HZ0 := Lib.hid hz0
  have HZ1 := Lib.hid hz1
  have HZ2 := Lib.hid hz2
  clear hi0 hz0 hz1 hz2
  clear h
  go_enter Tryz.func75, Tryz.ntmps75
  go_wp2
  go_step3
  go_wp2
  go_step3
  go_wp2
  go_loopg [7] (q : Nat) (fun gg v wr => ∃ (vo : Value) (acc : List It) (σ' : PS) (q0 : Nat), vo = v ∧ gg = q0 ∧ acc.length + q0 = q ∧ Hid (klistP s.size one q σ = ((klistP s.size one q0 σ').1, acc ++ (klistP s.size one q0 σ').2)) ∧ Hid (OwnIts wr (w.heap.size + 1) vo acc) ∧ Hid (RdP wr b s σ') ∧ Hid (KBox wr w.heap.size b s) ∧ Hid (Chg b w wr))
  case atStart => exact ⟨_, [], σ, q, rfl, rfl, by simp, by show _ = _; simp, World.ownsRow_nil _ _ _ _, H.out.alloc _, kbox_new _ _ _ _, (Chg.refl b w).alloc _⟩
  case round =>
    obtain ⟨vo, acc, σ', q0, rfl, hgq, hal, HQ, HO, HD, HB, HC⟩ := hrel
    have hlt : b < w.heap.size + 1 := by omega
    have HOne := Lib.hid (HI.out wr σ' HC.out HD.out)
    have HST := Lib.hid (klistP_step s.size one q0 σ')
    generalize one σ' = r at *
    obtain ⟨τ, i⟩ := r
    dsimp only at *
    have HA := Lib.hid (fun W (h : RdP W b s τ) => at_ps h)
    have HIs := Lib.hid (fun W A n cp (h : RdP W b s τ) (hA : RdBytes W A n [44]) (hn : n ≤ 9223372036854775807) => is_ps (cp := cp) hs9 h hA hn)
    generalize atP s.size τ = at0 at *
    generalize isP [44] τ = u at *
    obtain ⟨υ, comma⟩ := u
    dsimp only at *
    have HF := Lib.hid (fun W (h : RdP W b s υ) => fail_ps at0 5 h)
    go_wp2_with fail
    refine (HOne.out).mono ?_
    rintro e w2 ⟨rfl, h2, g2⟩
    have HO2 := Lib.hid (own_chg HO.out g2 hlt)
    have HB2 := Lib.hid (HB.out.chg g2 hne)
    have hgA := HC.out.trans g2
    have hz2 := hgA.size
    have hi0 := HI0.out
    have hz0 := HZ0.out
    have hz1 := HZ1.out
    have hzz2 := HZ2.out
    go_wp2_with (at_builtin; refine wpList_append_own _ rfl _ _ 22 rfl (w.heap.size + 1) 59 i0 _ 4 32 Tryz.underlying22 hi0 hz0 hz1 hzz2 rfl (by decide) _ acc.length _ rfl (HO2.out.alloc _) ⟨w2.heap.size, 0, none⟩ 1 1 [.int .i64 i.k, .int .i64 i.f, .int .i64 i.t, .int .i64 i.s] rfl rfl ?c1 ?c2 ?c3 ?c4 ?c5 ?c6)
    case c1 =>
      intro j u hu
      rcases j with _ | _ | _ | _ | j
      · simp at hu; subst hu
        exact cell_new rfl rfl
      · simp at hu; subst hu
        exact cell_new rfl rfl
      · simp at hu; subst hu
        exact cell_new rfl rfl
      · simp at hu; subst hu
        exact cell_new rfl rfl
      · simp at hu
    case c2 => intro u hu; simp at hu; rcases hu with rfl | rfl | rfl | rfl <;> rfl
    case c3 => simp only [maxLen]; omega
    case c4 => omega
    case c5 => simp; omega
    case c6 =>
      intro v' w3 hown hg _
      have HV : Hid (OwnIts w3 (w.heap.size + 1) v' (acc ++ [i])) := by
        show World.ownsRow _ _ _ _ _ _ _
        rw [List.length_append, List.flatMap_append, List.flatMap_singleton]
        exact hown
      have hob1 : ∀ k, vo.ownBlock = some k → w.heap.size + 1 ≤ k := own_ge HO.out
      have hob : ∀ k, vo.ownBlock = some k → w.heap.size ≤ k := fun k hk => by have := hob1 k hk; omega
      have hobn : vo.ownBlock ≠ some b := fun e => by have := hob b e; omega
      have hobB : vo.ownBlock ≠ some w.heap.size := fun e => by have := hob1 _ e; omega
      have h3 := (h2.alloc (.cells #[.int .i64 i.k, .int .i64 i.f, .int .i64 i.t, .int .i64 i.s] 59)).grown hg hobn
      have HB3 := Lib.hid ((HB2.out.alloc _).grown hg hobB)
      have hgB := (hgA.alloc _).grown hg hob
      have HLn : Hid ((acc ++ [i]).length = acc.length + 1) := by show _ = _; simp
      have hpos : 0 < (acc ++ [i]).length := by simp
      clear hown hg hi0 hz0 hz1 hzz2 h2 g2 HO2 HB2 hob hob1 hobn hobB
      obtain ⟨g, cap, rfl, hgb, hgl⟩ : ∃ g cap, v' = .slice (some ⟨g, 0, none⟩) (acc ++ [i]).length cap ∧ w.heap.size + 1 ≤ g ∧ g < w3.heap.size := by
        rcases own_some HV.out with ⟨_, h0⟩ | h1
        · omega
        · exact h1
      obtain ⟨acc1, hacc⟩ : ∃ x, x = acc ++ [i] := ⟨_, rfl⟩
      rw [← hacc] at HV HLn ⊢
      have HAcc := Lib.hid hacc
      rw [HLn.out]
      clear hpos hacc
      obtain ⟨c0, c1⟩ := HB3.out
      have hz3 := hgB.size
      go_wp2_with fail
      refine (HA.out _ h3).mono ?_
      rintro e w4 ⟨rfl, rfl⟩
      go_wp2_with fail
      refine (HIs.out _ _ _ _ (h3.alloc _) (rdB1 (c := 44) (cell_new rfl rfl)) (by decide)).mono ?_
      rintro e w5 ⟨rfl, h5, g5⟩
      have hgD := (hgB.alloc _).trans g5
      have HB5 := Lib.hid ((HB3.out.alloc _).chg g5 hne)
      have HV5 := Lib.hid (own_chg (HV.out.alloc _) g5 hlt)
      clear c0 c1
      obtain ⟨c0, c1⟩ := HB5.out
      cases comma with
      | false =>
        have HE : Hid (klistP s.size one q σ = (υ, acc1)) := by
          show _ = _
          rw [HQ.out, HST.out, HAcc.out]
          simp
        clear HQ HST
        go_wp2
        (try rw [Exit.noGoto_ret])
        go_ret
        exact ⟨.slice (some ⟨g, 0, none⟩) acc1.length cap, by rw [HLn.out]; rfl, by rw [HE.out]; exact own_base HV5.out (by omega), by rw [HE.out, HAcc.out]; simp, by rw [HE.out]; exact h5, hgD⟩
      | true =>
        cases q0 with
        | zero =>
          have hal2 : ((acc.length : Int) + 1 == (q : Int) + 1) = true := by simp; omega
          have HE : Hid (klistP s.size one q σ = (failP at0 5 υ, acc1)) := by
            show _ = _
            rw [HQ.out, HST.out, HAcc.out]
            simp
          clear HQ HST
          go_wp2_with fail
          refine (HF.out _ h5).mono ?_
          rintro e w6 ⟨rfl, h6, g6⟩
          have HV6 := Lib.hid (own_chg HV5.out g6 hlt)
          go_wp2
          (try rw [Exit.noGoto_ret])
          go_ret
          exact ⟨.slice (some ⟨g, 0, none⟩) acc1.length cap, by rw [HLn.out]; rfl, by rw [HE.out]; exact own_base HV6.out (by omega), by rw [HE.out, HAcc.out]; simp, by rw [HE.out]; exact h6, hgD.trans g6⟩
        | succ q1 =>
          have hal2 : ((acc.length : Int) + 1 == (q : Int) + 1) = false := by simp; omega
          have HE : Hid (klistP s.size one q σ = ((klistP s.size one q1 υ).1, acc1 ++ (klistP s.size one q1 υ).2)) := by
            show _ = _
            rw [HQ.out, HST.out, HAcc.out]
            simp
          clear HQ HST
          go_wp2
          go_roundg q1
          case measure => omega
          case rel => exact ⟨.slice (some ⟨g, 0, none⟩) acc1.length cap, acc1, υ, q1, by rw [HLn.out], rfl, by rw [HLn.out]; omega, HE.out, HV5.out, h5, HB5.out, hgD⟩
set_option maxRecDepth 20000 in
set_option maxHeartbeats 2000000 in
/-- The closure that reads an item of a field. -/
theorem field1_ks (f : Nat) (hf : f < 7) (Bx Bf : Nat) (hx : KBox w Bx b s) (hfc : w.cell? ⟨Bf, 0, none⟩ = some (.int .i64 (f : Int))) (h : RdP w b s σ) : Calls Tryz.prog 153 #[.pointer (some ⟨Bx, 0, none⟩), .pointer (some ⟨Bf, 0, none⟩)] w (RetP (itV (kitemP s.size f σ).2) b s (kitemP s.size f σ).1 w) := by
  have hlt := h.lt
  have hne : ¬ w.heap.size = b := by omega
  have H := Lib.hid h
  have HI := Lib.hid (fun W (h : RdP W b s σ) => kitem_any hs f hf h)
  have hl1 := hx.lt
  have hl2 := World.block_lt_of_cell? w _ hfc
  obtain ⟨c0, c1⟩ := hx
  generalize kitemP s.size f σ = R at *
  obtain ⟨τ, i⟩ := R
  dsimp only at *
  have e1 : ¬ w.heap.size = Bx := by omega
  have e2 : ¬ w.heap.size = Bf := by omega
  have e3 : ¬ Bx = w.heap.size := by omega
  have e4 : ¬ Bf = w.heap.size := by omega
  clear h
  go_enter Tryz.func153, Tryz.ntmps153
  go_wp2_with fail
  refine (HI.out _ (H.out.alloc _)).mono ?_
  rintro e w1 ⟨rfl, h1, g1⟩
  obtain ⟨hc1, hf1⟩ := gcell g1
  go_wp2
  refine bodyPost_ret (v := itV i) ?_ rfl ⟨rfl, ?_, ?_⟩
  · rw [results_cell1 rfl]
    go_simp
  · exact h1.set4 hne _ _ _ _
  · exact (((Chg.refl b w).alloc _).trans g1).set4 (Nat.le_refl _) _ _ _ _
set_option maxRecDepth 20000 in
set_option maxHeartbeats 2000000 in
theorem flist_ks (f : Nat) (hf : f < 7) (Bx Bf : Nat) (hbx : Bx ≠ b) (hbf : Bf ≠ b) (hx : KBox w Bx b s) (hfc : w.cell? ⟨Bf, 0, none⟩ = some (.int .i64 (f : Int))) (q : Nat) (hq : q ≤ 400) (h : RdP w b s σ) :
    Calls Tryz.prog 75 #[kV b s, .int .i64 ((q : Int) + 1), .func (.func 153) #[] #[.pointer (some ⟨Bx, 0, none⟩), .pointer (some ⟨Bf, 0, none⟩)]] w (RetPL (klistP s.size (kitemP s.size f) q σ).2 b s (klistP s.size (kitemP s.size f) q σ).1 w) := by
  have HI := Lib.hid (fun W σ (g : Chg b w W) (h : RdP W b s σ) => field1_ks hs f hf Bx Bf (hx.chg g hbx) (g.cell hbf hfc) h)
  clear hx hfc
  generalize kitemP s.size f = one at *
  have hs9 : s.size ≤ 9223372036854775807 := by omega
  have hlt := h.lt
  have hne : w.heap.size ≠ b := by omega
  have H := Lib.hid h
  obtain ⟨i0, hi0, hz0, hz1, hz2⟩ := info_parts info_it
  have HI0 := Lib.hid hi0
  have HZ0 := Lib.hid hz0
  have HZ1 := Lib.hid hz1
  have HZ2 := Lib.hid hz2
  clear hi0 hz0 hz1 hz2
  clear h
  go_enter Tryz.func75, Tryz.ntmps75
  go_wp2
  go_step3
  go_wp2
  go_step3
  go_wp2
  go_loopg [7] (q : Nat) (fun gg v wr => ∃ (vo : Value) (acc : List It) (σ' : PS) (q0 : Nat), vo = v ∧ gg = q0 ∧ acc.length + q0 = q ∧ Hid (klistP s.size one q σ = ((klistP s.size one q0 σ').1, acc ++ (klistP s.size one q0 σ').2)) ∧ Hid (OwnIts wr (w.heap.size + 1) vo acc) ∧ Hid (RdP wr b s σ') ∧ Hid (KBox wr w.heap.size b s) ∧ Hid (Chg b w wr))
  case atStart => exact ⟨_, [], σ, q, rfl, rfl, by simp, by show _ = _; simp, World.ownsRow_nil _ _ _ _, H.out.alloc _, kbox_new _ _ _ _, (Chg.refl b w).alloc _⟩
  case round =>
    obtain ⟨vo, acc, σ', q0, rfl, hgq, hal, HQ, HO, HD, HB, HC⟩ := hrel
    have hlt : b < w.heap.size + 1 := by omega
    have HOne := Lib.hid (HI.out wr σ' HC.out HD.out)
    have HST := Lib.hid (klistP_step s.size one q0 σ')
    generalize one σ' = r at *
    obtain ⟨τ, i⟩ := r
    dsimp only at *
    have HA := Lib.hid (fun W (h : RdP W b s τ) => at_ps h)
    have HIs := Lib.hid (fun W A n cp (h : RdP W b s τ) (hA : RdBytes W A n [44]) (hn : n ≤ 9223372036854775807) => is_ps (cp := cp) hs9 h hA hn)
    generalize atP s.size τ = at0 at *
    generalize isP [44] τ = u at *
    obtain ⟨υ, comma⟩ := u
    dsimp only at *
    have HF := Lib.hid (fun W (h : RdP W b s υ) => fail_ps at0 5 h)
    go_wp2_with fail
    refine (HOne.out).mono ?_
    rintro e w2 ⟨rfl, h2, g2⟩
    have HO2 := Lib.hid (own_chg HO.out g2 hlt)
    have HB2 := Lib.hid (HB.out.chg g2 hne)
    have hgA := HC.out.trans g2
    have hz2 := hgA.size
    have hi0 := HI0.out
    have hz0 := HZ0.out
    have hz1 := HZ1.out
    have hzz2 := HZ2.out
    go_wp2_with (at_builtin; refine wpList_append_own _ rfl _ _ 22 rfl (w.heap.size + 1) 59 i0 _ 4 32 Tryz.underlying22 hi0 hz0 hz1 hzz2 rfl (by decide) _ acc.length _ rfl (HO2.out.alloc _) ⟨w2.heap.size, 0, none⟩ 1 1 [.int .i64 i.k, .int .i64 i.f, .int .i64 i.t, .int .i64 i.s] rfl rfl ?c1 ?c2 ?c3 ?c4 ?c5 ?c6)
    case c1 =>
      intro j u hu
      rcases j with _ | _ | _ | _ | j
      · simp at hu; subst hu
        exact cell_new rfl rfl
      · simp at hu; subst hu
        exact cell_new rfl rfl
      · simp at hu; subst hu
        exact cell_new rfl rfl
      · simp at hu; subst hu
        exact cell_new rfl rfl
      · simp at hu
    case c2 => intro u hu; simp at hu; rcases hu with rfl | rfl | rfl | rfl <;> rfl
    case c3 => simp only [maxLen]; omega
    case c4 => omega
    case c5 => simp; omega
    case c6 =>
      intro v' w3 hown hg _
      have HV : Hid (OwnIts w3 (w.heap.size + 1) v' (acc ++ [i])) := by
        show World.ownsRow _ _ _ _ _ _ _
        rw [List.length_append, List.flatMap_append, List.flatMap_singleton]
        exact hown
      have hob1 : ∀ k, vo.ownBlock = some k → w.heap.size + 1 ≤ k := own_ge HO.out
      have hob : ∀ k, vo.ownBlock = some k → w.heap.size ≤ k := fun k hk => by have := hob1 k hk; omega
      have hobn : vo.ownBlock ≠ some b := fun e => by have := hob b e; omega
      have hobB : vo.ownBlock ≠ some w.heap.size := fun e => by have := hob1 _ e; omega
      have h3 := (h2.alloc (.cells #[.int .i64 i.k, .int .i64 i.f, .int .i64 i.t, .int .i64 i.s] 59)).grown hg hobn
      have HB3 := Lib.hid ((HB2.out.alloc _).grown hg hobB)
      have hgB := (hgA.alloc _).grown hg hob
      have HLn : Hid ((acc ++ [i]).length = acc.length + 1) := by show _ = _; simp
      have hpos : 0 < (acc ++ [i]).length := by simp
      clear hown hg hi0 hz0 hz1 hzz2 h2 g2 HO2 HB2 hob hob1 hobn hobB
      obtain ⟨g, cap, rfl, hgb, hgl⟩ : ∃ g cap, v' = .slice (some ⟨g, 0, none⟩) (acc ++ [i]).length cap ∧ w.heap.size + 1 ≤ g ∧ g < w3.heap.size := by
        rcases own_some HV.out with ⟨_, h0⟩ | h1
        · omega
        · exact h1
      obtain ⟨acc1, hacc⟩ : ∃ x, x = acc ++ [i] := ⟨_, rfl⟩
      rw [← hacc] at HV HLn ⊢
      have HAcc := Lib.hid hacc
      rw [HLn.out]
      clear hpos hacc
      obtain ⟨c0, c1⟩ := HB3.out
      have hz3 := hgB.size
      go_wp2_with fail
      refine (HA.out _ h3).mono ?_
      rintro e w4 ⟨rfl, rfl⟩
      go_wp2_with fail
      refine (HIs.out _ _ _ _ (h3.alloc _) (rdB1 (c := 44) (cell_new rfl rfl)) (by decide)).mono ?_
      rintro e w5 ⟨rfl, h5, g5⟩
      have hgD := (hgB.alloc _).trans g5
      have HB5 := Lib.hid ((HB3.out.alloc _).chg g5 hne)
      have HV5 := Lib.hid (own_chg (HV.out.alloc _) g5 hlt)
      clear c0 c1
      obtain ⟨c0, c1⟩ := HB5.out
      cases comma with
      | false =>
        have HE : Hid (klistP s.size one q σ = (υ, acc1)) := by
          show _ = _
          rw [HQ.out, HST.out, HAcc.out]
          simp
        clear HQ HST
        go_wp2
        (try rw [Exit.noGoto_ret])
        go_ret
        exact ⟨.slice (some ⟨g, 0, none⟩) acc1.length cap, by rw [HLn.out]; rfl, by rw [HE.out]; exact own_base HV5.out (by omega), by rw [HE.out, HAcc.out]; simp, by rw [HE.out]; exact h5, hgD⟩
      | true =>
        cases q0 with
        | zero =>
          have hal2 : ((acc.length : Int) + 1 == (q : Int) + 1) = true := by simp; omega
          have HE : Hid (klistP s.size one q σ = (failP at0 5 υ, acc1)) := by
            show _ = _
            rw [HQ.out, HST.out, HAcc.out]
            simp
          clear HQ HST
          go_wp2_with fail
          refine (HF.out _ h5).mono ?_
          rintro e w6 ⟨rfl, h6, g6⟩
          have HV6 := Lib.hid (own_chg HV5.out g6 hlt)
          go_wp2
          (try rw [Exit.noGoto_ret])
          go_ret
          exact ⟨.slice (some ⟨g, 0, none⟩) acc1.length cap, by rw [HLn.out]; rfl, by rw [HE.out]; exact own_base HV6.out (by omega), by rw [HE.out, HAcc.out]; simp, by rw [HE.out]; exact h6, hgD.trans g6⟩
        | succ q1 =>
          have hal2 : ((acc.length : Int) + 1 == (q : Int) + 1) = false := by simp; omega
          have HE : Hid (klistP s.size one q σ = ((klistP s.size one q1 υ).1, acc1 ++ (klistP s.size one q1 υ).2)) := by
            show _ = _
            rw [HQ.out, HST.out, HAcc.out]
            simp
          clear HQ HST
          go_wp2
          go_roundg q1
          case measure => omega
          case rel => exact ⟨.slice (some ⟨g, 0, none⟩) acc1.length cap, acc1, υ, q1, by rw [HLn.out], rfl, by rw [HLn.out]; omega, HE.out, HV5.out, h5, HB5.out, hgD⟩
end
end Go.Proofs.YtochhmkdhdadhaaGreat

namespace Go.Proofs.YtochhmkdhdadhaaGreat
open Go.RowKit
set_option linter.unusedSimpArgs false
set_option linter.unusedVariables false

/-- The list in a cell of an event. -/
def calL (c : CalV) (j : Nat) : List It := if j = 0 then c.week else if j = 1 then c.year else if j = 2 then c.month else if j = 3 then c.day else if j = 5 then c.hour else if j = 6 then c.minute else if j = 7 then c.second else []
/-- An event in a block, its lists in blocks from B on. -/
def CalAt (w : World) (C B : Nat) (c : CalV) : Prop := ∃ g : Nat → Value, Arr w C 8 g ∧ g 4 = .bool c.back ∧ ∀ j, j < 8 → j ≠ 4 → OwnIts w B (g j) (calL c j) ∧ (calL c j = [] → g j = .slice none 0 0)
section
variable {w w' : World} {C B b : Nat} {c c' : CalV}
theorem CalAt.chg (h : CalAt w C B c) (hg : Chg b w w') (hC : C ≠ b) (hb : b < B) : CalAt w' C B c := by
  obtain ⟨g, h1, h2, h3⟩ := h
  exact ⟨g, Arr.chg h1 (by decide) hg hC, h2, fun j hj h4 => ⟨own_chg (h3 j hj h4).1 hg hb, (h3 j hj h4).2⟩⟩
theorem CalAt.lt (h : CalAt w C B c) : C < w.heap.size := by obtain ⟨g, h1, _⟩ := h; exact h1.lt (by decide)
theorem CalAt.alloc (h : CalAt w C B c) (o : Obj) : CalAt (w.alloc o) C B c := by
  obtain ⟨g, h1, h2, h3⟩ := h
  exact ⟨g, h1.alloc (h1.lt (by decide)) o, h2, fun j hj h4 => ⟨World.ownsRow.alloc (h3 j hj h4).1 o, (h3 j hj h4).2⟩⟩
theorem CalAt.setL (h : CalAt w C B c) (hC : C < B) (j : Nat) (hj : j < 8) (h4 : j ≠ 4) (v : Value) (hv : OwnIts w B v (calL c' j)) (hL : calL c' j ≠ []) (ho : ∀ k, k < 8 → k ≠ j → calL c' k = calL c k) (hb : c'.back = c.back) : CalAt (w.setCell ⟨C, j, none⟩ v) C B c' := by
  obtain ⟨g, h1, h2, h3⟩ := h
  refine ⟨fun k => if k = j then v else g k, Arr.set h1 j hj v (if_pos rfl) (fun k _ hk => if_neg hk), by dsimp only; rw [if_neg (fun e => h4 e.symm), h2, hb], fun k hk hk4 => ?_⟩
  by_cases e : k = j
  · subst e; dsimp only; rw [if_pos rfl]; exact ⟨own_set hv hC, fun h => absurd h hL⟩
  · dsimp only; rw [if_neg e, ho k hk e]; exact ⟨own_set (h3 k hk hk4).1 hC, (h3 k hk hk4).2⟩
theorem CalAt.setBack (h : CalAt w C B c) (hC : C < B) (v : Bool) (ho : ∀ k, k < 8 → calL c' k = calL c k) (hb : c'.back = v) : CalAt (w.setCell ⟨C, 4, none⟩ (.bool v)) C B c' := by
  obtain ⟨g, h1, h2, h3⟩ := h
  refine ⟨fun k => if k = 4 then .bool v else g k, Arr.set h1 4 (by decide) _ (if_pos rfl) (fun k _ hk => if_neg hk), by dsimp only; rw [if_pos rfl, hb], fun k hk hk4 => ?_⟩
  dsimp only; rw [if_neg hk4, ho k hk]; exact ⟨own_set (h3 k hk hk4).1 hC, (h3 k hk hk4).2⟩
theorem CalAt.cells (h : CalAt w C B c) : ∃ g : Nat → Value, w.cell? ⟨C, 0, none⟩ = some (g 0) ∧ w.cell? ⟨C, 1, none⟩ = some (g 1) ∧ w.cell? ⟨C, 2, none⟩ = some (g 2) ∧ w.cell? ⟨C, 3, none⟩ = some (g 3) ∧ w.cell? ⟨C, 4, none⟩ = some (g 4) ∧ w.cell? ⟨C, 5, none⟩ = some (g 5) ∧ w.cell? ⟨C, 6, none⟩ = some (g 6) ∧ w.cell? ⟨C, 7, none⟩ = some (g 7) ∧ ∀ j, w.frozen? ⟨C, j, none⟩ = false := by
  obtain ⟨g, h1, h2, h3⟩ := h
  exact ⟨g, h1.1 0 (by decide), h1.1 1 (by decide), h1.1 2 (by decide), h1.1 3 (by decide), h1.1 4 (by decide), h1.1 5 (by decide), h1.1 6 (by decide), h1.1 7 (by decide), h1.2⟩
end
/-- The event, and the reader, stand so. -/
def RetC (v : Value) (b C B : Nat) (s : ByteArray) (σ : PS) (c : CalV) (w : World) (x : Ending) (w' : World) : Prop := x = .returned v ∧ RdP w' b s σ ∧ CalAt w' C B c ∧ Chg2 b C w w'
section
variable {w : World} {b : Nat} {s : ByteArray} {σ : PS} (hs : s.size ≤ 1000000)
include hs
set_option maxRecDepth 20000 in
set_option maxHeartbeats 2000000 in
theorem field_ks (f : Nat) (h1f : 1 ≤ f) (hf : f < 7) (h : RdP w b s σ) : Calls Tryz.prog 116 #[kV b s, .int .i64 (f : Int)] w (RetPL (kfieldP s.size f σ).2 b s (kfieldP s.size f σ).1 w) := by
  have hs9 : s.size ≤ 9223372036854775807 := by omega
  have hlt := h.lt
  have hne : ¬ w.heap.size = b := by omega
  have hne1 : ¬ w.heap.size + 1 = b := by omega
  have H := Lib.hid h
  have HI := Lib.hid (fun W A n cp (h : RdP W b s σ) (hA : RdBytes W A n [42]) (hn : n ≤ 9223372036854775807) => is_ps (cp := cp) hs9 h hA hn)
  have HR : Hid (kfieldP s.size f σ = if (isP [42] σ).2 then ((isP [42] σ).1, [⟨0, 0, 0, 1⟩]) else klistP s.size (kitemP s.size f) (kMost f - 1) (isP [42] σ).1) := rfl
  generalize kfieldP s.size f σ = R at *
  generalize isP [42] σ = u at *
  obtain ⟨τ, star⟩ := u
  dsimp only at *
  have HL := Lib.hid (fun W Bx Bf hbx hbf (hx : KBox W Bx b s) (hfc : W.cell? ⟨Bf, 0, none⟩ = some (.int .i64 (f : Int))) (h : RdP W b s τ) => flist_ks hs f hf Bx Bf hbx hbf hx hfc (kMost f - 1) (by unfold kMost; split <;> decide) h)
  have hmq : Hid (((kMost f - 1 : Nat) : Int) + 1 = if (f : Int) = 1 then 400 else 64) := by show _ = _; unfold kMost; split <;> rfl
  clear h
  have HB0 := Lib.hid ((kbox_new w b s 82).alloc (.cells #[.int .i64 (f : Int)] 3))
  have hF0 : ((w.alloc (.cells #[.pointer (some ⟨b, 0, none⟩), .string s] 82)).alloc (.cells #[.int .i64 (f : Int)] 3)).cell? ⟨w.heap.size + 1, 0, none⟩ = some (.int .i64 (f : Int)) := cell_new (by simp) rfl
  have HF0 := Lib.hid hF0
  clear hF0
  cases star with
  | true =>
    have HE : Hid (R = (τ, [⟨0, 0, 0, 1⟩])) := by show _ = _; rw [HR.out]; rfl
    clear HR HL hmq
    go_enter Tryz.func116, Tryz.ntmps116
    go_wp2_with fail
    refine (HI.out _ _ _ _ (((H.out.alloc _).alloc _).alloc _) (rdB1 (c := 42) (cell_new (by simp) rfl)) (by decide)).mono ?_
    rintro e w1 ⟨rfl, h1, g1⟩
    have gA := ((((Chg.refl b w).alloc _).alloc _).alloc _).trans g1
    have hz1 := gA.size
    have hown := own_base (own_new w1 #[.int .i64 0, .int .i64 0, .int .i64 0, .int .i64 1] 59 4 1 (by decide) rfl) hz1
    have HOwn := Lib.hid hown
    clear hown
    go_wp2
    go_ret
    exact ⟨_, rfl, by rw [HE.out]; exact HOwn.out, by rw [HE.out]; simp, by rw [HE.out]; exact h1.alloc _, gA.alloc _⟩
  | false =>
    have HE : Hid (R = klistP s.size (kitemP s.size f) (kMost f - 1) τ) := by show _ = _; rw [HR.out]; rfl
    clear HR
    rw [hmq.out] at HL
    by_cases h1 : f = 1
    · subst h1
      rw [if_pos (show ((1 : Nat) : Int) = 1 from rfl)] at HL
      clear hmq
      go_enter Tryz.func116, Tryz.ntmps116
      go_wp2_with fail
      refine (HI.out _ _ _ _ (((H.out.alloc _).alloc _).alloc _) (rdB1 (c := 42) (cell_new (by simp) rfl)) (by decide)).mono ?_
      rintro e w1 ⟨rfl, h1, g1⟩
      have gA := ((((Chg.refl b w).alloc _).alloc _).alloc _).trans g1
      have HB1 := Lib.hid ((HB0.out.alloc _).chg g1 hne)
      have f1 := g1.cell (B := w.heap.size + 1) hne1 (((Below.refl _ _).alloc (Nat.le_refl _) _).cell (p := ⟨w.heap.size + 1, 0, none⟩) (by simp) |>.trans HF0.out)
      have HF1 := Lib.hid f1
      obtain ⟨c0, c1⟩ := HB1.out
      go_wp2_with fail
      refine (HL.out _ _ _ hne hne1 HB1.out HF1.out h1).mono ?_
      rintro e w2 ⟨v, rfl, hv, hL2, h2, g2⟩
      go_wp2
      go_ret
      exact ⟨v, rfl, by rw [HE.out]; exact own_base hv gA.size, by rw [HE.out]; exact hL2, by rw [HE.out]; exact h2, gA.trans g2⟩
    · have h1' : ((f : Int) == 1) = false := by simp; omega
      rw [if_neg (by omega)] at HL
      clear hmq h1
      go_enter Tryz.func116, Tryz.ntmps116
      go_wp2_with fail
      refine (HI.out _ _ _ _ (((H.out.alloc _).alloc _).alloc _) (rdB1 (c := 42) (cell_new (by simp) rfl)) (by decide)).mono ?_
      rintro e w1 ⟨rfl, h1, g1⟩
      have gA := ((((Chg.refl b w).alloc _).alloc _).alloc _).trans g1
      have HB1 := Lib.hid ((HB0.out.alloc _).chg g1 hne)
      have f1 := g1.cell (B := w.heap.size + 1) hne1 (((Below.refl _ _).alloc (Nat.le_refl _) _).cell (p := ⟨w.heap.size + 1, 0, none⟩) (by simp) |>.trans HF0.out)
      have HF1 := Lib.hid f1
      obtain ⟨c0, c1⟩ := HB1.out
      go_wp2_with fail
      refine (HL.out _ _ _ hne hne1 HB1.out HF1.out h1).mono ?_
      rintro e w2 ⟨v, rfl, hv, hL2, h2, g2⟩
      go_wp2
      go_ret
      exact ⟨v, rfl, by rw [HE.out]; exact own_base hv gA.size, by rw [HE.out]; exact hL2, by rw [HE.out]; exact h2, gA.trans g2⟩
set_option maxRecDepth 20000 in
set_option maxHeartbeats 2000000 in
theorem next_ks (h : RdP w b s σ) : Calls Tryz.prog 77 #[kV b s] w (RetP (.bool (knextP s.size σ).2) b s (knextP s.size σ).1 w) := by
  have hs9 : s.size ≤ 9223372036854775807 := by omega
  have hlt := h.lt
  have hne : ¬ w.heap.size = b := by omega
  have H := Lib.hid h
  have HD := Lib.hid (fun W (h : RdP W b s σ) => done_pp h)
  have HM := Lib.hid (fun W A n cp (h : RdP W b s σ) (hA : RdBytes W A n [32]) (hn : n ≤ 9223372036854775807) => must_ps (cp := cp) hs9 h hA hn)
  have HR : Hid (knextP s.size σ = if doneP σ then (σ, false) else ((mustP s.size [32] σ).1, true)) := rfl
  generalize knextP s.size σ = R at *
  generalize mustP s.size [32] σ = m at *
  obtain ⟨τ, mv⟩ := m
  dsimp only at *
  clear h
  cases hd : doneP σ with
  | true =>
    rw [hd] at HD HR
    have HE : Hid (R = (σ, false)) := HR.out
    clear hd HR
    go_enter Tryz.func77, Tryz.ntmps77
    go_wp2_with fail
    refine (HD.out _ (H.out.alloc _)).mono ?_
    rintro e w1 ⟨rfl, h1, g1⟩
    go_wp2
    go_ret
    exact ⟨by rw [HE.out]; rfl, by rw [HE.out]; exact h1, ((Chg.refl b w).alloc _).trans g1⟩
  | false =>
    rw [hd] at HD HR
    have HE : Hid (R = (τ, true)) := HR.out
    clear hd HR
    go_enter Tryz.func77, Tryz.ntmps77
    go_wp2_with fail
    refine (HD.out _ (H.out.alloc _)).mono ?_
    rintro e w1 ⟨rfl, h1, g1⟩
    obtain ⟨hc1, hf1⟩ := gcell g1
    go_wp2_with fail
    refine (HM.out _ _ _ _ (h1.alloc _) (rdB1 (c := 32) (cell_new rfl rfl)) (by decide)).mono ?_
    rintro e w2 ⟨rfl, h2, g2⟩
    go_wp2
    go_ret
    exact ⟨by rw [HE.out]; rfl, by rw [HE.out]; exact h2, ((((Chg.refl b w).alloc _).trans g1).alloc _).trans g2⟩
end
end Go.Proofs.YtochhmkdhdadhaaGreat
