/- The walks of package feriaref25: Read. -/
import Derived.Test.YtpfcgjneeboamaaDoorWRef25h
import Derived.Test.YtpfcgjneeboamaaDoorWRef25i
import Derived.Test.YtpfcgjneeboamaaDoorWOwn
import Derived.Test.YtpfcgjneeboamaaDoorWCronread7
/- The walks of package feriaref25: item, any; list. -/
namespace Go.Proofs.YtpfcgjneeboamaaDoor
open Go.RowKit
set_option linter.unusedSimpArgs false
set_option linter.unusedVariables false

theorem Arr.grown {w w' : World} {B m : Nat} {g : Nat → Value} {row : Option Nat} (h : Arr w B m g) (hm : 0 < m) (hg : w.grownBy w' row) (hrow : row ≠ some B) : Arr w' B m g := by
  cases row with
  | none => exact Arr.chg (b := B + 1) h hm ⟨hg.os, hg.tape, hg.output, hg.size, fun k hk _ => hg.block k hk (by simp)⟩ (by omega)
  | some r => exact Arr.chg (b := r) h hm hg (fun e => hrow (by rw [e]))
section
variable (s : ByteArray) (hs : s.size ≤ 1000000) (σ : PS) (hσ : OfR s σ) (w : World)
include hs hσ
theorem ritem_any (f : Nat) (hf : f < 5) : Calls Tryd.prog 35 #[rvP s σ, .int .i64 (f : Int)] w (Ret (tupR s (rItemR s.size f σ).1 (itV (rItemR s.size f σ).2)) w) := by
  cases hst : (isP [42] σ).2 with
  | true =>
    cases hsl : (isP [47] (isP [42] σ).1).2 with
    | true => exact ritem_star_by s hs σ hσ w f hf hst hsl
    | false => exact ritem_star_no s hs σ hσ w f hf hst hsl
  | false =>
    cases hds : (isP [45] (rNumR s.size f σ).1).2 with
    | false => exact ritem_one s hs σ hσ w f hf hst hds
    | true =>
      by_cases he : (rNumR s.size f (isP [45] (rNumR s.size f σ).1).1).1.e = 0
      · by_cases hlo : (rNumR s.size f (isP [45] (rNumR s.size f σ).1).1).2 < (rNumR s.size f σ).2
        · exact ritem_low s hs σ hσ w f hf hst hds he hlo
        · cases hsl : (isP [47] (rNumR s.size f (isP [45] (rNumR s.size f σ).1).1).1).2 with
          | true => exact ritem_rngby s hs σ hσ w f hf hst hds he hlo hsl
          | false => exact ritem_rng s hs σ hσ w f hf hst hds he hlo hsl
      · exact ritem_dead s hs σ hσ w f hf hst hds he
omit hs hσ in
theorem ofR_by (hσ : OfR s σ) (N : Nat) (i : It) : OfR s (rByR N i σ).1 := by
  unfold rByR
  split
  · exact ofR_rstep s _ (ofR_is hσ _) N
  · exact hσ
omit hs hσ in
theorem ofR_item (hσ : OfR s σ) (N f : Nat) : OfR s (rItemR N f σ).1 := by
  unfold rItemR
  split
  · exact ofR_by s _ (ofR_is hσ _) N _
  · unfold rFromR
    split
    · unfold rToR
      split
      · exact ofR_fail (ofR_is (ofR_rnum s _ hσ N f) _) _ _
      · exact ofR_by s _ (ofR_rnum s _ (ofR_is (ofR_rnum s _ hσ N f) _) N f) N _
    · exact ofR_rnum s _ hσ N f
omit hs hσ in
theorem ofR_items (N f : Nat) : ∀ (q : Nat) (σ : PS), OfR s σ → OfR s (rItemsR N f q σ).1
  | 0, σ, h => by
    unfold rItemsR
    split
    · exact ofR_fail (ofR_item s σ h N f) _ _
    · exact ofR_item s σ h N f
  | q + 1, σ, h => by
    unfold rItemsR
    split
    · exact ofR_items N f q _ (ofR_is (ofR_item s σ h N f) _)
    · exact ofR_item s σ h N f
omit hs hσ in
theorem ofR_list (N f : Nat) (h : OfR s σ) : OfR s (rListR N f σ).1 := by
  unfold rListR
  split
  · exact ofR_items s N f 63 σ h
  · exact h
omit hs hσ in
theorem isP_true {cs : List UInt8} {σ : PS} (h : (isP cs σ).2 = true) : (isP cs σ).1.e = 0 := by
  unfold isP at *
  split at h
  · rename_i he
    rw [if_pos he]
    split at h
    · rfl
    · cases h
  · cases h
/-- It hands back a reader that stands so, and a slice of the call's own with items. -/
def RetItems (s : ByteArray) (τ : PS) (L : List It) (w : World) (x : Ending) (w' : World) : Prop := ∃ v, x = .returned (.tuple #[rvP s τ, v]) ∧ OwnIts w' w.heap.size v L ∧ Below w.heap.size w w'
omit hs in
set_option maxHeartbeats 4000000 in
theorem rlist_dead (f : Nat) (he : σ.e ≠ 0) : Calls Tryd.prog 22 #[rvP s σ, .int .i64 (f : Int)] w (RetItems s (rListR s.size f σ).1 (rListR s.size f σ).2 w) := by
  obtain ⟨k, hk, hl, ha⟩ := hσ.at_
  rw [rListR_dead he]
  have he' : (σ.e == 0) = false := by simpa using he
  unfold RetItems rvP rV
  dsimp only
  rw [ha]
  clear hl ha hσ he
  go_enter Tryd.func22, Tryd.ntmps22
  go_wp2
  have H0 := Lib.hid (rv_new2 w s k σ.a σ.e 50 50)
  go_loopg [6] (0 : Nat) (fun gg v wr => v = .slice none 0 0 ∧ Hid (RvAt wr w.heap.size s k σ.a σ.e) ∧ Hid (RvAt wr (w.heap.size + 1) ⟨#[]⟩ 0 0 0) ∧ Below w.heap.size w wr)
  case atStart => exact ⟨rfl, H0.out.1, H0.out.2, by (repeat' (first | (with_reducible exact Below.refl _ _) | (with_reducible assumption) | (with_reducible refine below_drewN ?_ _) | (with_reducible refine Below.alloc ?_ ?_ _) | (with_reducible refine Below.drew ?_) | (with_reducible refine Below.setCell ?_ ?_ _) | go_size))⟩
  case round =>
    obtain ⟨rfl, HP, HQ, hb⟩ := hrel
    obtain ⟨p0, p1, p2, p3, pf⟩ := RvAt.cells HP.out
    obtain ⟨q0, q1, q2, q3, qf⟩ := RvAt.cells HQ.out
    have zP := Arr.lt HP.out (by decide)
    have zQ := Arr.lt HQ.out (by decide)
    have hsz := hb.size
    go_wp2
    (try simp only [Exit.inBlock, Exit.then])
    refine bodyPost_ret (v := .tuple #[.agg #[.string s, .int .i64 (k : Int), .int .i64 σ.a, .int .i64 σ.e], .slice none 0 0]) ?_ rfl ⟨.slice none 0 0, rfl, World.ownsRow_nil _ _ _ _, by (repeat' (first | (with_reducible exact Below.refl _ _) | (with_reducible assumption) | (with_reducible refine below_drewN ?_ _) | (with_reducible refine Below.alloc ?_ ?_ _) | (with_reducible refine Below.drew ?_) | (with_reducible refine Below.setCell ?_ ?_ _) | go_size))⟩
    rw [results_cell_r2 rfl]
    go_simp
end
end Go.Proofs.YtpfcgjneeboamaaDoor

/- The walks of package feriaref25: list. -/
namespace Go.Proofs.YtpfcgjneeboamaaDoor
open Go.RowKit
set_option linter.unusedSimpArgs false
set_option linter.unusedVariables false

section
variable (s : ByteArray) (hs : s.size ≤ 1000000) (σ : PS) (hσ : OfR s σ) (w : World)
include hs hσ
omit hs hσ in
theorem rv_store4 {W : World} {x : Nat} {S : ByteArray} {k0 a0 e0 j a e : Int} (HX : RvAt W x S k0 a0 e0) :
    RvAt ((((W.setCell ⟨x, 0, none⟩ (.string s)).setCell ⟨x, 1, none⟩ (.int .i64 j)).setCell ⟨x, 2, none⟩ (.int .i64 a)).setCell ⟨x, 3, none⟩ (.int .i64 e)) x s j a e := by
  have e1 := Arr.set (g' := fun q => if q = 0 then .string s else rvG S k0 a0 e0 q) HX 0 (by decide) (.string s) rfl (fun q _ h => if_neg h)
  have e2 := Arr.set (g' := fun q => if q = 0 then .string s else if q = 1 then .int .i64 j else rvG S k0 a0 e0 q) e1 1 (by decide) (.int .i64 j) rfl (fun q _ h => by simp only [if_neg h])
  have e3 := Arr.set (g' := fun q => if q = 0 then .string s else if q = 1 then .int .i64 j else if q = 2 then .int .i64 a else rvG S k0 a0 e0 q) e2 2 (by decide) (.int .i64 a) rfl (fun q _ h => by simp only [if_neg h])
  refine Arr.set (g' := rvG s j a e) e3 3 (by decide) (.int .i64 e) rfl (fun q hq h => ?_)
  obtain rfl | rfl | rfl | rfl : q = 0 ∨ q = 1 ∨ q = 2 ∨ q = 3 := by omega
  all_goals first | rfl | exact absurd rfl h
omit hs hσ in
theorem rItemsR_no {N f q : Nat} {τ : PS} (h : (isP [44] (rItemR N f τ).1).2 = false) : rItemsR N f q τ = ((rItemR N f τ).1, [(rItemR N f τ).2]) := by
  cases q <;> (unfold rItemsR; rw [h, if_neg (by simp)])
omit hs hσ in
theorem rItemsR_full {N f : Nat} {τ : PS} (h : (isP [44] (rItemR N f τ).1).2 = true) : rItemsR N f 0 τ = (failP (atP N (rItemR N f τ).1) 5 (rItemR N f τ).1, [(rItemR N f τ).2]) := by
  unfold rItemsR; rw [if_pos h]
omit hs hσ in
theorem rItemsR_more {N f q : Nat} {τ : PS} (h : (isP [44] (rItemR N f τ).1).2 = true) : rItemsR N f (q + 1) τ = ((rItemsR N f q (isP [44] (rItemR N f τ).1).1).1, (rItemR N f τ).2 :: (rItemsR N f q (isP [44] (rItemR N f τ).1).1).2) := by
  rw [rItemsR, if_pos h]
set_option maxHeartbeats 8000000 in
theorem rlist_live (f : Nat) (hf : f < 5) (he : σ.e = 0) : Calls Tryd.prog 22 #[rvP s σ, .int .i64 (f : Int)] w (RetItems s (rListR s.size f σ).1 (rListR s.size f σ).2 w) := by
  obtain ⟨i0, hi0, hz0, hz1, hz2⟩ := info_parts info_it
  have HI0 := Lib.hid hi0
  have HZ0 := Lib.hid hz0
  have HZ1 := Lib.hid hz1
  have HZ2 := Lib.hid hz2
  clear hi0 hz0 hz1 hz2
  have HOf0 := Lib.hid hσ
  obtain ⟨k, hk, hl, ha⟩ := hσ.at_
  have hL : rListR s.size f σ = rItemsR s.size f 63 σ := if_pos he
  rw [hL]
  obtain ⟨R, hR⟩ : ∃ R, R = rItemsR s.size f 63 σ := ⟨_, rfl⟩
  rw [← hR]
  have HR0 := Lib.hid hR
  have ha' := Lib.hid ha
  unfold RetItems
  unfold rvP
  rw [ha]
  have HE0 := Lib.hid he
  unfold rV
  rw [he]
  clear hl ha hσ hR hL he
  go_enter Tryd.func22, Tryd.ntmps22
  go_wp2
  have H0 := Lib.hid (rv_new2 w s k σ.a 0 50 50)
  go_loopg [6] 63 (fun gg v wr => ∃ (vo : Value) (acc : List It) (τ : PS) (jT : Int) (m0 : Nat), vo = v ∧ gg = m0 ∧ acc.length + m0 = 63 ∧ Hid (τ.e = 0) ∧ Hid (OfR s τ) ∧ Hid (atP s.size τ = jT) ∧ Hid (R.1 = (rItemsR s.size f m0 τ).1 ∧ R.2 = acc ++ (rItemsR s.size f m0 τ).2) ∧ Hid (OwnIts wr (w.heap.size + 2) vo acc) ∧ Hid (RvAt wr w.heap.size s jT τ.a 0) ∧ Hid (RvAt wr (w.heap.size + 1) ⟨#[]⟩ 0 0 0) ∧ Below w.heap.size w wr)
  case atStart => exact ⟨_, [], σ, (k : Int), 63, rfl, rfl, rfl, HE0.out, HOf0.out, ha'.out, ⟨by rw [HR0.out], by rw [HR0.out]; rfl⟩, World.ownsRow_nil _ _ _ _, H0.out.1, H0.out.2, by (repeat' (first | (with_reducible exact Below.refl _ _) | (with_reducible assumption) | (with_reducible refine below_drewN ?_ _) | (with_reducible refine Below.alloc ?_ ?_ _) | (with_reducible refine Below.drew ?_) | (with_reducible refine Below.setCell ?_ ?_ _) | go_size))⟩
  case round =>
    clear HOf0 HR0 ha' HE0 H0
    obtain ⟨vo, acc, τ, jT, m0, rfl, hgq, hal, HE, HOf, HT, HR, HO, HP, HQ, hb⟩ := hrel
    have HIt := Lib.hid (fun W => ritem_any s hs τ HOf.out W f hf)
    have hX := ofR_item s τ HOf.out s.size f
    have HIs := Lib.hid (fun W b (h : W.cell? ⟨b, 0, none⟩ = some (.int .u8 ((44 : UInt8).toNat : Int))) => is_rf s hs (rItemR s.size f τ).1 hX W _ 1 1 44 (rdBytes_one' W b 44 h))
    have hr := HR.out
    cases hc : (isP [44] (rItemR s.size f τ).1).2 with
    | false =>
      rw [rItemsR_no hc] at hr
      rw [hc, isP_false hc] at HIs
      dsimp only at hr
      obtain ⟨⟨X, i⟩, hXi⟩ : ∃ q, q = rItemR s.size f τ := ⟨_, rfl⟩
      rw [← hXi] at hr HIt HIs
      have HR1 := Lib.hid hr
      unfold tupR rvP rV itV at *
      rw [HT.out, HE.out] at HIt
      dsimp only at HIt HIs
      have HJ : Hid (atP s.size R.1 = atP s.size X) := by show _ = _; rw [hr.1]
      generalize atP s.size X = jX at *
      clear hr hc hXi hX HR HE HT HOf
      have hsz := hb.size
      obtain ⟨p0, p1, p2, p3, pf⟩ := RvAt.cells HP.out
      have zP := Arr.lt HP.out (by decide)
      go_wp2_with fail
      refine (HIt.out _).mono ?_
      rintro e w1 ⟨rfl, hb1⟩
      have HP1 := Lib.hid (Arr.below HP.out (Arr.lt HP.out (by decide)) hb1)
      have HQ1 := Lib.hid (Arr.below HQ.out (Arr.lt HQ.out (by decide)) hb1)
      have HO1 := Lib.hid (own_below HO.out hb1)
      have hbA := bthen hb hb1 hsz
      have hzA := hb1.size
      have hlo : ∀ g, vo.ownBlock = some g → g < w1.heap.size := fun g hg => by
        rcases own_some HO1.out with ⟨h1, _⟩ | ⟨g', cap, h1, h2, h3⟩
        · rw [h1] at hg; simp [Value.ownBlock] at hg
        · rw [h1] at hg; simp [Value.ownBlock] at hg; omega
      have hlg : ∀ g, vo.ownBlock = some g → w.heap.size + 2 ≤ g := own_ge HO1.out
      have hi0 := HI0.out
      have hz0 := HZ0.out
      have hz1 := HZ1.out
      have hzz2 := HZ2.out
      clear p0 p1 p2 p3 pf zP hb1 HIt
      go_wp2_with (at_builtin; refine wpList_append_own _ rfl _ _ 23 rfl (w.heap.size + 2) 34 i0 _ 4 32 Tryd.underlying23 hi0 hz0 hz1 hzz2 rfl (by decide) _ acc.length _ rfl (((HO1.out.alloc _).alloc _).alloc _) ⟨w1.heap.size + 1 + 1, 0, none⟩ 1 1 [.int .i64 i.k, .int .i64 i.f, .int .i64 i.t, .int .i64 i.s] rfl rfl ?c1 ?c2 ?c3 ?c4 ?c5 ?c6)
      case c1 =>
        intro j u hu
        rcases j with _ | _ | _ | _ | j
        · simp at hu; subst hu
          exact cell_new (by simp) rfl
        · simp at hu; subst hu
          exact cell_new (by simp) rfl
        · simp at hu; subst hu
          exact cell_new (by simp) rfl
        · simp at hu; subst hu
          exact cell_new (by simp) rfl
        · simp at hu
      case c2 => intro u hu; simp at hu; rcases hu with rfl | rfl | rfl | rfl <;> rfl
      case c3 => simp only [maxLen]; omega
      case c4 => omega
      case c5 => simp; omega
      case c6 =>
        intro v' w3 hown hg _
        have HV : Hid (OwnIts w3 (w.heap.size + 2) v' (acc ++ [i])) := by
          show World.ownsRow _ _ _ _ _ _ _
          rw [List.length_append, List.flatMap_append, List.flatMap_singleton]
          exact hown
        have zP1 := Arr.lt HP1.out (by decide)
        have zQ1 := Arr.lt HQ1.out (by decide)
        have hN0 := rvAt_new w1 s jX X.a X.e 50
        have HN : Hid (RvAt w3 w1.heap.size s jX X.a X.e) := Arr.grown (Arr.alloc (Arr.alloc hN0 (Arr.lt hN0 (by decide)) _) (by simp; omega) _) (by decide) hg (fun e => by have := hlo _ e; omega)
        have HP3 : Hid (RvAt w3 w.heap.size s jT τ.a 0) := Arr.grown (Arr.alloc (Arr.alloc (Arr.alloc HP1.out (by omega) _) (by simp; omega) _) (by simp; omega) _) (by decide) hg (fun e => by have := hlg _ e; omega)
        have HQ3 : Hid (RvAt w3 (w.heap.size + 1) ⟨#[]⟩ 0 0 0) := Arr.grown (Arr.alloc (Arr.alloc (Arr.alloc HQ1.out (Arr.lt HQ1.out (by decide)) _) (by have := Arr.lt HQ1.out (by decide); simp; omega) _) (by have := Arr.lt HQ1.out (by decide); simp; omega) _) (by decide) hg (fun e => by have := hlg _ e; omega)
        have hbB : Below w.heap.size w w3 := grown_own (own_base (((HO1.out.alloc _).alloc _).alloc _) (by omega)) (((hbA.alloc (by omega) _).alloc (by simp; omega) _).alloc (by simp; omega) _) (by simp; omega) hg
        have HLn : Hid ((acc ++ [i]).length = acc.length + 1) := by show _ = _; simp
        have hpos : 0 < (acc ++ [i]).length := by simp
        clear hown hg hi0 hz0 hz1 hzz2 HP1 HQ1 HO1 hlo hlg hN0 zP1 zQ1
        obtain ⟨g, cap, rfl, hgb, hgl⟩ : ∃ g cap, v' = .slice (some ⟨g, 0, none⟩) (acc ++ [i]).length cap ∧ w.heap.size + 2 ≤ g ∧ g < w3.heap.size := by
          rcases own_some HV.out with ⟨_, h0⟩ | h1
          · omega
          · exact h1
        obtain ⟨acc1, hacc⟩ : ∃ x, x = acc ++ [i] := ⟨_, rfl⟩
        rw [← hacc] at HV HLn ⊢
        have HAcc := Lib.hid hacc
        rw [HLn.out]
        clear hpos hacc
        have hz3 := hbB.size
        obtain ⟨n0, n1, n2, n3, nf⟩ := RvAt.cells HN.out
        have zN := Arr.lt HN.out (by decide)
        go_wp2_with fail
        refine (HIs.out _ _ (cell_new rfl rfl)).mono ?_
        rintro e w4 ⟨rfl, hb4⟩
        have hb5 : Below w3.heap.size w3 w4 := ((Below.refl _ w3).alloc (Nat.le_refl _) _).trans (hb4.mono (by simp))
        have HP4 := Lib.hid (Arr.below HP3.out (Arr.lt HP3.out (by decide)) hb5)
        have HQ4 := Lib.hid (Arr.below HQ3.out (Arr.lt HQ3.out (by decide)) hb5)
        have HN4 := Lib.hid (Arr.below HN.out (Arr.lt HN.out (by decide)) hb5)
        have HV4 := Lib.hid (own_below HV.out hb5)
        have hbC := bthen hbB hb5 hz3
        have hz4 := hbC.size
        clear hb4 hb5 n0 n1 n2 n3 nf zN HP3 HQ3 HN HV HIs hgl hbB
        obtain ⟨p0, p1, p2, p3, pf⟩ := RvAt.cells HP4.out
        obtain ⟨q0', q1, q2, q3, qf⟩ := RvAt.cells HQ4.out
        obtain ⟨n0, n1, n2, n3, nf⟩ := RvAt.cells HN4.out
        have zP := Arr.lt HP4.out (by decide)
        have zQ := Arr.lt HQ4.out (by decide)
        have zN := Arr.lt HN4.out (by decide)
        go_wp2
        (try simp only [Exit.inBlock, Exit.then, Exit.noGoto])
        refine bodyPost_ret (v := .tuple #[.agg #[.string s, .int .i64 (atP s.size R.1), .int .i64 R.1.a, .int .i64 R.1.e], .slice (some ⟨g, 0, none⟩) (acc.length + 1) cap]) ?_ rfl ⟨.slice (some ⟨g, 0, none⟩) (acc.length + 1) cap, rfl, ?_, by (repeat' (first | (with_reducible exact Below.refl _ _) | (with_reducible assumption) | (with_reducible refine below_drewN ?_ _) | (with_reducible refine Below.alloc ?_ ?_ _) | (with_reducible refine Below.drew ?_) | (with_reducible refine Below.setCell ?_ ?_ _) | go_size))⟩
        · rw [results_cell_r2 rfl, HJ.out, HR1.out.1]
          go_simp
        · rw [HR1.out.2, ← HAcc.out]
          have h := HV4.out
          rw [HLn.out] at h
          show World.ownsRow _ _ _ _ _ acc1.length _
          rw [HLn.out]
          exact own_base (B := w.heap.size + 2) (by repeat' (first | (with_reducible exact h) | (with_reducible refine World.ownsRow.alloc ?_ _) | (with_reducible refine own_set ?_ ?_) | (show w.heap.size + 1 < _; omega))) (by omega)
    | true =>
      have hM := ofR_is hX [44]
      have hMe := isP_true hc
      have HF5 := Lib.hid (fun W => fail_rf s (rItemR s.size f τ).1 (atP s.size (rItemR s.size f τ).1) 5 W)
      rw [hc] at HIs
      rcases m0 with _ | q
      · have h64 : ((acc.length : Int) + 1 == 64) = true := by simp; omega
        rw [rItemsR_full hc] at hr
        dsimp only at hr
        obtain ⟨⟨X, i⟩, hXi⟩ : ∃ q, q = rItemR s.size f τ := ⟨_, rfl⟩
        rw [← hXi] at hr HIt HIs HF5
        dsimp only at hr HF5 HIs
        have ha5 : atP s.size (failP (atP s.size X) 5 X) = atP s.size X := by unfold atP failP; split <;> rfl
        generalize failP (atP s.size X) 5 X = F at *
        have HR1 := Lib.hid hr
        generalize (isP [44] X).1 = M at *
        unfold tupR rvP rV itV at *
        rw [HT.out, HE.out] at HIt
        rw [ha5] at HF5
        dsimp only at HIt HIs
        have HJ : Hid (atP s.size R.1 = atP s.size X) := by show _ = _; rw [hr.1, ha5]
        generalize atP s.size X = jX at *
        generalize atP s.size M = jM at *
        clear hr hc hXi hX HR HE HT HOf ha5 hM hMe
        have hsz := hb.size
        obtain ⟨p0, p1, p2, p3, pf⟩ := RvAt.cells HP.out
        have zP := Arr.lt HP.out (by decide)
        go_wp2_with fail
        refine (HIt.out _).mono ?_
        rintro e w1 ⟨rfl, hb1⟩
        have HP1 := Lib.hid (Arr.below HP.out (Arr.lt HP.out (by decide)) hb1)
        have HQ1 := Lib.hid (Arr.below HQ.out (Arr.lt HQ.out (by decide)) hb1)
        have HO1 := Lib.hid (own_below HO.out hb1)
        have hbA := bthen hb hb1 hsz
        have hzA := hb1.size
        have hlo : ∀ g, vo.ownBlock = some g → g < w1.heap.size := fun g hg => by
          rcases own_some HO1.out with ⟨h1, _⟩ | ⟨g', cap, h1, h2, h3⟩
          · rw [h1] at hg; simp [Value.ownBlock] at hg
          · rw [h1] at hg; simp [Value.ownBlock] at hg; omega
        have hlg : ∀ g, vo.ownBlock = some g → w.heap.size + 2 ≤ g := own_ge HO1.out
        have hi0 := HI0.out
        have hz0 := HZ0.out
        have hz1 := HZ1.out
        have hzz2 := HZ2.out
        clear p0 p1 p2 p3 pf zP hb1 HIt
        go_wp2_with (at_builtin; refine wpList_append_own _ rfl _ _ 23 rfl (w.heap.size + 2) 34 i0 _ 4 32 Tryd.underlying23 hi0 hz0 hz1 hzz2 rfl (by decide) _ acc.length _ rfl (((HO1.out.alloc _).alloc _).alloc _) ⟨w1.heap.size + 1 + 1, 0, none⟩ 1 1 [.int .i64 i.k, .int .i64 i.f, .int .i64 i.t, .int .i64 i.s] rfl rfl ?c1 ?c2 ?c3 ?c4 ?c5 ?c6)
        case c1 =>
          intro j u hu
          rcases j with _ | _ | _ | _ | j
          · simp at hu; subst hu
            exact cell_new (by simp) rfl
          · simp at hu; subst hu
            exact cell_new (by simp) rfl
          · simp at hu; subst hu
            exact cell_new (by simp) rfl
          · simp at hu; subst hu
            exact cell_new (by simp) rfl
          · simp at hu
        case c2 => intro u hu; simp at hu; rcases hu with rfl | rfl | rfl | rfl <;> rfl
        case c3 => simp only [maxLen]; omega
        case c4 => omega
        case c5 => simp; omega
        case c6 =>
          intro v' w3 hown hg _
          have HV : Hid (OwnIts w3 (w.heap.size + 2) v' (acc ++ [i])) := by
            show World.ownsRow _ _ _ _ _ _ _
            rw [List.length_append, List.flatMap_append, List.flatMap_singleton]
            exact hown
          have zP1 := Arr.lt HP1.out (by decide)
          have zQ1 := Arr.lt HQ1.out (by decide)
          have hN0 := rvAt_new w1 s jX X.a X.e 50
          have HN : Hid (RvAt w3 w1.heap.size s jX X.a X.e) := Arr.grown (Arr.alloc (Arr.alloc hN0 (Arr.lt hN0 (by decide)) _) (by simp; omega) _) (by decide) hg (fun e => by have := hlo _ e; omega)
          have HP3 : Hid (RvAt w3 w.heap.size s jT τ.a 0) := Arr.grown (Arr.alloc (Arr.alloc (Arr.alloc HP1.out (by omega) _) (by simp; omega) _) (by simp; omega) _) (by decide) hg (fun e => by have := hlg _ e; omega)
          have HQ3 : Hid (RvAt w3 (w.heap.size + 1) ⟨#[]⟩ 0 0 0) := Arr.grown (Arr.alloc (Arr.alloc (Arr.alloc HQ1.out (Arr.lt HQ1.out (by decide)) _) (by have := Arr.lt HQ1.out (by decide); simp; omega) _) (by have := Arr.lt HQ1.out (by decide); simp; omega) _) (by decide) hg (fun e => by have := hlg _ e; omega)
          have hbB : Below w.heap.size w w3 := grown_own (own_base (((HO1.out.alloc _).alloc _).alloc _) (by omega)) (((hbA.alloc (by omega) _).alloc (by simp; omega) _).alloc (by simp; omega) _) (by simp; omega) hg
          have HLn : Hid ((acc ++ [i]).length = acc.length + 1) := by show _ = _; simp
          have hpos : 0 < (acc ++ [i]).length := by simp
          clear hown hg hi0 hz0 hz1 hzz2 HP1 HQ1 HO1 hlo hlg hN0 zP1 zQ1
          obtain ⟨g, cap, rfl, hgb, hgl⟩ : ∃ g cap, v' = .slice (some ⟨g, 0, none⟩) (acc ++ [i]).length cap ∧ w.heap.size + 2 ≤ g ∧ g < w3.heap.size := by
            rcases own_some HV.out with ⟨_, h0⟩ | h1
            · omega
            · exact h1
          obtain ⟨acc1, hacc⟩ : ∃ x, x = acc ++ [i] := ⟨_, rfl⟩
          rw [← hacc] at HV HLn ⊢
          have HAcc := Lib.hid hacc
          rw [HLn.out]
          clear hpos hacc
          have hz3 := hbB.size
          obtain ⟨n0, n1, n2, n3, nf⟩ := RvAt.cells HN.out
          have zN := Arr.lt HN.out (by decide)
          go_wp2_with fail
          refine (HIs.out _ _ (cell_new rfl rfl)).mono ?_
          rintro e w4 ⟨rfl, hb4⟩
          have hb5 : Below w3.heap.size w3 w4 := ((Below.refl _ w3).alloc (Nat.le_refl _) _).trans (hb4.mono (by simp))
          have HP4 := Lib.hid (Arr.below HP3.out (Arr.lt HP3.out (by decide)) hb5)
          have HQ4 := Lib.hid (Arr.below HQ3.out (Arr.lt HQ3.out (by decide)) hb5)
          have HN4 := Lib.hid (Arr.below HN.out (Arr.lt HN.out (by decide)) hb5)
          have HV4 := Lib.hid (own_below HV.out hb5)
          have hbC := bthen hbB hb5 hz3
          have hz4 := hbC.size
          clear hb4 hb5 n0 n1 n2 n3 nf zN HP3 HQ3 HN HV HIs hgl hbB
          obtain ⟨p0, p1, p2, p3, pf⟩ := RvAt.cells HP4.out
          obtain ⟨q0', q1, q2, q3, qf⟩ := RvAt.cells HQ4.out
          obtain ⟨n0, n1, n2, n3, nf⟩ := RvAt.cells HN4.out
          have zP := Arr.lt HP4.out (by decide)
          have zQ := Arr.lt HQ4.out (by decide)
          have zN := Arr.lt HN4.out (by decide)
          go_wp2_with fail
          refine (HF5.out _).mono ?_
          rintro e w5 ⟨rfl, hb5⟩
          have hb6 : Below w4.heap.size w4 w5 := ((Below.refl _ w4).alloc (Nat.le_refl _) _).trans (hb5.mono (by simp))
          clear p0 p1 p2 p3 pf zP q0' q1 q2 q3 qf zQ n0 n1 n2 n3 nf zN
          replace HQ4 := Lib.hid (Arr.below HQ4.out (Arr.lt HQ4.out (by decide)) hb6)
          replace HV4 := Lib.hid (own_below HV4.out hb6)
          replace hbC := bthen hbC hb6 hz4
          replace hz4 := hbC.size
          obtain ⟨q0', q1, q2, q3, qf⟩ := RvAt.cells HQ4.out
          have zQ := Arr.lt HQ4.out (by decide)
          clear hb5 hb6
          go_wp2
          (try simp only [Exit.inBlock, Exit.then, Exit.noGoto])
          refine bodyPost_ret (v := .tuple #[.agg #[.string s, .int .i64 (atP s.size R.1), .int .i64 R.1.a, .int .i64 R.1.e], .slice (some ⟨g, 0, none⟩) (acc.length + 1) cap]) ?_ rfl ⟨.slice (some ⟨g, 0, none⟩) (acc.length + 1) cap, rfl, ?_, by (repeat' (first | (with_reducible exact Below.refl _ _) | (with_reducible assumption) | (with_reducible refine below_drewN ?_ _) | (with_reducible refine Below.alloc ?_ ?_ _) | (with_reducible refine Below.drew ?_) | (with_reducible refine Below.setCell ?_ ?_ _) | go_size))⟩
          · rw [results_cell_r2 rfl, HJ.out, HR1.out.1]
            go_simp
          · rw [HR1.out.2, ← HAcc.out]
            have h := HV4.out
            rw [HLn.out] at h
            show World.ownsRow _ _ _ _ _ acc1.length _
            rw [HLn.out]
            exact own_base (B := w.heap.size + 2) (by repeat' (first | (with_reducible exact h) | (with_reducible refine World.ownsRow.alloc ?_ _) | (with_reducible refine own_set ?_ ?_) | (show w.heap.size + 1 < _; omega))) (by omega)
      · have h64 : ((acc.length : Int) + 1 == 64) = false := by simp; omega
        rw [rItemsR_more hc] at hr
        dsimp only at hr
        obtain ⟨⟨X, i⟩, hXi⟩ : ∃ q, q = rItemR s.size f τ := ⟨_, rfl⟩
        rw [← hXi] at hr HIt HIs hM hMe
        dsimp only at hr HIs hM hMe
        have HR1 := Lib.hid hr
        generalize (isP [44] X).1 = M at *
        have HME := Lib.hid hMe
        have HMO := Lib.hid hM
        unfold tupR rvP rV itV at *
        rw [HT.out, HE.out] at HIt
        dsimp only at HIt HIs
        rw [hMe] at HIs
        obtain ⟨jM, hjM⟩ : ∃ j, j = atP s.size M := ⟨_, rfl⟩
        rw [← hjM] at HIs
        have HJM := Lib.hid hjM
        generalize atP s.size X = jX at *
        clear hr hc hXi hX HR HE HT HOf hM hMe hjM HF5
        have hsz := hb.size
        obtain ⟨p0, p1, p2, p3, pf⟩ := RvAt.cells HP.out
        have zP := Arr.lt HP.out (by decide)
        go_wp2_with fail
        refine (HIt.out _).mono ?_
        rintro e w1 ⟨rfl, hb1⟩
        have HP1 := Lib.hid (Arr.below HP.out (Arr.lt HP.out (by decide)) hb1)
        have HQ1 := Lib.hid (Arr.below HQ.out (Arr.lt HQ.out (by decide)) hb1)
        have HO1 := Lib.hid (own_below HO.out hb1)
        have hbA := bthen hb hb1 hsz
        have hzA := hb1.size
        have hlo : ∀ g, vo.ownBlock = some g → g < w1.heap.size := fun g hg => by
          rcases own_some HO1.out with ⟨h1, _⟩ | ⟨g', cap, h1, h2, h3⟩
          · rw [h1] at hg; simp [Value.ownBlock] at hg
          · rw [h1] at hg; simp [Value.ownBlock] at hg; omega
        have hlg : ∀ g, vo.ownBlock = some g → w.heap.size + 2 ≤ g := own_ge HO1.out
        have hi0 := HI0.out
        have hz0 := HZ0.out
        have hz1 := HZ1.out
        have hzz2 := HZ2.out
        clear p0 p1 p2 p3 pf zP hb1 HIt
        go_wp2_with (at_builtin; refine wpList_append_own _ rfl _ _ 23 rfl (w.heap.size + 2) 34 i0 _ 4 32 Tryd.underlying23 hi0 hz0 hz1 hzz2 rfl (by decide) _ acc.length _ rfl (((HO1.out.alloc _).alloc _).alloc _) ⟨w1.heap.size + 1 + 1, 0, none⟩ 1 1 [.int .i64 i.k, .int .i64 i.f, .int .i64 i.t, .int .i64 i.s] rfl rfl ?c1 ?c2 ?c3 ?c4 ?c5 ?c6)
        case c1 =>
          intro j u hu
          rcases j with _ | _ | _ | _ | j
          · simp at hu; subst hu
            exact cell_new (by simp) rfl
          · simp at hu; subst hu
            exact cell_new (by simp) rfl
          · simp at hu; subst hu
            exact cell_new (by simp) rfl
          · simp at hu; subst hu
            exact cell_new (by simp) rfl
          · simp at hu
        case c2 => intro u hu; simp at hu; rcases hu with rfl | rfl | rfl | rfl <;> rfl
        case c3 => simp only [maxLen]; omega
        case c4 => omega
        case c5 => simp; omega
        case c6 =>
          intro v' w3 hown hg _
          have HV : Hid (OwnIts w3 (w.heap.size + 2) v' (acc ++ [i])) := by
            show World.ownsRow _ _ _ _ _ _ _
            rw [List.length_append, List.flatMap_append, List.flatMap_singleton]
            exact hown
          have zP1 := Arr.lt HP1.out (by decide)
          have zQ1 := Arr.lt HQ1.out (by decide)
          have hN0 := rvAt_new w1 s jX X.a X.e 50
          have HN : Hid (RvAt w3 w1.heap.size s jX X.a X.e) := Arr.grown (Arr.alloc (Arr.alloc hN0 (Arr.lt hN0 (by decide)) _) (by simp; omega) _) (by decide) hg (fun e => by have := hlo _ e; omega)
          have HP3 : Hid (RvAt w3 w.heap.size s jT τ.a 0) := Arr.grown (Arr.alloc (Arr.alloc (Arr.alloc HP1.out (by omega) _) (by simp; omega) _) (by simp; omega) _) (by decide) hg (fun e => by have := hlg _ e; omega)
          have HQ3 : Hid (RvAt w3 (w.heap.size + 1) ⟨#[]⟩ 0 0 0) := Arr.grown (Arr.alloc (Arr.alloc (Arr.alloc HQ1.out (Arr.lt HQ1.out (by decide)) _) (by have := Arr.lt HQ1.out (by decide); simp; omega) _) (by have := Arr.lt HQ1.out (by decide); simp; omega) _) (by decide) hg (fun e => by have := hlg _ e; omega)
          have hbB : Below w.heap.size w w3 := grown_own (own_base (((HO1.out.alloc _).alloc _).alloc _) (by omega)) (((hbA.alloc (by omega) _).alloc (by simp; omega) _).alloc (by simp; omega) _) (by simp; omega) hg
          have HLn : Hid ((acc ++ [i]).length = acc.length + 1) := by show _ = _; simp
          have hpos : 0 < (acc ++ [i]).length := by simp
          clear hown hg hi0 hz0 hz1 hzz2 HP1 HQ1 HO1 hlo hlg hN0 zP1 zQ1
          obtain ⟨g, cap, rfl, hgb, hgl⟩ : ∃ g cap, v' = .slice (some ⟨g, 0, none⟩) (acc ++ [i]).length cap ∧ w.heap.size + 2 ≤ g ∧ g < w3.heap.size := by
            rcases own_some HV.out with ⟨_, h0⟩ | h1
            · omega
            · exact h1
          obtain ⟨acc1, hacc⟩ : ∃ x, x = acc ++ [i] := ⟨_, rfl⟩
          rw [← hacc] at HV HLn ⊢
          have HAcc := Lib.hid hacc
          rw [HLn.out]
          clear hpos hacc
          have hz3 := hbB.size
          obtain ⟨n0, n1, n2, n3, nf⟩ := RvAt.cells HN.out
          have zN := Arr.lt HN.out (by decide)
          go_wp2_with fail
          refine (HIs.out _ _ (cell_new rfl rfl)).mono ?_
          rintro e w4 ⟨rfl, hb4⟩
          have hb5 : Below w3.heap.size w3 w4 := ((Below.refl _ w3).alloc (Nat.le_refl _) _).trans (hb4.mono (by simp))
          have HP4 := Lib.hid (Arr.below HP3.out (Arr.lt HP3.out (by decide)) hb5)
          have HQ4 := Lib.hid (Arr.below HQ3.out (Arr.lt HQ3.out (by decide)) hb5)
          have HN4 := Lib.hid (Arr.below HN.out (Arr.lt HN.out (by decide)) hb5)
          have HV4 := Lib.hid (own_below HV.out hb5)
          have hbC := bthen hbB hb5 hz3
          have hz4 := hbC.size
          clear hb4 hb5 n0 n1 n2 n3 nf zN HP3 HQ3 HN HV HIs hgl hbB
          obtain ⟨p0, p1, p2, p3, pf⟩ := RvAt.cells HP4.out
          obtain ⟨q0', q1, q2, q3, qf⟩ := RvAt.cells HQ4.out
          obtain ⟨n0, n1, n2, n3, nf⟩ := RvAt.cells HN4.out
          have zP := Arr.lt HP4.out (by decide)
          have zQ := Arr.lt HQ4.out (by decide)
          have zN := Arr.lt HN4.out (by decide)
          go_wp2
          go_roundg q
          case measure => omega
          case rel =>
            have h := HV4.out
            rw [HLn.out] at h
            refine ⟨.slice (some ⟨g, 0, none⟩) (acc.length + 1) cap, acc1, M, jM, q, rfl, rfl, by rw [HLn.out]; omega, HME.out, HMO.out, HJM.out.symm, ⟨HR1.out.1, by rw [HR1.out.2, HAcc.out]; simp⟩, ?_, ?_, ?_, by (repeat' (first | (with_reducible exact Below.refl _ _) | (with_reducible assumption) | (with_reducible refine below_drewN ?_ _) | (with_reducible refine Below.alloc ?_ ?_ _) | (with_reducible refine Below.drew ?_) | (with_reducible refine Below.setCell ?_ ?_ _) | go_size))⟩
            · show World.ownsRow _ _ _ _ _ acc1.length _
              rw [HLn.out]
              repeat' (first | (with_reducible exact h) | (with_reducible refine World.ownsRow.alloc ?_ _) | (with_reducible refine own_set ?_ ?_) | (show w.heap.size < _; omega))
            · exact Arr.alloc (rv_store4 s HP4.out) (by simp; omega) _
            · exact Arr.alloc (((((HQ4.out).other (by omega)).other (by omega)).other (by omega)).other (by omega)) (by simp; omega) _
end
end Go.Proofs.YtpfcgjneeboamaaDoor

namespace Go.Proofs.YtpfcgjneeboamaaDoor
open Go.RowKit
set_option linter.unusedSimpArgs false
set_option linter.unusedVariables false

theorem rr_store (s : ByteArray) {W W' : World} {x : Nat} {S : ByteArray} {k0 a0 e0 j a e : Int} (HX : RvAt W x S k0 a0 e0)
    (hW : ((((W.setCell ⟨x, 0, none⟩ (.string s)).setCell ⟨x, 1, none⟩ (.int .i64 j)).setCell ⟨x, 2, none⟩ (.int .i64 a)).setCell ⟨x, 3, none⟩ (.int .i64 e)) = W') : RvAt W' x s j a e ∧ W'.heap.size = W.heap.size ∧ Chg x W W' := by
  subst hW
  exact ⟨rv_store4 s HX, by simp, ((((Chg.refl x W).set 0 _).set 1 _).set 2 _).set 3 _⟩
theorem rr_storeL (s : ByteArray) {W W' : World} {x y f : Nat} {S : ByteArray} {k0 a0 e0 j a e : Int} {A : Nat → Option Addr} {n c : Nat → Nat} {A' : Option Addr} {n' c' : Nat} (HX : RvAt W x S k0 a0 e0) (HC : Arr W y 5 (slAt A n c)) (hf : f < 5) (hxy : x < y)
    (hW : (((((W.setCell ⟨x, 0, none⟩ (.string s)).setCell ⟨x, 1, none⟩ (.int .i64 j)).setCell ⟨x, 2, none⟩ (.int .i64 a)).setCell ⟨x, 3, none⟩ (.int .i64 e)).setCell ⟨y, f, none⟩ (.slice A' n' c')) = W') :
    RvAt W' x s j a e ∧ Arr W' y 5 (slAt (upd A f A') (upd n f n') (upd c f c')) ∧ W'.heap.size = W.heap.size ∧ (∀ {b m g}, 0 < m → b ≠ x → b ≠ y → Arr W b m g → Arr W' b m g) ∧
    (∀ {B k n v t xs}, y < B → W.ownsRow B t k v n xs → W'.ownsRow B t k v n xs) ∧ ∀ B w, Below B w W → B ≤ x → B ≤ W.heap.size → Below B w W' := by
  subst hW
  generalize hV : (((W.setCell ⟨x, 0, none⟩ (.string s)).setCell ⟨x, 1, none⟩ (.int .i64 j)).setCell ⟨x, 2, none⟩ (.int .i64 a)).setCell ⟨x, 3, none⟩ (.int .i64 e) = V
  obtain ⟨h1, h2, h3⟩ := rr_store s HX hV
  clear hV
  have h4 : Chg y V (V.setCell ⟨y, f, none⟩ (.slice A' n' c')) := (Chg.refl y V).set f _
  refine ⟨Arr.chg h1 (by decide) h4 (by omega), (Arr.chg HC (by decide) h3 (by omega)).set f hf _ slAt_upd (fun q _ h => slAt_ne h), by simp [h2], fun hm h5 h6 h => Arr.chg (Arr.chg h hm h3 h5) hm h4 h6, fun hy h => own_chg (own_chg h h3 (by omega)) h4 hy, fun B w h h5 h6 => Chg.below (Chg.below h h3 h5 h6) h4 (by omega) (by omega)⟩
theorem rr_next (s : ByteArray) {w5 w6 W' : World} {y : Nat} {S : ByteArray} {k0 a0 e0 j a e j' a' e' : Int} (hb7 : Below w5.heap.size w5 w6) (HP : RvAt w5 y S k0 a0 e0)
    (hW : ((((((((w6.setCell ⟨w5.heap.size, 0, none⟩ (.string s)).setCell ⟨w5.heap.size, 1, none⟩ (.int .i64 j)).setCell ⟨w5.heap.size, 2, none⟩ (.int .i64 a)).setCell ⟨w5.heap.size, 3, none⟩ (.int .i64 e)).setCell ⟨y, 0, none⟩ (.string s)).setCell ⟨y, 1, none⟩ (.int .i64 j')).setCell ⟨y, 2, none⟩ (.int .i64 a')).setCell ⟨y, 3, none⟩ (.int .i64 e')) = W') :
    RvAt W' y s j' a' e' ∧ ∃ V, Below w5.heap.size w5 V ∧ Chg y V W' ∧ W'.heap.size = w6.heap.size := by
  have hy := Arr.lt HP (by decide)
  have hB : Below w5.heap.size w5 ((((w6.setCell ⟨w5.heap.size, 0, none⟩ (.string s)).setCell ⟨w5.heap.size, 1, none⟩ (.int .i64 j)).setCell ⟨w5.heap.size, 2, none⟩ (.int .i64 a)).setCell ⟨w5.heap.size, 3, none⟩ (.int .i64 e)) := (((hb7.setCell (Nat.le_refl _) _).setCell (Nat.le_refl _) _).setCell (Nat.le_refl _) _).setCell (Nat.le_refl _) _
  have hs : ((((w6.setCell ⟨w5.heap.size, 0, none⟩ (.string s)).setCell ⟨w5.heap.size, 1, none⟩ (.int .i64 j)).setCell ⟨w5.heap.size, 2, none⟩ (.int .i64 a)).setCell ⟨w5.heap.size, 3, none⟩ (.int .i64 e)).heap.size = w6.heap.size := by simp
  generalize (((w6.setCell ⟨w5.heap.size, 0, none⟩ (.string s)).setCell ⟨w5.heap.size, 1, none⟩ (.int .i64 j)).setCell ⟨w5.heap.size, 2, none⟩ (.int .i64 a)).setCell ⟨w5.heap.size, 3, none⟩ (.int .i64 e) = V at *
  obtain ⟨h1, h2, h3⟩ := rr_store s (HP.below hy hB) hW
  exact ⟨h1, V, hB, h3, by omega⟩
/-- What the document's Read hands back. -/
def RetRef (s : ByteArray) (E : PS) (F : Nat → List It) (w : World) (x : Ending) (w' : World) : Prop :=
  Below w.heap.size w w' ∧ ((∃ (A : Nat → Option Addr) (n c : Nat → Nat), E.e = 0 ∧ x = .returned (.tuple #[crV A n c, .int .i64 (atP s.size E), .int .i64 0]) ∧ ∀ k, k < 5 → OwnIts w' w.heap.size (slAt A n c k) (F k)) ∨
    (E.e ≠ 0 ∧ x = .returned (.tuple #[crV (fun _ => none) (fun _ => 0) (fun _ => 0), .int .i64 E.a, .int .i64 E.e])))
abbrev aggR (s : ByteArray) (σ : PS) : Value := .agg #[.string s, .int .i64 (atP s.size σ), .int .i64 σ.a, .int .i64 σ.e]
/-- What Read asks, state by state. -/
structure RdF (s : ByteArray) (st lf sm mu : Nat → PS) (F : Nat → List It) (bl : Nat → List UInt8) (mv : Nat → Int) (T5 E : PS) (b5 : List UInt8) : Prop where
  lis : ∀ f, f < 5 → ∀ W, Calls Tryd.prog 22 #[.agg #[.string s, .int .i64 (atP s.size (st f)), .int .i64 (st f).a, .int .i64 (st f).e], .int .i64 (f : Int)] W (fun x w' => ∃ A n c, x = .returned (.tuple #[.agg #[.string s, .int .i64 (atP s.size (lf f)), .int .i64 (lf f).a, .int .i64 (lf f).e], .slice A n c]) ∧ OwnIts w' W.heap.size (.slice A n c) (F f) ∧ Below W.heap.size W w')
  som : ∀ f, f < 5 → ∀ W, Calls Tryd.prog 19 #[.agg #[.string s, .int .i64 (atP s.size (lf f)), .int .i64 (lf f).a, .int .i64 (lf f).e], .int .i64 0] W (Ret (.tuple #[.agg #[.string s, .int .i64 (atP s.size (sm f)), .int .i64 (sm f).a, .int .i64 (sm f).e], .string (strB (bl f))]) W)
  mus : ∀ f, f < 5 → ∀ W b, W.cell? ⟨b, 0, none⟩ = some (.int .u8 ((32 : UInt8).toNat : Int)) → Calls Tryd.prog 23 #[.agg #[.string s, .int .i64 (atP s.size (lf f)), .int .i64 (lf f).a, .int .i64 (lf f).e], .slice (some ⟨b, 0, none⟩) 1 1] W (Ret (.tuple #[.agg #[.string s, .int .i64 (atP s.size (mu f)), .int .i64 (mu f).a, .int .i64 (mu f).e], .int .u8 (mv f)]) W)
  nxt : ∀ f, f < 4 → st (f + 1) = if bl f = [] then mu f else sm f
  las : st 5 = lf 4
  som5 : ∀ W, Calls Tryd.prog 19 #[.agg #[.string s, .int .i64 (atP s.size (st 5)), .int .i64 (st 5).a, .int .i64 (st 5).e], .int .i64 0] W (Ret (.tuple #[.agg #[.string s, .int .i64 (atP s.size T5), .int .i64 T5.a, .int .i64 T5.e], .string (strB b5)]) W)
  end_ : ∀ W, Calls Tryd.prog 24 #[.agg #[.string s, .int .i64 (atP s.size T5), .int .i64 T5.a, .int .i64 T5.e]] W (Ret (.agg #[.string s, .int .i64 (atP s.size E), .int .i64 E.a, .int .i64 E.e]) W)
section
variable (s : ByteArray) (hs : s.size ≤ 1000000) (w : World)
include hs
theorem rlist_any (σ : PS) (hσ : OfR s σ) (f : Nat) (hf : f < 5) : Calls Tryd.prog 22 #[rvP s σ, .int .i64 (f : Int)] w (RetItems s (rListR s.size f σ).1 (rListR s.size f σ).2 w) := by
  by_cases he : σ.e = 0
  · exact rlist_live s hs σ hσ w f hf he
  · exact rlist_dead s σ hσ w f he
omit hs in
theorem ofR_betw {σ : PS} (h : OfR s σ) (N : Nat) : OfR s (rBetw N σ) := by
  unfold rBetw
  split
  · exact ofR_must h _ _
  · exact ofR_some h _
omit hs in
theorem ofR_at {σ : PS} (h : OfR s σ) (N : Nat) : ∀ f, OfR s (rAt N σ f)
  | 0 => h
  | f + 1 => by
    unfold rAt
    split
    · exact ofR_betw s (ofR_list s _ N f (ofR_at h N f)) N
    · exact ofR_list s _ N f (ofR_at h N f)
omit hs in
theorem ofR_head : OfR s (rHead s) := by
  unfold rHead
  split
  · exact ofR_fail (ofR_some (ofR_new s) _) _ _
  · exact ofR_some (ofR_new s) _
theorem rr_all : ∃ (lf sm mu : Nat → PS) (bl : Nat → List UInt8) (mv : Nat → Int) (T5 : PS) (b5 : List UInt8), RdF s (rAt s.size (rHead s)) lf sm mu (fun f => (rListR s.size f (rAt s.size (rHead s) f)).2) bl mv T5 (rLast s) b5 := by
  have hO := fun f => ofR_at s (ofR_head s) s.size f
  refine ⟨fun f => (rListR s.size f (rAt s.size (rHead s) f)).1, fun f => (someP blankP (rListR s.size f (rAt s.size (rHead s) f)).1).1, fun f => (mustP s.size [32] (rListR s.size f (rAt s.size (rHead s) f)).1).1, fun f => (someP blankP (rListR s.size f (rAt s.size (rHead s) f)).1).2, fun f => (mustP s.size [32] (rListR s.size f (rAt s.size (rHead s) f)).1).2, (someP blankP (rAt s.size (rHead s) 5)).1, (someP blankP (rAt s.size (rHead s) 5)).2, ?_⟩
  refine ⟨fun f hf W => ?_, fun f hf W => ?_, fun f hf W b h => ?_, fun f hf => ?_, rfl, fun W => ?_, fun W => ?_⟩
  · refine (rlist_any s hs W _ (hO f) f hf).mono ?_
    rintro x w' ⟨v, rfl, hv, hb⟩
    obtain ⟨A, n, c, rfl⟩ := own_slice hv
    exact ⟨A, n, c, rfl, hv, hb⟩
  · exact some_rf s hs _ (ofR_list s _ s.size f (hO f)) W 0
  · exact must_rf s hs _ (ofR_list s _ s.size f (hO f)) W _ 1 1 32 (rdBytes_one' W b 32 h)
  · show rAt s.size (rHead s) (f + 1) = _
    rw [rAt, if_pos hf]
    rfl
  · exact some_rf s hs _ (hO 5) W 0
  · exact end_rf s _ (ofR_some (hO 5) _) W
end
end Go.Proofs.YtpfcgjneeboamaaDoor
