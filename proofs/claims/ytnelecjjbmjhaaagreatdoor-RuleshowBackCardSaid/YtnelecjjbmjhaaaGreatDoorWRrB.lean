/- The walks of package ruleread's reader: words, an instant, weekdays. -/
import Derived.Test.YtnelecjjbmjhaaaGreatDoorRRule
import Derived.Test.YtnelecjjbmjhaaaGreatDoorWText
import Derived.Test.YtnelecjjbmjhaaaGreatDoorWBox
import Derived.Test.YtnelecjjbmjhaaaGreatDoorWOwn
import Derived.StillTailTactics
import Derived.Test.YtnelecjjbmjhaaaGreatDoorRRuleMay
import Derived.Test.YtnelecjjbmjhaaaGreatDoorWAnyG
import Derived.Test.YtnelecjjbmjhaaaGreatDoorWMoS
import Derived.Deep.RegionWith
/- The walks of package ruleread's reader: what lacks, a text, a number, a number with a sign. -/
namespace Go.Proofs.YtnelecjjbmjhaaaGreatDoor
open Go.RowKit
set_option linter.unusedSimpArgs false
set_option linter.unusedVariables false

section
variable {w : World} {b : Nat} {s : ByteArray} {σ : PS} (hs : s.size ≤ 1000000)
include hs
set_option maxRecDepth 20000 in
set_option maxHeartbeats 1000000 in
theorem lacks_rr (h : RdP w b s σ) : Calls Tryz.prog 69 #[kV b s] w (RetP (.tuple #[]) b s (lackP s.size σ) w) := by
  have hs9 : s.size ≤ 9223372036854775807 := by omega
  have hlt := h.lt
  have hne : ¬ w.heap.size = b := by omega
  have H := Lib.hid h
  obtain ⟨k, hk, hl, hr⟩ := h
  have hat := atP_eq hk hl
  have HA := Lib.hid (fun W (h : RdP W b s σ) => at_ps h)
  have hk' : (k : Int) ≤ (s.size : Int) := by omega
  by_cases hks : k = s.size
  · have hks' : ((k : Int) == (s.size : Int)) = true := by simp; omega
    have HE : Hid (lackP s.size σ = failP (atP s.size σ) 2 σ) := by
      show _ = _
      unfold lackP
      rw [show pLack σ.l = 2 by rw [hl, hks, drop_end]; rfl]
    have HF := Lib.hid (fun W (h : RdP W b s σ) => fail_ps (atP s.size σ) 2 h)
    rw [hat] at HA HE HF
    generalize lackP s.size σ = R at *
    clear hl hr hat hk hks
    go_enter Tryz.func69, Tryz.ntmps69
    go_wp2
    go_quiet ((go_at_call 36; exact quietQ (HA.out _ (by exact (H.out.alloc _).drewN _))))
    have h1 : RdP ((w.alloc (.cells #[.pointer (some ⟨b, 0, none⟩), .string s] 64)).drewN nq) b s σ := (H.out.alloc _).drewN _
    have g1 : Chg b w ((w.alloc (.cells #[.pointer (some ⟨b, 0, none⟩), .string s] 64)).drewN nq) := ((Chg.refl b w).alloc _).drewN _
    have c0 : ((w.alloc (.cells #[.pointer (some ⟨b, 0, none⟩), .string s] 64)).drewN nq).cell? ⟨w.heap.size, 0, none⟩ = some (.pointer (some ⟨b, 0, none⟩)) := cell_new rfl rfl
    generalize ((w.alloc (.cells #[.pointer (some ⟨b, 0, none⟩), .string s] 64)).drewN nq) = w1 at *
    go_wp2
    go_still_tail 5, (by kernel_rfl)
    still_call ((HA.out _ (by exact h1.drew)).mono (fun _ _ hh => ⟨hh.1, hh.2.symm⟩))
    refine wpStill_nil ?_
    change wpList _ _ _ _ _ w1.drew
    go_wp2_with fail
    refine (HF.out _ (by exact h1.drew)).mono ?_
    rintro e w2 ⟨rfl, h2, g2⟩
    go_wp2
    first | go_end0 | (refine bodyPost_ret (results_none rfl _ _ _) rfl ?_)
    exact ⟨rfl, by rw [HE.out]; exact h2, (g1.drewN 1).trans g2⟩
  · have hks' : ((k : Int) == (s.size : Int)) = false := by simp; omega
    have HE : Hid (lackP s.size σ = failP (atP s.size σ) 3 σ) := by
      show _ = _
      unfold lackP
      rw [show pLack σ.l = 3 by rw [hl, drop_cons s k (by omega)]; rfl]
    have HF := Lib.hid (fun W (h : RdP W b s σ) => fail_ps (atP s.size σ) 3 h)
    rw [hat] at HA HE HF
    generalize lackP s.size σ = R at *
    clear hl hr hat hk hks
    go_enter Tryz.func69, Tryz.ntmps69
    go_wp2
    go_quiet ((go_at_call 36; exact quietQ (HA.out _ (by exact (H.out.alloc _).drewN _))))
    have h1 : RdP ((w.alloc (.cells #[.pointer (some ⟨b, 0, none⟩), .string s] 64)).drewN nq) b s σ := (H.out.alloc _).drewN _
    have g1 : Chg b w ((w.alloc (.cells #[.pointer (some ⟨b, 0, none⟩), .string s] 64)).drewN nq) := ((Chg.refl b w).alloc _).drewN _
    have c0 : ((w.alloc (.cells #[.pointer (some ⟨b, 0, none⟩), .string s] 64)).drewN nq).cell? ⟨w.heap.size, 0, none⟩ = some (.pointer (some ⟨b, 0, none⟩)) := cell_new rfl rfl
    generalize ((w.alloc (.cells #[.pointer (some ⟨b, 0, none⟩), .string s] 64)).drewN nq) = w1 at *
    go_wp2
    go_still_tail 5, (by kernel_rfl)
    still_call ((HA.out _ (by exact h1.drew)).mono (fun _ _ hh => ⟨hh.1, hh.2.symm⟩))
    refine wpStill_nil ?_
    change wpList _ _ _ _ _ w1.drew
    go_wp2_with fail
    refine (HF.out _ (by exact h1.drew)).mono ?_
    rintro e w2 ⟨rfl, h2, g2⟩
    go_wp2
    first | go_end0 | (refine bodyPost_ret (results_none rfl _ _ _) rfl ?_)
    exact ⟨rfl, by rw [HE.out]; exact h2, (g1.drewN 1).trans g2⟩
set_option maxRecDepth 20000 in
set_option maxHeartbeats 1000000 in
theorem must_rr (t : ByteArray) (ht : t.size ≤ 1000000) (h : RdP w b s σ) : Calls Tryz.prog 33 #[kV b s, .string t] w (RetP (.tuple #[]) b s (rmustP s.size t.data.toList σ) w) := by
  have hlt := h.lt
  have hne : ¬ w.heap.size = b := by omega
  have H := Lib.hid h
  have HT := Lib.hid (fun W (h : RdP W b s σ) => text_ps hs ht h)
  have HR : Hid (rmustP s.size t.data.toList σ = if (textP t.data.toList σ).2 = true then (textP t.data.toList σ).1 else lackP s.size (textP t.data.toList σ).1) := rfl
  generalize rmustP s.size t.data.toList σ = R at *
  generalize textP t.data.toList σ = r at *
  obtain ⟨τ, ok⟩ := r
  dsimp only at *
  have HL := Lib.hid (fun W (h : RdP W b s τ) => lacks_rr hs h)
  clear h
  go_enter Tryz.func33, Tryz.ntmps33
  go_wp2_with fail
  refine (HT.out _ (H.out.alloc _)).mono ?_
  rintro e w1 ⟨rfl, h1, g1⟩
  obtain ⟨hc1, hf1⟩ := gcell g1
  cases ok with
  | true =>
    have HE : Hid (R = τ) := by show _ = _; rw [HR.out]; rfl
    clear HR
    go_wp2
    first | go_end0 | (refine bodyPost_ret (results_none rfl _ _ _) rfl ?_)
    exact ⟨rfl, by rw [HE.out]; exact h1, ((Chg.refl b w).alloc _).trans g1⟩
  | false =>
    have HE : Hid (R = lackP s.size τ) := by show _ = _; rw [HR.out]; rfl
    clear HR
    go_wp2_with fail
    refine (HL.out _ h1).mono ?_
    rintro e w2 ⟨rfl, h2, g2⟩
    go_wp2
    first | go_end0 | (refine bodyPost_ret (results_none rfl _ _ _) rfl ?_)
    exact ⟨rfl, by rw [HE.out]; exact h2, (((Chg.refl b w).alloc _).trans g1).trans g2⟩
set_option maxRecDepth 20000 in
set_option maxHeartbeats 1000000 in
theorem number_rr (most : Nat) (hm : most ≤ 18) (lo hi : Int) (h : RdP w b s σ) : Calls Tryz.prog 78 #[kV b s, .int .i64 (most : Int), .int .i64 lo, .int .i64 hi] w (RetP (.int .i64 (rnumP s.size most lo hi σ).2) b s (rnumP s.size most lo hi σ).1 w) := by
  have hs9 : s.size ≤ 9223372036854775807 := by omega
  have hlt := h.lt
  have hne : ¬ w.heap.size = b := by omega
  have H := Lib.hid h
  have HA := Lib.hid (fun W (h : RdP W b s σ) => at_ps h)
  have HN := Lib.hid (fun W (h : RdP W b s σ) => number_ps hs9 (most := most) hm h)
  have HR : Hid (rnumP s.size most lo hi σ = if (numP s.size most σ).2.2 = true ∧ ((numP s.size most σ).2.1 < lo ∨ hi < (numP s.size most σ).2.1) then (failP (atP s.size σ) 4 (numP s.size most σ).1, (numP s.size most σ).2.1) else ((numP s.size most σ).1, (numP s.size most σ).2.1)) := rfl
  generalize rnumP s.size most lo hi σ = R at *
  generalize atP s.size σ = at0 at *
  generalize numP s.size most σ = r at *
  obtain ⟨τ, n, ok⟩ := r
  dsimp only at *
  have HF := Lib.hid (fun W (h : RdP W b s τ) => fail_ps at0 4 h)
  clear h
  go_enter Tryz.func78, Tryz.ntmps78
  go_wp2_with fail
  refine (HA.out _ (H.out.alloc _)).mono ?_
  rintro e w2 ⟨rfl, rfl⟩
  go_wp2_with fail
  refine (HN.out _ (H.out.alloc _)).mono ?_
  rintro e w3 ⟨rfl, h3, g3⟩
  obtain ⟨hc3, hf3⟩ := gcell g3
  have g13 := ((Chg.refl b w).alloc _).trans g3
  cases ok with
  | false =>
    have HE : Hid (R = (τ, n)) := by show _ = _; rw [HR.out, if_neg (by rintro ⟨x, _⟩; cases x)]
    clear HR
    go_wp2
    go_ret
    exact ⟨by rw [HE.out]; rfl, by rw [HE.out]; exact h3, g13⟩
  | true =>
    by_cases hr : n < lo ∨ hi < n
    · have HE : Hid (R = (failP at0 4 τ, n)) := by show _ = _; rw [HR.out, if_pos ⟨rfl, hr⟩]
      clear HR
      by_cases hr2 : n < lo
      · clear hr
        go_wp2_with fail
        refine (HF.out _ h3).mono ?_
        rintro e w4 ⟨rfl, h4, g4⟩
        go_wp2
        go_ret
        exact ⟨by rw [HE.out]; rfl, by rw [HE.out]; exact h4, g13.trans g4⟩
      · have hr3 : hi < n := by omega
        clear hr
        go_wp2_with fail
        refine (HF.out _ h3).mono ?_
        rintro e w4 ⟨rfl, h4, g4⟩
        go_wp2
        go_ret
        exact ⟨by rw [HE.out]; rfl, by rw [HE.out]; exact h4, g13.trans g4⟩
    · have HE : Hid (R = (τ, n)) := by show _ = _; rw [HR.out, if_neg (by rintro ⟨_, x⟩; exact hr x)]
      have hr1 : ¬ n < lo := fun x => hr (.inl x)
      have hr2 : ¬ hi < n := fun x => hr (.inr x)
      clear HR hr
      go_wp2
      go_ret
      exact ⟨by rw [HE.out]; rfl, by rw [HE.out]; exact h3, g13⟩
omit hs in
theorem num_bd (N most : Nat) (hm : most ≤ 17) (lo hi : Int) : 0 ≤ (rnumP N most lo hi σ).2 ∧ (rnumP N most lo hi σ).2 ≤ 100000000000000000 := by
  have h : 0 ≤ (numP N most σ).2.1 ∧ (numP N most σ).2.1 ≤ 100000000000000000 := by
    unfold numP
    split
    · split
      · rename_i hz
        have hb := numOf_bd _ (all_take digitP σ.l)
        have hl : (σ.l.takeWhile digitP).length ≤ most := by
          unfold numE at hz
          split at hz
          · exact absurd hz (pLack_ne _)
          · split at hz
            · cases hz
            · omega
        have := pow_le17 (k := (σ.l.takeWhile digitP).length) (by omega)
        dsimp only
        omega
      · dsimp only; omega
    · dsimp only; omega
  unfold rnumP
  dsimp only
  split <;> exact h
set_option maxRecDepth 20000 in
set_option maxHeartbeats 1000000 in
theorem signed_rr (hi : Int) (h : RdP w b s σ) : Calls Tryz.prog 86 #[kV b s, .int .i64 hi] w (RetP (.int .i64 (signP s.size hi σ).2) b s (signP s.size hi σ).1 w) := by
  have hs9 : s.size ≤ 9223372036854775807 := by omega
  have hlt := h.lt
  have hne : ¬ w.heap.size = b := by omega
  have H := Lib.hid h
  have HI := Lib.hid (fun W A n cp (h : RdP W b s σ) (hA : RdBytes W A n [45]) (hn : n ≤ 9223372036854775807) => is_ps (cp := cp) hs9 h hA hn)
  have HR : Hid (signP s.size hi σ = if (isP [45] σ).2 = true then ((rnumP s.size 2 1 hi (isP [45] σ).1).1, -(rnumP s.size 2 1 hi (isP [45] σ).1).2) else rnumP s.size 2 1 hi (isP [45] σ).1) := rfl
  generalize signP s.size hi σ = R at *
  generalize isP [45] σ = u at *
  obtain ⟨τ, minus⟩ := u
  dsimp only at *
  have HN := Lib.hid (fun W (h : RdP W b s τ) => number_rr hs 2 (by decide) 1 hi h)
  have hbd := num_bd (σ := τ) s.size 2 (by decide) 1 hi
  generalize rnumP s.size 2 1 hi τ = r at *
  obtain ⟨υ, n⟩ := r
  dsimp only at *
  obtain ⟨hb0, hb1⟩ := hbd
  clear h
  go_enter Tryz.func86, Tryz.ntmps86
  go_wp2_with fail
  refine (HI.out _ _ _ _ ((H.out.alloc _).alloc _) (rdB1 (c := 45) (cell_new (by simp) rfl)) (by decide)).mono ?_
  rintro e w1 ⟨rfl, h1, g1⟩
  obtain ⟨hc1, hf1⟩ := gcell g1
  have g01 := (((Chg.refl b w).alloc _).alloc _).trans g1
  cases minus with
  | true =>
    have HE : Hid (R = (υ, -n)) := by show _ = _; rw [HR.out]; rfl
    clear HR
    go_wp2_with fail
    refine (HN.out _ h1).mono ?_
    rintro e w2 ⟨rfl, h2, g2⟩
    go_wp2
    go_ret
    exact ⟨by rw [HE.out]; rfl, by rw [HE.out]; exact h2, g01.trans g2⟩
  | false =>
    have HE : Hid (R = (υ, n)) := by show _ = _; rw [HR.out]; rfl
    clear HR
    go_wp2_with fail
    refine (HN.out _ h1).mono ?_
    rintro e w2 ⟨rfl, h2, g2⟩
    go_wp2
    go_ret
    exact ⟨by rw [HE.out]; rfl, by rw [HE.out]; exact h2, g01.trans g2⟩
end
end Go.Proofs.YtnelecjjbmjhaaaGreatDoor

namespace Go.Proofs.YtnelecjjbmjhaaaGreatDoor
open Go.RowKit
set_option linter.unusedSimpArgs false
set_option linter.unusedVariables false

theorem momP_bd' {l : List UInt8} (h : l.length ≤ 1000000) : 0 ≤ (momP l).2.1 ∧ (momP l).2.1 ≤ 1000000000 := by
  obtain ⟨h1, h2, _⟩ := momP_bd l
  omega
/-- Strings in a block. -/
def StrsAt (w : World) (B : Nat) (ws : List (List UInt8)) : Prop := ∀ j, j < ws.length → w.cell? ⟨B, j, none⟩ = some (.string (strB (ws.getD j [])))
/-- It hands back a slice of strings of its own. -/
def RetStrs (ws : List (List UInt8)) (w : World) (x : Ending) (w' : World) : Prop := ∃ B c, x = .returned (.slice (some ⟨B, 0, none⟩) ws.length c) ∧ StrsAt w' B ws ∧ w.heap.size ≤ B ∧ Below w.heap.size w w'
theorem StrsAt.lt {w : World} {B : Nat} {ws : List (List UInt8)} (h : StrsAt w B ws) (hp : 0 < ws.length) : B < w.heap.size := World.block_lt_of_cell? w _ (h 0 hp)
theorem StrsAt.chg {w w' : World} {b B : Nat} {ws : List (List UInt8)} (h : StrsAt w B ws) (hg : Chg b w w') (hne : B ≠ b) : StrsAt w' B ws := fun j hj => hg.cell hne (h j hj)
theorem StrsAt.below {w w' : World} {B : Nat} {ws : List (List UInt8)} (h : StrsAt w B ws) (hb : Below w.heap.size w w') : StrsAt w' B ws := fun j hj => (hb.cell (p := ⟨B, j, none⟩) (World.block_lt_of_cell? w _ (h j hj))).trans (h j hj)
theorem strB_inj' {x y : List UInt8} (h : strB x = strB y) : x = y := by rw [← strB_data x, h, strB_data]
theorem ridxFrom_eq (x : List UInt8) : ∀ (zs : List (List UInt8)) (i : Nat), Lib.idxFromS (zs.map strB) (strB x) i = (match zs.idxOf? x with | some j => ((i + j : Nat) : Int) | none => -1)
  | [], i => rfl
  | z :: zs, i => by
    rw [List.map_cons, Lib.idxFromS, List.idxOf?_cons]
    by_cases h : z = x
    · subst h; simp
    · have h2 : strB z ≠ strB x := fun e => h (strB_inj' e)
      rw [if_neg h2, ridxFrom_eq x zs (i + 1), if_neg (by simpa using h)]
      cases zs.idxOf? x with
      | none => rfl
      | some j => simp only [Option.map_some]; congr 1; omega
theorem ridx_eq (zs : List (List UInt8)) (x : List UInt8) : Lib.idxOfS (zs.map strB) (strB x) = wIdx x zs := by
  unfold Lib.idxOfS wIdx
  rw [ridxFrom_eq]
  cases zs.idxOf? x with
  | none => rfl
  | some j => simp only [Nat.zero_add]
theorem getD_strB (ws : List (List UInt8)) (j : Nat) (hj : j < ws.length) : (ws.map strB).getD j ByteArray.empty = strB (ws.getD j []) := by
  rw [List.getD_eq_getElem?_getD, List.getD_eq_getElem?_getD, List.getElem?_map, List.getElem?_eq_getElem hj]
  rfl
theorem rindex_any (B c : Nat) (ws : List (List UInt8)) (hz : ws.length ≤ 1000) (x : List UInt8) (W : World) (hA : StrsAt W B ws) : Calls Tryz.prog 133 #[.slice (some ⟨B, 0, none⟩) ws.length c, .string (strB x)] W (RetQ (.int .i64 (wIdx x ws)) W) := by
  have := Tryz.slices_Index_string B 0 ws.length c (ws.map strB) (strB x) W (by simp) (by omega) (fun j hj => by
    have hj : j < ws.length := by simpa using hj
    rw [getD_strB ws j hj, Nat.zero_add]
    exact hA j hj)
  rw [List.take_of_length_le (by simp), ridx_eq] at this
  refine this.mono ?_
  rintro e w1 ⟨rfl, rfl⟩
  exact ⟨rfl, rfl⟩
theorem index_goon (l : List UInt8) : (Lib.indexAny l [10, 59] = -1 ∧ l.takeWhile goonB = l) ∨ (0 ≤ Lib.indexAny l [10, 59] ∧ Lib.indexAny l [10, 59] ≤ l.length ∧ l.take (Lib.indexAny l [10, 59]).toNat = l.takeWhile goonB) := by
  induction l with
  | nil => left; exact ⟨rfl, rfl⟩
  | cons c l ih =>
    rw [Lib.indexAny]
    cases hc : ([10, 59] : List UInt8).contains c with
    | true =>
      right
      rw [if_pos rfl]
      have : goonB c = false := by
        simp at hc
        unfold goonB
        rw [decide_eq_false_iff_not]
        rintro ⟨h1, h2⟩
        rcases hc with h | h
        · exact h1 h
        · exact h2 h
      exact ⟨by decide, by omega, by simp [List.takeWhile_cons, this]⟩
    | false =>
      rw [if_neg (by decide)]
      have hg : goonB c = true := by
        simp at hc
        unfold goonB
        exact decide_eq_true hc
      have ht : (c :: l).takeWhile goonB = c :: l.takeWhile goonB := by rw [List.takeWhile_cons, if_pos hg]
      rw [ht]
      rcases ih with ⟨h1, h2⟩ | ⟨h1, h2, h3⟩
      · left; rw [h1, h2]; exact ⟨by simp, rfl⟩
      · right
        rw [if_neg (by simp; omega)]
        refine ⟨by omega, by rw [List.length_cons]; omega, ?_⟩
        rw [show (Lib.indexAny l [10, 59] + 1).toNat = (Lib.indexAny l [10, 59]).toNat + 1 from by omega, List.take_succ_cons, h3]
set_option maxRecDepth 20000 in
set_option maxHeartbeats 1000000 in
theorem rwdays_any (w : World) : Calls Tryz.prog 136 #[] w (RetStrs wdN w) := by
  go_enter Tryz.func136, Tryz.ntmps136
  go_wp2
  go_ret
  refine ⟨w.heap.size, 7, rfl, ?_, Nat.le_refl _, by (repeat' (first | (with_reducible exact Below.refl _ _) | (with_reducible assumption) | (with_reducible refine below_drewN ?_ _) | (with_reducible refine Below.alloc ?_ ?_ _) | (with_reducible refine Below.drew ?_) | (with_reducible refine Below.setCell ?_ ?_ _) | go_size))⟩
  intro j hj
  obtain rfl | rfl | rfl | rfl | rfl | rfl | rfl : j = 0 ∨ j = 1 ∨ j = 2 ∨ j = 3 ∨ j = 4 ∨ j = 5 ∨ j = 6 := by simp [wdN] at hj; omega
  all_goals exact cell_new rfl rfl
theorem chg_of {b : Nat} {w w1 : World} (h : Below w.heap.size w w1) : Chg b w w1 := Chg.of_below h
section
variable {w : World} {b : Nat} {s : ByteArray} {σ : PS} (hs : s.size ≤ 1000000)
include hs
set_option maxRecDepth 20000 in
set_option maxHeartbeats 1000000 in
theorem one_rr (ws : List (List UInt8)) (hz : ws.length ≤ 1000) (B c : Nat) (hB : B ≠ b) (hlt' : 0 < ws.length) (hA : StrsAt w B ws) (h : RdP w b s σ) : Calls Tryz.prog 75 #[kV b s, .slice (some ⟨B, 0, none⟩) ws.length c] w (RetP (.int .i64 (oneP s.size ws σ).2) b s (oneP s.size ws σ).1 w) := by
  have hs9 : s.size ≤ 9223372036854775807 := by omega
  have hlt := h.lt
  have hBl := hA.lt hlt'
  have hne : ¬ w.heap.size = b := by omega
  have hneB : ¬ w.heap.size = B := by omega
  have H := Lib.hid h
  have HAt := Lib.hid (fun W (h : RdP W b s σ) => at_ps h)
  have HW := Lib.hid (fun W (h : RdP W b s σ) => word_ps hs9 h)
  have HR : Hid (oneP s.size ws σ = if (someP letterP σ).2 = [] then (lackP s.size (someP letterP σ).1, 0) else if wIdx (someP letterP σ).2 ws < 0 then (failP (atP s.size σ) 6 (someP letterP σ).1, 0) else ((someP letterP σ).1, wIdx (someP letterP σ).2 ws)) := rfl
  have HX := Lib.hid (fun x W (hA : StrsAt W B ws) => rindex_any B c ws hz x W hA)
  have HSt : Hid (∀ W, Chg b w W → StrsAt W B ws) := fun W hg => hA.chg hg hB
  generalize oneP s.size ws σ = R at *
  generalize atP s.size σ = at0 at *
  generalize someP letterP σ = r at *
  obtain ⟨τ, x⟩ := r
  dsimp only at *
  have HL := Lib.hid (fun W (h : RdP W b s τ) => lacks_rr hs h)
  have HF := Lib.hid (fun W (h : RdP W b s τ) => fail_ps at0 6 h)
  generalize ws.length = nw at *
  clear h hA
  by_cases hx : x = []
  · subst hx
    have HE : Hid (R = (lackP s.size τ, 0)) := by show _ = _; rw [HR.out, if_pos rfl]
    clear HR
    have hem : (strB ([] : List UInt8)) = ⟨#[]⟩ := rfl
    rw [hem] at HW
    go_enter Tryz.func75, Tryz.ntmps75
    go_wp2_with fail
    refine (HAt.out _ (H.out.alloc _)).mono ?_
    rintro e w2 ⟨rfl, rfl⟩
    go_wp2_with fail
    refine (HW.out _ (H.out.alloc _)).mono ?_
    rintro e w3 ⟨rfl, h3, g3⟩
    obtain ⟨hc3, hf3⟩ := gcell g3
    have g13 := ((Chg.refl b w).alloc _).trans g3
    go_wp2_with fail
    refine (HL.out _ h3).mono ?_
    rintro e w4 ⟨rfl, h4, g4⟩
    go_wp2
    go_ret
    exact ⟨by rw [HE.out]; rfl, by rw [HE.out]; exact h4, g13.trans g4⟩
  · have hemp : (strB x).toList.isEmpty = false := by
      rw [ByteArray.toList_eq, strB_data]
      cases x with
      | nil => exact absurd rfl hx
      | cons a l => rfl
    rw [if_neg hx] at HR
    have HX2 := Lib.hid (HX.out x)
    generalize wIdx x ws = ix at *
    clear HX
    generalize strB x = X at *
    clear hx
    by_cases hi : ix < 0
    · have HE : Hid (R = (failP at0 6 τ, 0)) := by show _ = _; rw [HR.out, if_pos hi]
      clear HR
      go_enter Tryz.func75, Tryz.ntmps75
      go_wp2_with fail
      refine (HAt.out _ (H.out.alloc _)).mono ?_
      rintro e w2 ⟨rfl, rfl⟩
      go_wp2_with fail
      refine (HW.out _ (H.out.alloc _)).mono ?_
      rintro e w3 ⟨rfl, h3, g3⟩
      obtain ⟨hc3, hf3⟩ := gcell g3
      have g13 := ((Chg.refl b w).alloc _).trans g3
      have hm3 := HSt.out w3 g13
      go_wp2_with fail
      refine (HX2.out _ hm3).mono ?_
      rintro e w4 ⟨rfl, rfl⟩
      go_wp2_with fail
      refine (HF.out _ h3).mono ?_
      rintro e w4 ⟨rfl, h4, g4⟩
      go_wp2
      go_ret
      exact ⟨ret_int (show max ix 0 = R.2 by rw [HE.out]; omega), by rw [HE.out]; exact h4, g13.trans g4⟩
    · have hi0 : 0 ≤ ix := by omega
      have HE : Hid (R = (τ, ix)) := by show _ = _; rw [HR.out, if_neg hi]
      clear HR
      go_enter Tryz.func75, Tryz.ntmps75
      go_wp2_with fail
      refine (HAt.out _ (H.out.alloc _)).mono ?_
      rintro e w2 ⟨rfl, rfl⟩
      go_wp2_with fail
      refine (HW.out _ (H.out.alloc _)).mono ?_
      rintro e w3 ⟨rfl, h3, g3⟩
      obtain ⟨hc3, hf3⟩ := gcell g3
      have g13 := ((Chg.refl b w).alloc _).trans g3
      have hm3 := HSt.out w3 g13
      go_wp2_with fail
      refine (HX2.out _ hm3).mono ?_
      rintro e w4 ⟨rfl, rfl⟩
      go_wp2
      go_ret
      exact ⟨ret_int (show max ix 0 = R.2 by rw [HE.out]; omega), by rw [HE.out]; exact h3, g13⟩
set_option maxRecDepth 20000 in
set_option maxHeartbeats 2000000 in
theorem instant_rr (h : RdP w b s σ) : Calls Tryz.prog 38 #[kV b s] w (RetP (.int .i64 (instP s.size σ).2) b s (instP s.size σ).1 w) := by
  have hs9 : s.size ≤ 9223372036854775807 := by omega
  have hlt := h.lt
  have hne : ¬ w.heap.size = b := by omega
  have H := Lib.hid h
  have HD := Lib.hid (fun W (h : RdP W b s σ) => done_pp h)
  cases hd : doneP σ with
  | true =>
    have HE : Hid (instP s.size σ = (lackP s.size σ, 0)) := by
      show _ = _
      unfold instP
      rw [if_pos hd]
    have HL := Lib.hid (fun W (h : RdP W b s σ) => lacks_rr hs h)
    rw [hd] at HD
    generalize instP s.size σ = R at *
    clear h hd
    go_enter Tryz.func38, Tryz.ntmps38
    go_wp2_with fail
    refine (HD.out _ (H.out.alloc _)).mono ?_
    rintro e w1 ⟨rfl, h1, g1⟩
    obtain ⟨hc1, hf1⟩ := gcell g1
    go_wp2_with fail
    refine (HL.out _ h1).mono ?_
    rintro e w2 ⟨rfl, h2, g2⟩
    go_wp2
    go_ret
    exact ⟨by rw [HE.out]; rfl, by rw [HE.out]; exact h2, (((Chg.refl b w).alloc _).trans g1).trans g2⟩
  | false =>
    rw [hd] at HD
    have hlen := h.len
    have HA := Lib.hid (fun W (h : RdP W b s σ) => at_ps h)
    obtain ⟨k, hk, hl, hr⟩ := h
    have hat := atP_eq hk hl
    have hk' : (k : Int) ≤ (s.size : Int) := by omega
    have HE : Hid (instP s.size σ = ((textP (σ.l.takeWhile goonB) (failP ((k : Int) + (momP (σ.l.takeWhile goonB)).2.1) (momP (σ.l.takeWhile goonB)).2.2 σ)).1, (momP (σ.l.takeWhile goonB)).1)) := by
      show _ = _
      unfold instP
      rw [if_neg (by rw [hd]; decide), hat]
    have hmb := momP_bd' (l := σ.l.takeWhile goonB) (by have := take_len goonB σ.l; omega)
    have hS : (s.extract k s.size).data.toList = σ.l := by rw [hl]; exact left_data
    have hSz : (s.extract k s.size).size ≤ 1000000 := by simp; omega
    have HX := Lib.hid (fun W => iany_any (s.extract k s.size) ⟨#[10, 59]⟩ W hSz rfl (by decide))
    rw [hS, show (⟨#[10, 59]⟩ : ByteArray).data.toList = [10, 59] from rfl] at HX
    have hig := index_goon σ.l
    rw [hat] at HA
    rw [← hS, len_data] at hig
    rw [hS] at hig
    have HM : Hid (∀ (T : ByteArray), T.data.toList = σ.l.takeWhile goonB → T.size ≤ 1000000 → ∀ W, Calls Tryz.prog 73 #[.string T] W (Ret (.tuple #[.int .i64 (momP (σ.l.takeWhile goonB)).1, .int .i64 (momP (σ.l.takeWhile goonB)).2.1, .int .i64 (momP (σ.l.takeWhile goonB)).2.2]) W)) := fun T hT hz W => by
      have := mread_any T (by omega) W
      rwa [hT] at this
    have HTx : Hid (∀ (T : ByteArray), T.data.toList = σ.l.takeWhile goonB → T.size ≤ 1000000 → ∀ W τ, RdP W b s τ → Calls Tryz.prog 68 #[.pointer (some ⟨b, 0, none⟩), .string T] W (RetP (.bool (textP (σ.l.takeWhile goonB) τ).2) b s (textP (σ.l.takeWhile goonB) τ).1 W)) := fun T hT hz W τ h => by
      have := text_ps hs hz h
      rwa [hT] at this
    generalize σ.l.takeWhile goonB = TL at *
    generalize momP TL = M at *
    obtain ⟨mt, mn, me⟩ := M
    dsimp only at *
    have HF := Lib.hid (fun W (h : RdP W b s σ) => fail_ps ((k : Int) + mn) me h)
    generalize failP ((k : Int) + mn) me σ = τ at *
    generalize instP s.size σ = R at *
    rcases hig with ⟨h1, h2⟩ | ⟨h1, h2, h3⟩
    · rw [h1] at HX
      have hT : (s.extract k s.size).data.toList = TL := by rw [hS, h2]
      have HM2 := Lib.hid (HM.out _ hT hSz)
      have HT2 := Lib.hid (HTx.out _ hT hSz)
      clear HM HTx hT hS hSz hd hlen hl hr hat h1 h2
      generalize hTT : s.extract k s.size = T at *
      clear hk
      obtain ⟨mb0, mb1⟩ := hmb
      go_enter Tryz.func38, Tryz.ntmps38
      go_wp2_with fail
      refine (HD.out _ (H.out.alloc _)).mono ?_
      rintro e w1 ⟨rfl, h1, g1⟩
      obtain ⟨hc1, hf1⟩ := gcell g1
      go_wp2_with fail
      refine (HA.out _ h1).mono ?_
      rintro e w2 ⟨rfl, rfl⟩
      go_wp2_with fail
      refine (HX.out _).mono ?_
      rintro e w3 ⟨rfl, hb3⟩
      have hz1 : w.heap.size < w1.heap.size := by have := g1.size; simp at this; omega
      have g03 := (((Chg.refl b w).alloc _).trans g1).trans (chg_of hb3)
      have h3 := h1.below hb3
      obtain ⟨hc3, hf3⟩ := bcell hb3
      have hz3 : w.heap.size < w3.heap.size := Nat.lt_of_lt_of_le hz1 hb3.size
      clear hb3
      go_wp2_with fail
      refine (HM2.out _).mono ?_
      rintro e w4 ⟨rfl, hb4⟩
      have g04 := g03.trans (chg_of hb4)
      have h4 := h3.below hb4
      obtain ⟨hc4, hf4⟩ := bcell hb4
      have hz4 : w.heap.size < w4.heap.size := Nat.lt_of_lt_of_le hz3 hb4.size
      clear hb4 h3
      go_wp2_with fail
      refine (HF.out _ h4).mono ?_
      rintro e w5 ⟨rfl, h5, g5⟩
      obtain ⟨hc5, hf5⟩ := gcell g5
      have g05 := g04.trans g5
      have hz5 : w.heap.size < w5.heap.size := Nat.lt_of_lt_of_le hz4 g5.size
      go_wp2_with fail
      refine (HT2.out _ _ h5).mono ?_
      rintro e w6 ⟨rfl, h6, g6⟩
      go_wp2
      go_ret
      exact ⟨by rw [HE.out]; rfl, by rw [HE.out]; exact h6, g05.trans g6⟩
    · have hT : ((s.extract k s.size).extract 0 (Lib.indexAny σ.l [10, 59]).toNat).data.toList = TL := by
        rw [extract_list, hS, List.drop_zero, Nat.sub_zero, h3]
      have hTz : ((s.extract k s.size).extract 0 (Lib.indexAny σ.l [10, 59]).toNat).size ≤ 1000000 := by simp at hSz ⊢; omega
      have HM2 := Lib.hid (HM.out _ hT hTz)
      have HT2 := Lib.hid (HTx.out _ hT hTz)
      have hle : Lib.indexAny σ.l [10, 59] ≤ ((s.extract k s.size).size : Int) := h2
      clear HM HTx hT hS hTz hd hlen hl hr hat h3 h2
      generalize Lib.indexAny σ.l [10, 59] = ix at *
      generalize hTT : s.extract k s.size = T at *
      generalize hUU : T.extract 0 ix.toNat = U at *
      clear hk
      obtain ⟨mb0, mb1⟩ := hmb
      go_enter Tryz.func38, Tryz.ntmps38
      go_wp2_with fail
      refine (HD.out _ (H.out.alloc _)).mono ?_
      rintro e w1 ⟨rfl, h1, g1⟩
      obtain ⟨hc1, hf1⟩ := gcell g1
      go_wp2_with fail
      refine (HA.out _ h1).mono ?_
      rintro e w2 ⟨rfl, rfl⟩
      go_wp2_with fail
      refine (HX.out _).mono ?_
      rintro e w3 ⟨rfl, hb3⟩
      have hz1 : w.heap.size < w1.heap.size := by have := g1.size; simp at this; omega
      have g03 := (((Chg.refl b w).alloc _).trans g1).trans (chg_of hb3)
      have h3 := h1.below hb3
      obtain ⟨hc3, hf3⟩ := bcell hb3
      have hz3 : w.heap.size < w3.heap.size := Nat.lt_of_lt_of_le hz1 hb3.size
      clear hb3
      go_wp2_with fail
      refine (HM2.out _).mono ?_
      rintro e w4 ⟨rfl, hb4⟩
      have g04 := g03.trans (chg_of hb4)
      have h4 := h3.below hb4
      obtain ⟨hc4, hf4⟩ := bcell hb4
      have hz4 : w.heap.size < w4.heap.size := Nat.lt_of_lt_of_le hz3 hb4.size
      clear hb4 h3
      go_wp2_with fail
      refine (HF.out _ h4).mono ?_
      rintro e w5 ⟨rfl, h5, g5⟩
      obtain ⟨hc5, hf5⟩ := gcell g5
      have g05 := g04.trans g5
      have hz5 : w.heap.size < w5.heap.size := Nat.lt_of_lt_of_le hz4 g5.size
      go_wp2_with fail
      refine (HT2.out _ _ h5).mono ?_
      rintro e w6 ⟨rfl, h6, g6⟩
      go_wp2
      go_ret
      exact ⟨by rw [HE.out]; rfl, by rw [HE.out]; exact h6, g05.trans g6⟩
end
end Go.Proofs.YtnelecjjbmjhaaaGreatDoor
