/- The walk of cronshow.Item. -/
import Derived.Test.YtgliminiiciflaaDoorWShow2
import Derived.Test.YtgliminiiciflaaDoorWShow3
namespace Go.Proofs.YtgliminiiciflaaDoor
open Go.RowKit
set_option linter.unusedSimpArgs false
set_option linter.unusedVariables false

theorem joined2_any (sep a b : ByteArray) (bk : Nat) (w : World) (h0 : w.cell? ⟨bk, 0, none⟩ = some (.string a)) (h1 : w.cell? ⟨bk, 1, none⟩ = some (.string b)) (hs : sep.size ≤ 1000) (ha : a.size ≤ 1000) (hb : b.size ≤ 1000) :
    Calls Tryd.prog 26 #[.string sep, .slice (some ⟨bk, 0, none⟩) 2 2] w (Ret (.string (a ++ sep ++ b)) w) := by
  have e : Lib.join ([a, b].map (·.data.toList)) sep.data.toList = a.data.toList ++ sep.data.toList ++ b.data.toList := by simp [Lib.join, List.intercalate]
  have hl : ∀ x : ByteArray, x.data.toList.length = x.size := fun x => Array.length_toList
  have h := joined_any sep bk 0 2 [a, b] w (fun j x hx => by
    rcases j with _ | _ | j
    · simp at hx; subst hx; exact h0
    · simp at hx; subst hx; exact h1
    · simp at hx) (World.block_lt_of_cell? w _ h0) (show 2 ≤ 140737488355328 by omega) (Nat.le_refl 2) (by rw [e]; simp only [List.length_append, hl]; omega)
  rw [e] at h
  have e2 : Ret (.string (a ++ sep ++ b)) w = Ret (strV (a.data.toList ++ sep.data.toList ++ b.data.toList)) w := by
    have e3 : a ++ sep ++ b = ⟨(a.data.toList ++ sep.data.toList ++ b.data.toList).toArray⟩ := by apply ByteArray.ext; simp
    rw [e3]
  rw [e2]
  exact h
theorem itoaB_any (n : Int) (h : In64 n) (w : World) (hw : Pow w) : Calls Tryd.prog 25 #[.int .i64 n] w (Ret (.string (strB (Lib.itoa n))) w) := itoa_any n h w hw

set_option maxRecDepth 20000 in
set_option maxHeartbeats 1000000 in
theorem citem_any (i : It) (h : i.wf) (w : World) (hw : Pow w) : Calls Tryd.prog 11 #[.agg #[.int .i64 i.k, .int .i64 i.f, .int .i64 i.t, .int .i64 i.s]] w (Ret (.string (strB (itemT i))) w) := by
  obtain ⟨hk, hf, ht, hs⟩ := h
  have HF := Lib.hid (fun W (hb : Below w.heap.size w W) => itoaB_any i.f hf W (tab_below hw hb))
  have HT := Lib.hid (fun W (hb : Below w.heap.size w W) => itoaB_any i.t ht W (tab_below hw hb))
  have HSt := Lib.hid (fun W (hb : Below w.heap.size w W) => itoaB_any i.s hs W (tab_below hw hb))
  have zf := itoa_size hf
  have zt := itoa_size ht
  have zs := itoa_size hs
  clear hk hf ht hs hw
  have df := strB_data (Lib.itoa i.f)
  have dt := strB_data (Lib.itoa i.t)
  have ds := strB_data (Lib.itoa i.s)
  obtain ⟨Sf, hSf⟩ : ∃ S, S = strB (Lib.itoa i.f) := ⟨_, rfl⟩
  obtain ⟨St, hSt⟩ : ∃ S, S = strB (Lib.itoa i.t) := ⟨_, rfl⟩
  obtain ⟨Ss, hSs⟩ : ∃ S, S = strB (Lib.itoa i.s) := ⟨_, rfl⟩
  rw [← hSf] at HF zf df
  rw [← hSt] at HT zt dt
  rw [← hSs] at HSt zs ds
  have DF := Lib.hid df
  have DT := Lib.hid dt
  have DS := Lib.hid ds
  clear hSf hSt hSs df dt ds
  have HE : Hid (∀ S : ByteArray, S.data.toList = itemT i → Ending.returned (.string S) = .returned (.string (strB (itemT i)))) := fun S h => ret_str h
  unfold itemT stT at HE
  have hr1 : (0 : Int) < 1 := by omega
  go_enter Tryd.func11, Tryd.ntmps11
  go_wp2_with fail
  · go_ret
    exact ⟨HE.out _ (by (simp only [beq_iff_eq, beq_eq_false_iff_ne, bne_iff_ne, bne_eq_false_iff_eq, ne_eq] at *); (repeat' split) <;> first | (exfalso; omega) | simp [str_app, DF.out, DT.out, DS.out]), by (repeat' (first | (with_reducible exact Below.refl _ _) | (with_reducible assumption) | (with_reducible refine below_drewN ?_ _) | (with_reducible refine Below.alloc ?_ ?_ _) | (with_reducible refine Below.drew ?_) | (with_reducible refine Below.setCell ?_ ?_ _) | go_size))⟩
  · refine (HSt.out _ (by (repeat' (first | (with_reducible exact Below.refl _ _) | (with_reducible assumption) | (with_reducible refine below_drewN ?_ _) | (with_reducible refine Below.alloc ?_ ?_ _) | (with_reducible refine Below.drew ?_) | (with_reducible refine Below.setCell ?_ ?_ _) | go_size)))).mono ?_
    rintro e w1 ⟨rfl, hb1⟩
    have hb2 : Below w.heap.size w w1 := ((Below.refl _ w).alloc (Nat.le_refl _) _).trans (hb1.mono (by simp))
    have hz2 := hb2.size
    go_wp2_with fail
    refine (joined2_any _ _ _ _ _ (cell_new rfl rfl) (cell_new rfl rfl) (by decide) (by decide) (by omega)).mono ?_
    rintro e w2 ⟨rfl, hb3⟩
    have hb4 : Below w.heap.size w w2 := (hb2.alloc hz2 _).trans (hb3.mono (by simp; omega))
    go_wp2
    go_ret
    exact ⟨HE.out _ (by (simp only [beq_iff_eq, beq_eq_false_iff_ne, bne_iff_ne, bne_eq_false_iff_eq, ne_eq] at *); (repeat' split) <;> first | (exfalso; omega) | simp [str_app, DF.out, DT.out, DS.out]), hb4⟩
  · refine (HF.out _ (by (repeat' (first | (with_reducible exact Below.refl _ _) | (with_reducible assumption) | (with_reducible refine below_drewN ?_ _) | (with_reducible refine Below.alloc ?_ ?_ _) | (with_reducible refine Below.drew ?_) | (with_reducible refine Below.setCell ?_ ?_ _) | go_size)))).mono ?_
    rintro e w1 ⟨rfl, hb1⟩
    have hb2 : Below w.heap.size w w1 := ((Below.refl _ w).alloc (Nat.le_refl _) _).trans (hb1.mono (by simp))
    go_wp2
    go_ret
    exact ⟨HE.out _ (by (simp only [beq_iff_eq, beq_eq_false_iff_ne, bne_iff_ne, bne_eq_false_iff_eq, ne_eq] at *); (repeat' split) <;> first | (exfalso; omega) | simp [str_app, DF.out, DT.out, DS.out]), hb2⟩
  · generalize hW : World.alloc w _ = W1
    have hb0 : Below w.heap.size w W1 := by rw [← hW]; exact (Below.refl _ w).alloc (Nat.le_refl _) _
    have hz0 := hb0.size
    have c1 : W1.cell? ⟨w.heap.size, 1, none⟩ = some (.int .i64 i.f) := by subst hW; simp [go_sem]
    have c2 : W1.cell? ⟨w.heap.size, 2, none⟩ = some (.int .i64 i.t) := by subst hW; simp [go_sem]
    have c3 : W1.cell? ⟨w.heap.size, 3, none⟩ = some (.int .i64 i.s) := by subst hW; simp [go_sem]
    have HW : Hid (∀ w', Below W1.heap.size W1 w' → Below w.heap.size w w') := fun w' h => bthen hb0 h hz0
    have HS : Hid (∀ w', Below W1.heap.size W1 w' → Below W1.heap.size W1 w' ∧ w'.cell? ⟨w.heap.size, 1, none⟩ = some (.int .i64 i.f) ∧ w'.cell? ⟨w.heap.size, 2, none⟩ = some (.int .i64 i.t)) := fun w' h =>
      ⟨h, (⟨w', h⟩ : Ext W1).cell c1, (⟨w', h⟩ : Ext W1).cell c2⟩
    have HC3 : Hid (∀ w', Below W1.heap.size W1 w' → w'.cell? ⟨w.heap.size, 3, none⟩ = some (.int .i64 i.s)) := fun w' h => (⟨w', h⟩ : Ext W1).cell c3
    clear hW c1 c2 c3
    go_region_held3 (fun w' => Below W1.heap.size W1 w' ∧ w'.cell? ⟨w.heap.size, 1, none⟩ = some (.int .i64 i.f) ∧ w'.cell? ⟨w.heap.size, 2, none⟩ = some (.int .i64 i.t))
      (first | (go_split_ands; refine HS.out _ (bthen ?_ hb1 ?_); assumption; exact Below.size (by assumption)) | (go_split_ands; refine HS.out _ (Below.alloc ?_ ?_ _); assumption; exact Below.size (by assumption)) | (refine HS.out _ ?_; exact Below.drew (Below.refl _ _)) | (refine HS.out _ ?_; exact below_drewN (Below.refl _ _) _))
      (first | (go_at_call 25; (with_reducible refine (HF.out _ ?_).mono ?_); (focus (go_split_ands; exact HW.out _ (by assumption))); rintro e w1 ⟨rfl, hb1⟩) | (go_at_call 25; (with_reducible refine (HT.out _ ?_).mono ?_); (focus (go_split_ands; exact HW.out _ (by assumption))); rintro e w1 ⟨rfl, hb1⟩) | (go_at_call 26; (refine (joined2_any _ _ _ _ _ (cell_new rfl rfl) (cell_new rfl rfl) (by decide) (by omega) (by omega)).mono ?_); rintro e w1 ⟨rfl, hb1⟩))
    have hbA : Below w.heap.size w w1 := HW.out _ (by go_split_ands; assumption)
    have c3 := HC3.out w1 (by go_split_ands; assumption)
    have hzA := hbA.size
    clear hb1
    simp only [Exit.inBlock, Exit.then]
    go_wp2_with fail
    · go_ret
      exact ⟨HE.out _ (by (simp only [beq_iff_eq, beq_eq_false_iff_ne, bne_iff_ne, bne_eq_false_iff_eq, ne_eq] at *); (repeat' split) <;> first | (exfalso; omega) | simp [str_app, DF.out, DT.out, DS.out]), hbA⟩
    · refine (HSt.out _ hbA).mono ?_
      rintro e w2 ⟨rfl, hb2⟩
      have hbB := bthen hbA hb2 hzA
      have hzB := hbB.size
      go_wp2_with fail
      refine (joined2_any _ _ _ _ _ (cell_new rfl rfl) (cell_new rfl rfl) (by decide) (by rw [ByteArray.size_append, ByteArray.size_append]; have : (⟨#[45]⟩ : ByteArray).size = 1 := rfl; omega) (by omega)).mono ?_
      rintro e w3 ⟨rfl, hb3⟩
      have hb4 : Below w.heap.size w w3 := (hbB.alloc hzB _).trans (hb3.mono (by simp; omega))
      go_wp2
      go_ret
      exact ⟨HE.out _ (by (simp only [beq_iff_eq, beq_eq_false_iff_ne, bne_iff_ne, bne_eq_false_iff_eq, ne_eq] at *); (repeat' split) <;> first | (exfalso; omega) | simp [str_app, DF.out, DT.out, DS.out]), hb4⟩
  · go_ret
    exact ⟨HE.out _ (by (simp only [beq_iff_eq, beq_eq_false_iff_ne, bne_iff_ne, bne_eq_false_iff_eq, ne_eq] at *); (repeat' split) <;> first | (exfalso; omega) | simp [str_app, DF.out, DT.out, DS.out]), by (repeat' (first | (with_reducible exact Below.refl _ _) | (with_reducible assumption) | (with_reducible refine below_drewN ?_ _) | (with_reducible refine Below.alloc ?_ ?_ _) | (with_reducible refine Below.drew ?_) | (with_reducible refine Below.setCell ?_ ?_ _) | go_size))⟩
end Go.Proofs.YtgliminiiciflaaDoor
