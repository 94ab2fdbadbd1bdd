/- The walks of the two texts of an item. -/
import Derived.Test.YtgliminiiciflaaDoorWShow
import Derived.Test.YtgliminiiciflaaDoorWReg
import Derived.Test.YtgliminiiciflaaDoorRText
namespace Go.Proofs.YtgliminiiciflaaDoor
open Go.RowKit
set_option linter.unusedSimpArgs false
set_option linter.unusedVariables false

theorem itemT_len {i : It} (h : i.wf) : (itemT i).length ≤ 100 := by
  obtain ⟨_, h1, h2, h3⟩ := h
  have l1 := Lib.itoa_length_le i.f h1.1 h1.2
  have l2 := Lib.itoa_length_le i.t h2.1 h2.2
  have l3 := Lib.itoa_length_le i.s h3.1 h3.2
  unfold itemT stT
  split
  · split <;> simp <;> omega
  · split
    · omega
    · split
      · split <;> simp <;> omega
      · simp
theorem num_any (n : Int) (h : In64 n) (w : World) : Calls Tryd.prog 27 #[.int .i64 n] w (Ret (.string (strB (Lib.itoa n))) w) := rnumber_any n h w
theorem itoa_size {n : Int} (h : In64 n) : (strB (Lib.itoa n)).size ≤ 21 := by rw [strB_size]; exact itoa_le h

set_option maxRecDepth 20000 in
set_option maxHeartbeats 400000 in
theorem ritem_any (i : It) (h : i.wf) (w : World) : Calls Tryd.prog 12 #[.agg #[.int .i64 i.k, .int .i64 i.f, .int .i64 i.t, .int .i64 i.s]] w (Ret (.string (strB (itemT i))) w) := by
  obtain ⟨hk, hf, ht, hs⟩ := h
  have HF := Lib.hid (fun W => num_any i.f hf W)
  have HT := Lib.hid (fun W => num_any i.t ht W)
  have HS := Lib.hid (fun W => num_any i.s hs W)
  have zf := itoa_size hf
  have zt := itoa_size ht
  have zs := itoa_size hs
  clear hk hf ht hs
  have df := strB_data (Lib.itoa i.f)
  have dt := strB_data (Lib.itoa i.t)
  have ds := strB_data (Lib.itoa i.s)
  obtain ⟨Sf, hSf⟩ : ∃ S, S = strB (Lib.itoa i.f) := ⟨_, rfl⟩
  obtain ⟨St, hSt⟩ : ∃ S, S = strB (Lib.itoa i.t) := ⟨_, rfl⟩
  obtain ⟨Ss, hSs⟩ : ∃ S, S = strB (Lib.itoa i.s) := ⟨_, rfl⟩
  rw [← hSf] at HF zf df
  rw [← hSt] at HT zt dt
  rw [← hSs] at HS zs ds
  have DF := Lib.hid df
  have DT := Lib.hid dt
  have DS := Lib.hid ds
  clear hSf hSt hSs df dt ds
  have HE : Hid (∀ S : ByteArray, S.data.toList = itemT i → Ending.returned (.string S) = .returned (.string (strB (itemT i)))) := fun S h => ret_str h
  unfold itemT stT at HE
  go_enter Tryd.func12, Tryd.ntmps12
  go_wp2_with fail
  · refine (HF.out _).mono ?_
    rintro e w1 ⟨rfl, hb1⟩
    have hb2 : Below w.heap.size w w1 := ((Below.refl _ w).alloc (Nat.le_refl _) _).trans (hb1.mono (by simp))
    go_wp2
    go_ret
    exact ⟨HE.out _ (by (simp only [beq_iff_eq, beq_eq_false_iff_ne, bne_iff_ne, bne_eq_false_iff_eq, ne_eq] at *); (repeat' split) <;> first | (exfalso; omega) | simp [str_app, DF.out, DT.out, DS.out]), hb2⟩
  · generalize hW : World.alloc w _ = W1
    have hb0 : Below w.heap.size w W1 := by rw [← hW]; exact (Below.refl _ w).alloc (Nat.le_refl _) _
    have c0 : ∀ x : Ext W1, x.W.cell? ⟨w.heap.size, 0, none⟩ = some (.int .i64 i.k) := fun x => x.cell (by subst hW; simp [go_sem])
    have c1 : ∀ x : Ext W1, x.W.cell? ⟨w.heap.size, 1, none⟩ = some (.int .i64 i.f) := fun x => x.cell (by subst hW; simp [go_sem])
    have c2 : ∀ x : Ext W1, x.W.cell? ⟨w.heap.size, 2, none⟩ = some (.int .i64 i.t) := fun x => x.cell (by subst hW; simp [go_sem])
    have c3 : ∀ x : Ext W1, x.W.cell? ⟨w.heap.size, 3, none⟩ = some (.int .i64 i.s) := fun x => x.cell (by subst hW; simp [go_sem])
    have hk2 : i.k = 2 := by simp_all
    have g1 : ¬ i.k < 0 := by omega
    have g2 : ¬ 2 < i.k := by omega
    clear hW hk2
    refine wp_region_grew (by kernel_rfl) (by kernel_rfl) ?_
    repeat (first | go_big_quiet_skip | (go_big_quiet_want; go_big_quiet_op; (first | go_big_quiet_on | go_big_quiet_call ((first | (with_reducible exact ext_call _ (HF.out _)) | (with_reducible exact ext_call _ (HT.out _)))))))
    refine wpQuiet_nil ?_
    rintro _ ⟨xw, rfl⟩
    have hb1 := bthen hb0 xw.h hb0.size
    go_wp2_with fail
    · refine (HS.out _).mono ?_
      rintro e w1 ⟨rfl, hb2⟩
      have hb3 := bthen hb1 hb2 hb1.size
      go_wp2
      go_ret
      exact ⟨HE.out _ (by (simp only [beq_iff_eq, beq_eq_false_iff_ne, bne_iff_ne, bne_eq_false_iff_eq, ne_eq] at *); (repeat' split) <;> first | (exfalso; omega) | simp [str_app, DF.out, DT.out, DS.out]), hb3⟩
    · go_ret
      exact ⟨HE.out _ (by (simp only [beq_iff_eq, beq_eq_false_iff_ne, bne_iff_ne, bne_eq_false_iff_eq, ne_eq] at *); (repeat' split) <;> first | (exfalso; omega) | simp [str_app, DF.out, DT.out, DS.out]), hb1⟩
  · go_ret
    exact ⟨HE.out _ (by (simp only [beq_iff_eq, beq_eq_false_iff_ne, bne_iff_ne, bne_eq_false_iff_eq, ne_eq] at *); (repeat' split) <;> first | (exfalso; omega) | simp [str_app, DF.out, DT.out, DS.out]), by (repeat' (first | (with_reducible exact Below.refl _ _) | (with_reducible assumption) | (with_reducible refine below_drewN ?_ _) | (with_reducible refine Below.alloc ?_ ?_ _) | (with_reducible refine Below.drew ?_) | (with_reducible refine Below.setCell ?_ ?_ _) | go_size))⟩
  · refine (HS.out _).mono ?_
    rintro e w1 ⟨rfl, hb1⟩
    have hb2 : Below w.heap.size w w1 := ((Below.refl _ w).alloc (Nat.le_refl _) _).trans (hb1.mono (by simp))
    go_wp2
    go_ret
    exact ⟨HE.out _ (by (simp only [beq_iff_eq, beq_eq_false_iff_ne, bne_iff_ne, bne_eq_false_iff_eq, ne_eq] at *); (repeat' split) <;> first | (exfalso; omega) | simp [str_app, DF.out, DT.out, DS.out]), hb2⟩
  · go_ret
    exact ⟨HE.out _ (by (simp only [beq_iff_eq, beq_eq_false_iff_ne, bne_iff_ne, bne_eq_false_iff_eq, ne_eq] at *); (repeat' split) <;> first | (exfalso; omega) | simp [str_app, DF.out, DT.out, DS.out]), by (repeat' (first | (with_reducible exact Below.refl _ _) | (with_reducible assumption) | (with_reducible refine below_drewN ?_ _) | (with_reducible refine Below.alloc ?_ ?_ _) | (with_reducible refine Below.drew ?_) | (with_reducible refine Below.setCell ?_ ?_ _) | go_size))⟩
  · go_ret
    exact ⟨HE.out _ (by (simp only [beq_iff_eq, beq_eq_false_iff_ne, bne_iff_ne, bne_eq_false_iff_eq, ne_eq] at *); (repeat' split) <;> first | (exfalso; omega) | simp [str_app, DF.out, DT.out, DS.out]), by (repeat' (first | (with_reducible exact Below.refl _ _) | (with_reducible assumption) | (with_reducible refine below_drewN ?_ _) | (with_reducible refine Below.alloc ?_ ?_ _) | (with_reducible refine Below.drew ?_) | (with_reducible refine Below.setCell ?_ ?_ _) | go_size))⟩
end Go.Proofs.YtgliminiiciflaaDoor
