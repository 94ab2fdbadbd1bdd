/- The walks of package calread's reader: parts of a second, words, weekdays. -/
import Derived.Test.YtnelecjjbmjhaaaGreatDoorWCalB
import Derived.Lib.IndexMore
namespace Go.Proofs.YtnelecjjbmjhaaaGreatDoor
open Go.RowKit
set_option linter.unusedSimpArgs false
set_option linter.unusedVariables false

/-- The text that is left, as a string. -/
theorem left_data {s : ByteArray} {k : Nat} : (s.extract k s.size).data.toList = s.data.toList.drop k := by
  rw [extract_list, ← len_data, ← List.length_drop, List.take_length]
/-- The library's variable. -/
def MaxAt (w : World) : Prop := ∃ m : Int, w.cell? ⟨1, 0, none⟩ = some (.int .i64 m)
theorem MaxAt.below {w w' : World} (h : MaxAt w) (hb : Below w.heap.size w w') : MaxAt w' := by
  obtain ⟨m, hm⟩ := h
  exact ⟨m, (hb.cell (p := ⟨_, 0, none⟩) (World.block_lt_of_cell? w _ hm)).trans hm⟩
theorem MaxAt.chg {w w' : World} {b : Nat} {s : ByteArray} {σ : PS} (h : MaxAt w) (hr : RdP w b s σ) (hg : Chg b w w') : MaxAt w' := by
  obtain ⟨m, hm⟩ := h
  obtain ⟨k, _, _, hk⟩ := hr
  have hne : 1 ≠ b := by
    rintro rfl
    rw [hk.cells.1] at hm; cases hm
  exact ⟨m, hg.cell hne hm⟩
theorem index_blank (l : List UInt8) : (Lib.cut l [32]).1 = l.takeWhile (fun c => decide (c ≠ 32)) := by
  have hi : ∀ l : List UInt8, (Lib.index l [32] = -1 ∧ l.takeWhile (fun c => decide (c ≠ 32)) = l) ∨ (0 ≤ Lib.index l [32] ∧ l.take (Lib.index l [32]).toNat = l.takeWhile (fun c => decide (c ≠ 32))) := by
    intro l
    induction l with
    | nil => left; exact ⟨rfl, rfl⟩
    | cons c l ih =>
      unfold Lib.index
      by_cases hc : c = 32
      · subst hc
        right
        rw [if_pos (by simp [List.isPrefixOf])]
        exact ⟨by decide, by simp [List.takeWhile_cons]⟩
      · have hp : ([32] : List UInt8).isPrefixOf (c :: l) = false := by
          simp [List.isPrefixOf]; exact fun e => hc e.symm
        rw [hp, if_neg (by decide)]
        have ht : (c :: l).takeWhile (fun c => decide (c ≠ 32)) = c :: l.takeWhile (fun c => decide (c ≠ 32)) := by
          rw [List.takeWhile_cons, if_pos (by simpa using hc)]
        rw [ht]
        rcases ih with ⟨h1, h2⟩ | ⟨h1, h2⟩
        · left; rw [h1, h2]; exact ⟨by simp, rfl⟩
        · right
          rw [if_neg (by simp; omega)]
          refine ⟨by omega, ?_⟩
          rw [show (Lib.index l [32] + 1).toNat = (Lib.index l [32]).toNat + 1 from by omega, List.take_succ_cons, h2]
  unfold Lib.cut
  rcases hi l with ⟨h1, h2⟩ | ⟨h1, h2⟩
  · rw [if_neg (by omega), h2]
  · rw [if_pos h1, h2]
section
variable {w : World} {b : Nat} {s : ByteArray} {σ : PS} (hs : s.size ≤ 1000000)
include hs
set_option maxRecDepth 20000 in
set_option maxHeartbeats 1000000 in
theorem word_ks (h : RdP w b s σ) (hm : MaxAt w) : Calls Tryz.prog 111 #[kV b s] w (RetP (.string (strB (wordP σ))) b s σ w) := by
  have hs9 : s.size ≤ 9223372036854775807 := by omega
  have hlt := h.lt
  have hne : ¬ w.heap.size = b := by omega
  have H := Lib.hid h
  have HD := Lib.hid (fun W (h : RdP W b s σ) => done_pp h)
  cases hd : doneP σ with
  | true =>
    have HW : Hid (wordP σ = []) := by
      show _ = _
      unfold wordP
      unfold doneP at hd
      have := of_decide_eq_true hd
      split
      · rcases this with h | h
        · exact absurd (by assumption) h
        · rw [h]; rfl
      · rfl
    rw [hd] at HD
    clear h hd hm
    go_enter Tryz.func111, Tryz.ntmps111
    go_wp2_with fail
    refine (HD.out _ (H.out.alloc _)).mono ?_
    rintro e w1 ⟨rfl, h1, g1⟩
    go_wp2
    go_ret
    exact ⟨by rw [HW.out]; rfl, h1, ((Chg.refl b w).alloc _).trans g1⟩
  | false =>
    rw [hd] at HD
    have he : σ.e = 0 := by
      unfold doneP at hd
      have := of_decide_eq_false hd
      rcases Decidable.em (σ.e = 0) with h | h
      · exact h
      · exact absurd (.inl h) this
    obtain ⟨k, hk, hl, hr⟩ := h
    have hat := atP_eq hk hl
    have HA := Lib.hid (fun W (h : RdP W b s σ) => at_ps h)
    rw [hat] at HA
    have hk' : (k : Int) ≤ (s.size : Int) := by omega
    have HW : Hid ((Lib.cut (s.extract k s.size).data.toList [32]).1 = wordP σ) := by
      show _ = _
      rw [left_data, ← hl, index_blank]; unfold wordP; rw [if_pos he]
    obtain ⟨v2, v3, hC⟩ : ∃ (v2 : ByteArray) (v3 : Bool), ∀ W, MaxAt W → Calls Tryz.prog 152 #[.string (s.extract k s.size), .string ⟨#[32]⟩] W (RetN (.tuple #[.string (strB (wordP σ)), .string v2, .bool v3]) W) := by
      refine ⟨strB (Lib.cut (s.extract k s.size).data.toList [32]).2.1, (Lib.cut (s.extract k s.size).data.toList [32]).2.2, fun W hW => ?_⟩
      obtain ⟨m, hm⟩ := hW
      refine (Tryz.strings_Cut (s.extract k s.size) ⟨#[32]⟩ m W (by simp; omega) hm).mono ?_
      rintro e w' ⟨rfl, n, rfl⟩
      exact ⟨by rw [← HW.out]; rfl, n, rfl⟩
    have HC := Lib.hid hC
    have HM : Hid (∀ W, Chg b (w.alloc (.cells #[.pointer (some ⟨b, 0, none⟩), .string s] 95)) W → MaxAt W) := fun W hW =>
      (hm.below ((Below.refl _ w).alloc (Nat.le_refl _) _)).chg (H.out.alloc _) hW
    clear hC hd hr hl hm HW he
    go_enter Tryz.func111, Tryz.ntmps111
    go_wp2_with fail
    refine (HD.out _ (H.out.alloc _)).mono ?_
    rintro e w1 ⟨rfl, h1, g1⟩
    obtain ⟨hc1, hf1⟩ := gcell g1
    have hm1 := Lib.hid (HM.out _ g1)
    go_wp2
    go_quiet ((first | (go_at_call 36; exact quietQ (HA.out _ (by exact h1.drewN _))) | (go_at_call 152; exact quietN (HC.out _ (by exact hm1.out)))))
    go_wp2
    go_ret
    exact ⟨rfl, h1.drewN _, (((Chg.refl b w).alloc _).trans g1).drewN _⟩
end
end Go.Proofs.YtnelecjjbmjhaaaGreatDoor
