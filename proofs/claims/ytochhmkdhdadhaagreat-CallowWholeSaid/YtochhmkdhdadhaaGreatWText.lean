/- The walk of a reader's Text. -/
import Derived.Test.YtochhmkdhdadhaaGreatWCalC
namespace Go.Proofs.YtochhmkdhdadhaaGreat
open Go.RowKit
set_option linter.unusedSimpArgs false
set_option linter.unusedVariables false

section
variable {w : World} {b : Nat} {s t : ByteArray} {σ : PS} (hs : s.size ≤ 1000000) (ht : t.size ≤ 1000000)
include hs ht
set_option maxRecDepth 20000 in
set_option maxHeartbeats 1000000 in
theorem text_ps (h : RdP w b s σ) : Calls Tryz.prog 111 #[.pointer (some ⟨b, 0, none⟩), .string t] w (RetP (.bool (textP t.data.toList σ).2) b s (textP t.data.toList σ).1 w) := by
  have hs9 : s.size ≤ 9223372036854775807 := by omega
  have ht9 : t.size ≤ 9223372036854775807 := by omega
  have hlt := h.lt
  have H := Lib.hid h
  have HD := Lib.hid (fun W (h : RdP W b s σ) => done_ps h)
  have hemp : t.toList.isEmpty = decide (t.data.toList = []) := by
    rw [ByteArray.toList_eq]
    cases t.data.toList <;> rfl
  cases hd : doneP σ with
  | true =>
    have HE : Hid (textP t.data.toList σ = (σ, false)) := by
      show _ = _
      unfold textP
      rw [if_neg]
      rintro ⟨h1, h2, h3⟩
      unfold doneP at hd
      rcases of_decide_eq_true hd with h4 | h4
      · exact h4 h1
      · rw [h4] at h3; exact h2 (List.prefix_nil.1 h3)
    rw [hd] at HD
    generalize textP t.data.toList σ = R at *
    clear h hd hemp
    go_enter Tryz.func111, Tryz.ntmps111
    go_wp2
    go_quiet ((go_at_call 108; exact quietN (HD.out _ (by exact H.out.drewN _))))
    go_wp2
    go_ret
    exact ⟨by rw [HE.out]; rfl, by rw [HE.out]; exact H.out.drewN _, (Chg.refl _ _).drewN _⟩
  | false =>
    rw [hd] at HD
    have he : σ.e = 0 := by
      unfold doneP at hd
      have := of_decide_eq_false hd
      rcases Decidable.em (σ.e = 0) with h | h
      · exact h
      · exact absurd (.inl h) this
    by_cases h0 : t.data.toList = []
    · rw [decide_eq_true h0] at hemp
      have HE : Hid (textP t.data.toList σ = (σ, false)) := by
        show _ = _
        unfold textP
        rw [if_neg (fun x => x.2.1 h0)]
      generalize textP t.data.toList σ = R at *
      clear h hd h0 he
      go_enter Tryz.func111, Tryz.ntmps111
      go_wp2
      go_quiet ((go_at_call 108; exact quietN (HD.out _ (by exact H.out.drewN _))))
      go_wp2
      go_ret
      exact ⟨by rw [HE.out]; rfl, by rw [HE.out]; exact H.out.drewN _, (Chg.refl _ _).drewN _⟩
    · rw [decide_eq_false h0] at hemp
      obtain ⟨k, hk, hl, hr⟩ := h
      have hk' : (k : Int) ≤ (s.size : Int) := by omega
      have HQ := Lib.hid (fun W => hasPre_any (s.extract k s.size) t (by simp; omega) ht9 W)
      rw [left_data, ← hl] at HQ
      obtain ⟨c0, c1, c2, c3⟩ := hr.cells
      have f1 := hr.free 1
      cases hp : decide (t.data.toList <+: σ.l) with
      | false =>
        have HE : Hid (textP t.data.toList σ = (σ, false)) := by
          show _ = _
          unfold textP
          rw [if_neg (fun x => of_decide_eq_false hp x.2.2)]
        rw [hp] at HQ
        generalize textP t.data.toList σ = R at *
        clear hd h0 he hl hr hp
        go_enter Tryz.func111, Tryz.ntmps111
        go_wp2
        go_quiet ((first | (go_at_call 108; exact quietN (HD.out _ (by exact H.out.drewN _))) | (go_at_call 143; exact quietQ (HQ.out _))))
        go_wp2
        go_ret
        exact ⟨by rw [HE.out]; rfl, by rw [HE.out]; exact H.out.drewN _, (Chg.refl _ _).drewN _⟩
      | true =>
        have hp' := of_decide_eq_true hp
        have hle : k + t.size ≤ s.size := by
          have := hp'.length_le
          rw [hl, List.length_drop, len_data, len_data] at this
          have h1 : 0 < t.size := by rw [← len_data]; exact List.length_pos_iff.2 h0
          omega
        have HE : Hid (textP t.data.toList σ = (⟨s.data.toList.drop (k + t.size), σ.a, 0⟩, true)) := by
          show _ = _
          unfold textP
          rw [if_pos ⟨he, h0, hp'⟩, hl, List.drop_drop, len_data]
        have HR := Lib.hid hr
        rw [he] at HR
        rw [hp] at HQ
        generalize textP t.data.toList σ = R at *
        clear hd h0 he hl hr hp hp'
        go_enter Tryz.func111, Tryz.ntmps111
        go_wp2
        go_quiet ((first | (go_at_call 108; exact quietN (HD.out _ (by exact H.out.drewN _))) | (go_at_call 143; exact quietQ (HQ.out _))))
        go_wp2
        go_ret
        refine ⟨by rw [HE.out]; rfl, ?_, ((Chg.refl _ _).drewN _).set _ _⟩
        rw [HE.out]
        refine ⟨k + t.size, hle, rfl, ?_⟩
        have := (HR.out.drewN nq).setAt (k + t.size)
        rw [show ((k + t.size : Nat) : Int) = (k : Int) + (t.size : Int) from by omega] at this
        exact this
end
end Go.Proofs.YtochhmkdhdadhaaGreat
