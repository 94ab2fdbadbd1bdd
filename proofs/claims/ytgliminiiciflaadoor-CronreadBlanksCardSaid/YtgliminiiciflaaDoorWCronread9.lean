/- What Read hands back, as a line. -/
import Derived.Test.YtgliminiiciflaaDoorWCronread8
import Derived.Test.YtgliminiiciflaaDoorRLives
namespace Go.Proofs.YtgliminiiciflaaDoor
open Go.RowKit
set_option linter.unusedSimpArgs false
set_option linter.unusedVariables false

/-- What Read hands back: a line that reads as F, or what is wrong. -/
def RetLine (s : ByteArray) (w : World) (x : Ending) (w' : World) : Prop :=
  Below w.heap.size w w' ∧ ((∃ (F : Nat → List It) (A : Nat → Option Addr) (n c : Nat → Nat), outR s = .ok ((List.range 5).map F) ∧ x = .returned (.tuple #[crV A n c, .int .i64 (s.size : Int), .int .i64 0]) ∧
      RdLine w' A n F ∧ (∀ k, n k ≤ 64 ∧ n k ≤ c k ∧ c k ≤ maxLen) ∧ (∀ k, A k = none → n k = 0) ∧ (∀ k, 5 ≤ k → F k = []) ∧ ∀ k, k < 5 → faultI k (F k) = 0) ∨
    ∃ a e, outR s = .error (a, e) ∧ e ≠ 0 ∧ 0 ≤ a ∧ a ≤ s.size ∧ x = .returned (.tuple #[crV (fun _ => none) (fun _ => 0) (fun _ => 0), .int .i64 a, .int .i64 e]))
theorem read_line (s : ByteArray) (hs : s.size ≤ 1000000) (w : World) : Calls Tryd.prog 20 #[.string s] w (RetLine s w) := by
  refine (read_any s hs w).mono ?_
  rintro x w' ⟨hb, ⟨F, A, n, c, hO, rfl, hown⟩ | ⟨a, e, hO, he, rfl⟩⟩
  · have hmay := outR_may hO
    have hlen : ∀ k, k < 5 → (F k).length ≤ 64 := fun k hk => (fault_parts (hmay k hk)).2.1
    have hk : ∀ k, k < 5 → n k = (F k).length ∧ n k ≤ c k ∧ c k ≤ maxLen ∧ RdIts w' (A k) (n k) (F k) := by
      intro k hk
      obtain ⟨A', c', he, h1, h2, h3, _⟩ := Rd.of_own (enc := itEnc) itEnc_len (hown k hk) rfl
      unfold slAt at he
      injection he with e1 e2 e3
      rw [e1, e2, e3]
      exact ⟨rfl, h1, h2, h3⟩
    refine ⟨hb, .inl ⟨fun k => if k < 5 then F k else [], fun k => if k < 5 then A k else none, fun k => if k < 5 then n k else 0, fun k => if k < 5 then c k else 0, ?_, rfl, ?_, ?_, ?_, ?_, ?_⟩⟩
    · rw [hO]; rfl
    · intro k h5
      dsimp only
      rw [if_pos h5, if_pos h5, if_pos h5]
      exact (hk k h5).2.2.2
    · intro k
      dsimp only
      by_cases h5 : k < 5
      · have h1 := hk k h5
        have h2 := hlen k h5
        rw [if_pos h5, if_pos h5]
        exact ⟨by omega, h1.2.1, h1.2.2.1⟩
      · rw [if_neg h5, if_neg h5]
        exact ⟨by omega, by omega, Nat.zero_le _⟩
    · intro k
      dsimp only
      by_cases h5 : k < 5
      · rw [if_pos h5, if_pos h5]
        intro hA
        have h1 := (hk k h5).2.2.2
        rcases Nat.eq_zero_or_pos (n k) with h0 | h0
        · exact h0
        · obtain ⟨b, o, hb, _⟩ := h1.2 h0
          rw [hA] at hb; cases hb
      · rw [if_neg h5, if_neg h5]; intro; rfl
    · intro k h5; exact if_neg (by omega)
    · intro k h5
      dsimp only
      rw [if_pos h5]; exact hmay k h5
  · have := outR_place hO
    exact ⟨hb, .inr ⟨a, e, hO, he, this.1, this.2.1, rfl⟩⟩
theorem rd_nil (w : World) : RdLine w (fun _ => none) (fun _ => 0) (fun _ => []) := fun k _ => Rd.nil
end Go.Proofs.YtgliminiiciflaaDoor
