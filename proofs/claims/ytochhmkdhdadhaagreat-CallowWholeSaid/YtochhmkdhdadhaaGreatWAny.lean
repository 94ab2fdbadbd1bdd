/- The walk of strings.ContainsAny at two signs that are no letters, for any text. -/
import Derived.Test.YtochhmkdhdadhaaGreatWAnyG
import Derived.Test.YtochhmkdhdadhaaGreatWCalC
import Derived.Test.YtochhmkdhdadhaaGreatRCalMay
namespace Go.Proofs.YtochhmkdhdadhaaGreat
open Go.RowKit
set_option linter.unusedSimpArgs false
set_option linter.unusedVariables false

theorem dashed_eq (l : List UInt8) : dashed l = decide (0 ≤ Lib.indexAny l [45, 126]) := by
  unfold dashed
  induction l with
  | nil => rfl
  | cons c l ih =>
    have hge := Lib.indexAny_ge [45, 126] l
    rw [List.any_cons, ih, Lib.indexAny]
    by_cases hc : c = 45 ∨ c = 126
    · rw [decide_eq_true hc, if_pos (by rcases hc with rfl | rfl <;> rfl)]; rfl
    · have hq : ([45, 126] : List UInt8).contains c = false := by
        cases hq : ([45, 126] : List UInt8).contains c with
        | false => rfl
        | true =>
          have := List.contains_iff_mem.1 hq
          simp at this
          exact absurd this hc
      rw [decide_eq_false hc, Bool.false_or, hq, if_neg (by decide), Bool.eq_iff_iff, decide_eq_true_eq, decide_eq_true_eq]
      by_cases h : Lib.indexAny l [45, 126] = -1
      · rw [if_pos (by rw [h]; rfl), h]
      · rw [if_neg (by simpa using h)]
        constructor <;> intro <;> omega
theorem cany_any (l : List UInt8) (w : World) (hl : l.length ≤ 1000000) : Calls Tryz.prog 78 #[.string (strB l), .string ⟨#[45, 126]⟩] w (Ret (.bool (dashed l)) w) := by
  have HI := Lib.hid (fun W => iany_any (strB l) ⟨#[45, 126]⟩ W (by rw [strB_size]; exact hl) rfl (by
    intro j hj
    have : j < 2 := hj
    obtain rfl | rfl : j = 0 ∨ j = 1 := by omega
    · show (45 : UInt8).toNat < 128
      decide
    · show (126 : UInt8).toNat < 128
      decide))
  rw [strB_data] at HI
  have hd := dashed_eq l
  have e2 : (⟨#[45, 126]⟩ : ByteArray).data.toList = [45, 126] := rfl
  rw [e2] at HI
  rw [hd]
  clear hd e2
  generalize Lib.indexAny l [45, 126] = q at *
  go_enter Tryz.func78, Tryz.ntmps78
  go_wp2_with fail
  refine (HI.out _).mono ?_
  rintro e w1 ⟨rfl, hb1⟩
  go_wp2
  go_ret
  exact ⟨rfl, hb1⟩
end Go.Proofs.YtochhmkdhdadhaaGreat
