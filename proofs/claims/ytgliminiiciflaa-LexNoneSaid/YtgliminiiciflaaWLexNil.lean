/- The walks of a reader that is not there. -/
import Derived.Test.YtgliminiiciflaaWLex5
namespace Go.Proofs.Ytgliminiiciflaa
open Go.RowKit
set_option linter.unusedSimpArgs false
set_option linter.unusedVariables false

theorem is_nil (v : Value) (w : World) : Calls Try.prog 21 #[.pointer none, v] w (RetN (.bool false) w) := by
  have HD := Lib.hid (fun q => done_nil (w.drewN q))
  go_enter Try.func21, Try.ntmps21
  go_wp2
  go_quiet ((go_at_call 16; exact quietN (HD.out _)))
  go_wp2
  go_ret
  exact ⟨rfl, _, rfl⟩
theorem must_nil (v : Value) (w : World) : Calls Try.prog 36 #[.pointer none, v] w (RetN (.int .u8 0) w) := by
  go_enter Try.func36, Try.ntmps36
  go_wp2_with fail
  refine (peek_nil _).mono ?_
  rintro x w1 ⟨rfl, q, rfl⟩
  go_wp2_with fail
  refine (is_nil _ _).mono ?_
  rintro x w1 ⟨rfl, q, rfl⟩
  go_wp2_with fail
  refine (lacks_nil _).mono ?_
  rintro x w1 ⟨rfl, rfl⟩
  go_wp2
  go_ret
  exact ⟨rfl, _, rfl⟩
theorem text_nil (v : ByteArray) (w : World) : Calls Try.prog 37 #[.pointer none, .string v] w (RetN (.bool false) w) := by
  have HD := Lib.hid (fun q => done_nil (w.drewN q))
  go_enter Try.func37, Try.ntmps37
  go_wp2
  go_quiet ((go_at_call 16; exact quietN (HD.out _)))
  go_wp2
  go_ret
  exact ⟨rfl, _, rfl⟩
theorem blanks_nil (w : World) : Calls Try.prog 19 #[.pointer none] w (RetN (.int .i64 0) w) := by
  go_enter Try.func19, Try.ntmps19
  go_wp2_with fail
  refine (some_nil _ _).mono ?_
  rintro x w1 ⟨rfl, q, rfl⟩
  go_wp2
  go_ret
  exact ⟨rfl, _, rfl⟩
theorem word_nil (w : World) : Calls Try.prog 17 #[.pointer none] w (RetN (.string ⟨#[]⟩) w) := by
  go_enter Try.func17, Try.ntmps17
  go_wp2_with fail
  refine (some_nil _ _).mono ?_
  rintro x w1 ⟨rfl, q, rfl⟩
  go_wp2
  go_ret
  exact ⟨rfl, _, rfl⟩
end Go.Proofs.Ytgliminiiciflaa
