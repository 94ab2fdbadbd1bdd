/- The walk of the law CalreadMay. -/
import Derived.Test.YtochhmkdhdadhaaGreatWCalQ
import Derived.Test.YtochhmkdhdadhaaGreatWCalS
namespace Go.Proofs.YtochhmkdhdadhaaGreat
open Go.RowKit
set_option linter.unusedSimpArgs false
set_option linter.unusedVariables false

/-- What Read hands back, in words of an event's lists. -/
def RetEv (s : ByteArray) (w : World) (e : Ending) (w' : World) : Prop :=
  Below w.heap.size w w' ∧ ∃ A n m, e = .returned (.tuple #[evV A n m (kcal (kread s.data.toList)).back, .int .i64 (kplace s.size (kread s.data.toList)), .int .i64 (kerr (kread s.data.toList))]) ∧ RdEv w' A n (kcal (kread s.data.toList)) ∧ ∀ j, j < 8 → j ≠ 4 → n j ≤ 400
theorem kcal_len (l : List UInt8) : ∀ j, j < 8 → j ≠ 4 → (calL (kcal (kread l)) j).length ≤ 400 := by
  intro j hj h4
  cases h : kread l with
  | ok c => exact kchk_len (kread_ok h) j hj h4
  | error p =>
    show (calL calNil j).length ≤ 400
    have e : calL calNil j = [] := by rcases j with _ | _ | _ | _ | _ | _ | _ | _ | j <;> first | rfl | omega
    rw [e]; exact Nat.zero_le _
theorem calread_ev (s : ByteArray) (hs : s.size ≤ 1000000) (w : World) (hm : MaxAt w) : Calls Tryz.prog 15 #[.string s] w (RetEv s w) := by
  refine (calread_any s hs w hm).mono ?_
  rintro e w' ⟨g, D, rfl, hr, hb⟩
  obtain ⟨A, n, m, hv, hL⟩ := calRd_cells hr
  have hR : RdEv w' A n (kcal (kread s.data.toList)) := fun j hj h4 => by
    obtain ⟨A', n', c', e, h1, _⟩ := hL j hj h4
    injection e with e1 e2 e3
    subst e1; subst e2
    exact h1
  exact ⟨hb, A, n, m, by rw [hv]; rfl, hR, fun j hj h4 => by rw [← (hR j hj h4).1]; exact kcal_len _ j hj h4⟩
def ex29a : List UInt8 := [77,111,110,46,46,70,114,105,32,57,58,51,48]
def ex29b : List UInt8 := [49,50,58,48,48,32,85,84,67]
theorem ex29a_read : kread ex29a = .ok ⟨[⟨2, 1, 5, 1⟩], [⟨0, 0, 0, 1⟩], [⟨0, 0, 0, 1⟩], [⟨0, 0, 0, 1⟩], false, [⟨1, 9, 0, 0⟩], [⟨1, 30, 0, 0⟩], [⟨1, 0, 0, 0⟩]⟩ := by kernel_rfl
theorem ex29b_read : kread ex29b = .error (6, 7) := by kernel_rfl
theorem one_it {w : World} {A : Option Addr} {n : Nat} {i : It} (h : RdIts w A n [i]) : n = 1 ∧ ∃ B o, A = some ⟨B, o, none⟩ ∧ B < w.heap.size ∧ w.cell? ⟨B, o, none⟩ = some (.int .i64 i.k) ∧ w.cell? ⟨B, o + 1, none⟩ = some (.int .i64 i.f) ∧ w.cell? ⟨B, o + 2, none⟩ = some (.int .i64 i.t) ∧ w.cell? ⟨B, o + 3, none⟩ = some (.int .i64 i.s) := by
  have hn : n = 1 := h.1.symm
  subst hn
  obtain ⟨B, o, it, hA, hbl, hx, d0, d1, d2, d3⟩ := RdIts.at_ h (i := 0) Nat.one_pos
  obtain rfl : it = i := by simpa using hx.symm
  simp only [Nat.zero_mul, Nat.add_zero] at d0 d1 d2 d3
  exact ⟨rfl, B, o, hA, hbl, d0, d1, d2, d3⟩
theorem rdEv_nil (w : World) : RdEv w (fun _ => none) (fun _ => 0) calNil := fun j hj h4 => by
  have e : calL calNil j = [] := by rcases j with _ | _ | _ | _ | _ | _ | _ | _ | j <;> first | rfl | omega
  rw [e]; exact Rd.nil
end Go.Proofs.YtochhmkdhdadhaaGreat
