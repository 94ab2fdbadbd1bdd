/- The walks of package cron, on: the fields of a line, and whether two are the same. -/
import Derived.Test.YtnelecjjbmjhaaaGreatDoorWCron
import Derived.Test.YtnelecjjbmjhaaaGreatDoorWClone
import Derived.Test.YtnelecjjbmjhaaaGreatDoorWRef24
namespace Go.Proofs.YtnelecjjbmjhaaaGreatDoor
open Go.RowKit
set_option linter.unusedSimpArgs false
set_option linter.unusedVariables false

def eitherB (l : Nat → List It) : Bool := !starB (l 2) && !starB (l 4)
set_option maxHeartbeats 400000 in
theorem equal_any (A B : Option Addr) (n m c d : Nat) (l r : List It) (w : World) (hA : RdIts w A n l) (hB : RdIts w B m r) (hn : n ≤ 9223372036854775807) (hm : m ≤ 9223372036854775807) :
    Calls Tryz.prog 61 #[.slice A n c, .slice B m d] w (RetN (.bool (sameIts l r)) w) := by
  by_cases hnm : n = m
  · have HL : Hid (l.length = n) := hA.1
    have HR : Hid (r.length = n) := hnm ▸ hB.1
    subst hnm
    go_enter Tryz.func61, Tryz.ntmps61
    go_wp2
    go_loopw [13] (fun i wr => ∃ k j : Nat, k ≤ n ∧ i = .int .i64 k ∧ Hid (l.take k = r.take k) ∧ wr = w.drewN j) (fun i _ => n - (intOf i).toNat)
    case atStart => exact ⟨0, 0, Nat.zero_le _, rfl, by simp [Hid], rfl⟩
    case round =>
      obtain ⟨k, j, hk, rfl, htk, rfl⟩ := hrel
      by_cases hlt : k < n
      · obtain ⟨b, o, it, rfl, _, hi, c0, c1, c2, c3⟩ := RdIts.at_ hA hlt
        obtain ⟨b', o', it', rfl, _, hi', c0', c1', c2', c3'⟩ := RdIts.at_ hB hlt
        have Hi := Lib.hid hi
        have Hi' := Lib.hid hi'
        have hlt' : (k : Int) < (n : Int) := by omega
        have hne := neq_it it it'
        clear hi hi'
        go_wp2
        go_quiet (fail)
        go_wp2
        · go_ret
          have h : itNe it it' = true := by assumption
          exact ⟨ret_bool (sameIts_ne Hi.out Hi'.out (itNe_true h)).symm, _, World.drewN_drewN ..⟩
        · have h : itNe it it' = false := by assumption
          go_roundw
          case rel => exact ⟨k + 1, _, by omega, by go_num, take_same htk.out Hi.out Hi'.out (itNe_false h), rfl⟩
          case measure => simp [intOf]; omega
      · obtain rfl : k = n := by omega
        go_wp2
        go_ret
        refine ⟨ret_bool ?_, _, rfl⟩
        have h1 : l = r := by
          have := htk.out
          rwa [List.take_of_length_le (by have := HL.out; omega), List.take_of_length_le (by have := HR.out; omega)] at this
        simp [sameIts, h1]
  · have hne : ((n : Int) == (m : Int)) = false := by simp; omega
    have hne2 : ((n : Int) != (m : Int)) = true := by simp; omega
    have HS : Hid (sameIts l r = false) := sameIts_len (by rw [hA.1, hB.1]; exact hnm)
    go_enter Tryz.func61, Tryz.ntmps61
    go_wp2
    go_ret
    exact ⟨ret_bool HS.out.symm, 0, rfl⟩

/-- Are two lines the same? -/
def sameLine (l r : Nat → List It) : Bool := (List.range 5).all fun k => sameIts (l k) (r k)
theorem sameLine_no {l r : Nat → List It} {k : Nat} (hk : k < 5) (h : sameIts (l k) (r k) = false) : sameLine l r = false := by
  rw [sameLine, List.all_eq_false]
  exact ⟨k, List.mem_range.2 hk, by simp [h]⟩
theorem sameLine_yes {l r : Nat → List It} (H : ∀ k, k < 5 → sameIts (l k) (r k) = true) : sameLine l r = true := by
  rw [sameLine, List.all_eq_true]
  exact fun k hk => H k (List.mem_range.1 hk)
theorem sameLine_self (l : Nat → List It) : sameLine l l = true := sameLine_yes fun k _ => by simp [sameIts]

end Go.Proofs.YtnelecjjbmjhaaaGreatDoor
