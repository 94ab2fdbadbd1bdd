/- The laws of layer 12: lives, ItemMay. -/
import Derived.Test.YtochhmkdhdadhaaGreatDoorWVal2
import Derived.Test.YtochhmkdhdadhaaGreatDoorWItemOf
import Derived.Test.YtochhmkdhdadhaaGreatDoorWCron
import Derived.Test.YtochhmkdhdadhaaGreatDoorWRef12
import Derived.Deep.RegionHeld3
namespace Go.Proofs.YtochhmkdhdadhaaGreatDoor
open Go.RowKit
set_option linter.unusedSimpArgs false
set_option linter.unusedVariables false

theorem imask_any (lo hi : Int) (A : Option Addr) (n c : Nat) (l : List It) (w : World) (hA : RdIts w A n l) (hn : n ≤ 100000) :
    Calls Tryz.prog 22 #[.int .i64 lo, .int .i64 hi, .slice A n c] w (Ret (.int .u64 (maskL (refVal l lo hi))) w) := by
  have HV := Lib.hid (values_any lo hi A n c l w hA hn)
  have hlen : (valL lo hi l).length ≤ 1000000000 := by
    have h1 := rawL_len lo hi l
    have h2 := compact_len ((rawL lo hi l).mergeSort fun x y => decide (x ≤ y))
    rw [sortL_len] at h2
    have h3 : l.length = n := hA.1
    unfold valL
    omega
  rw [← val_eq]
  generalize valL lo hi l = V at *
  clear hA
  go_enter Tryz.func22, Tryz.ntmps22
  go_wp2_with fail
  refine HV.out.mono ?_
  rintro e w1 ⟨v, rfl, hown, hb⟩
  obtain ⟨A', c', rfl, _, _, hrd, _⟩ := OwnInts.rd hown
  have HM := Lib.hid (maskOf_any A' V.length c' V w1 hrd (by omega))
  clear hown hrd
  go_wp2_with fail
  refine HM.out.mono ?_
  rintro e w2 ⟨rfl, rfl⟩
  go_wp2
  go_ret
  exact ⟨rfl, hb⟩

theorem livesOf : itemsOf 0 59 [0, 30] true = [⟨1, 0, 0, 0⟩, ⟨1, 30, 0, 0⟩] := by decide +kernel
theorem livesMask : maskL (refVal [⟨0, 0, 0, 15⟩] 0 59) = 35185445863425 := by decide +kernel

end Go.Proofs.YtochhmkdhdadhaaGreatDoor
