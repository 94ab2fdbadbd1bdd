/- The laws CronChecks and CronFields: their walks. -/
import Derived.Test.YtgliminiiciflaaWSame24
namespace Go.Proofs.Ytgliminiiciflaa
open Go.RowKit
set_option linter.unusedSimpArgs false
set_option linter.unusedVariables false

/-- The example's line: which list each field has. -/
def exL (k : Nat) : List It := if k = 3 then [⟨0, 0, 0, 1⟩] else [⟨1, 5, 0, 0⟩]
theorem exL_chk : chk exL = (5, 0) := by decide
theorem exL_either : eitherB exL = true := by decide
def exA (a b : Nat) (k : Nat) : Option Addr := if k = 3 then some ⟨a, 0, none⟩ else some ⟨b, 0, none⟩
theorem ex_rd {w : World} {a b : Nat} (h0 : RdIts w (some ⟨a, 0, none⟩) 1 [⟨0, 0, 0, 1⟩]) (h1 : RdIts w (some ⟨b, 0, none⟩) 1 [⟨1, 5, 0, 0⟩]) : RdLine w (exA a b) (fun _ => 1) exL := by
  intro k _
  unfold exA exL
  split
  · exact h0
  · exact h1


abbrev exVal (a b : Nat) : Value := .agg #[.slice (some ⟨b, 0, none⟩) 1 1, .slice (some ⟨b, 0, none⟩) 1 1, .slice (some ⟨b, 0, none⟩) 1 1, .slice (some ⟨a, 0, none⟩) 1 1, .slice (some ⟨b, 0, none⟩) 1 1]
theorem ex_val (a b : Nat) : crV (exA a b) (fun _ => 1) (fun _ => 1) = exVal a b := rfl
theorem ex_check {w : World} {a b : Nat} (h : RdLine w (exA a b) (fun _ => 1) exL) : Calls Try.prog 12 #[exVal a b] w (Ret (.tuple #[.int .i64 5, .int .i64 0]) w) := by
  have := check_any (exA a b) (fun _ => 1) (fun _ => 1) exL w h (fun _ => by decide)
  rw [exL_chk] at this
  exact this
theorem ex_either {w : World} {a b : Nat} (h : RdLine w (exA a b) (fun _ => 1) exL) : Calls Try.prog 30 #[exVal a b] w (Ret (.bool true) w) := by
  have := either_any (exA a b) (fun _ => 1) (fun _ => 1) exL w h
  rw [exL_either] at this
  exact this
theorem ex_starred3 {w : World} {a b : Nat} (h : RdLine w (exA a b) (fun _ => 1) exL) : Calls Try.prog 29 #[exVal a b, .int .i64 3] w (Ret (.bool true) w) :=
  starred_in 3 (by omega) (exA a b) (fun _ => 1) (fun _ => 1) exL w h
theorem ex_starred4 {w : World} {a b : Nat} (h : RdLine w (exA a b) (fun _ => 1) exL) : Calls Try.prog 29 #[exVal a b, .int .i64 4] w (Ret (.bool false) w) :=
  starred_in 4 (by omega) (exA a b) (fun _ => 1) (fun _ => 1) exL w h

set_option maxHeartbeats 1000000 in
theorem lives24_any (w : World) : Calls Try.prog 11 #[] w (Ret (.bool true) w) := by
  have HC := Lib.hid (fun W a b h => @ex_check W a b h)
  have HE := Lib.hid (fun W a b h => @ex_either W a b h)
  have H3 := Lib.hid (fun W a b h => @ex_starred3 W a b h)
  have H4 := Lib.hid (fun W a b h => @ex_starred4 W a b h)
  go_enter Try.func11, Try.ntmps11
  go_wp2_with fail
  have hb0 : Below w.heap.size w (((w.alloc (Obj.cells #[.int .i64 0, .int .i64 0, .int .i64 0, .int .i64 1] 60)).alloc (Obj.cells #[.int .i64 1, .int .i64 5, .int .i64 0, .int .i64 0] 60)).alloc
      (Obj.cells #[.slice (some ⟨w.heap.size + 1, 0, none⟩) 1 1, .slice (some ⟨w.heap.size + 1, 0, none⟩) 1 1, .slice (some ⟨w.heap.size + 1, 0, none⟩) 1 1, .slice (some ⟨w.heap.size, 0, none⟩) 1 1, .slice (some ⟨w.heap.size + 1, 0, none⟩) 1 1] 24)) := by (repeat' (first | (with_reducible exact Below.refl _ _) | (with_reducible assumption) | (with_reducible refine below_drewN ?_ _) | (with_reducible refine Below.alloc ?_ ?_ _) | (with_reducible refine Below.drew ?_) | (with_reducible refine Below.setCell ?_ ?_ _) | go_size))
  have hrd : Hid (RdLine (((w.alloc (Obj.cells #[.int .i64 0, .int .i64 0, .int .i64 0, .int .i64 1] 60)).alloc (Obj.cells #[.int .i64 1, .int .i64 5, .int .i64 0, .int .i64 0] 60)).alloc
      (Obj.cells #[.slice (some ⟨w.heap.size + 1, 0, none⟩) 1 1, .slice (some ⟨w.heap.size + 1, 0, none⟩) 1 1, .slice (some ⟨w.heap.size + 1, 0, none⟩) 1 1, .slice (some ⟨w.heap.size, 0, none⟩) 1 1, .slice (some ⟨w.heap.size + 1, 0, none⟩) 1 1] 24)) (exA w.heap.size (w.heap.size + 1)) (fun _ => 1) exL) :=
    ex_rd (rdIts_one _ _ _ (by simp; omega) (by simp [go_sem]) (by simp [go_sem]) (by simp [go_sem]) (by simp [go_sem])) (rdIts_one _ _ _ (by simp) (by simp [go_sem]) (by simp [go_sem]) (by simp [go_sem]) (by simp [go_sem]))
  have hcl : LineAt (((w.alloc (Obj.cells #[.int .i64 0, .int .i64 0, .int .i64 0, .int .i64 1] 60)).alloc (Obj.cells #[.int .i64 1, .int .i64 5, .int .i64 0, .int .i64 0] 60)).alloc
      (Obj.cells #[.slice (some ⟨w.heap.size + 1, 0, none⟩) 1 1, .slice (some ⟨w.heap.size + 1, 0, none⟩) 1 1, .slice (some ⟨w.heap.size + 1, 0, none⟩) 1 1, .slice (some ⟨w.heap.size, 0, none⟩) 1 1, .slice (some ⟨w.heap.size + 1, 0, none⟩) 1 1] 24)) (w.heap.size + 1 + 1) 0 (exA w.heap.size (w.heap.size + 1)) (fun _ => 1) (fun _ => 1) :=
    ⟨by simp [go_sem, exA], by simp [go_sem, exA], by simp [go_sem, exA], by simp [go_sem, exA], by simp [go_sem, exA]⟩
  have hsz0 : w.heap.size + 1 + 1 < (((w.alloc (Obj.cells #[.int .i64 0, .int .i64 0, .int .i64 0, .int .i64 1] 60)).alloc (Obj.cells #[.int .i64 1, .int .i64 5, .int .i64 0, .int .i64 0] 60)).alloc
      (Obj.cells #[.slice (some ⟨w.heap.size + 1, 0, none⟩) 1 1, .slice (some ⟨w.heap.size + 1, 0, none⟩) 1 1, .slice (some ⟨w.heap.size + 1, 0, none⟩) 1 1, .slice (some ⟨w.heap.size, 0, none⟩) 1 1, .slice (some ⟨w.heap.size + 1, 0, none⟩) 1 1] 24)).heap.size := by simp
  generalize (((w.alloc (Obj.cells #[.int .i64 0, .int .i64 0, .int .i64 0, .int .i64 1] 60)).alloc (Obj.cells #[.int .i64 1, .int .i64 5, .int .i64 0, .int .i64 0] 60)).alloc
      (Obj.cells #[.slice (some ⟨w.heap.size + 1, 0, none⟩) 1 1, .slice (some ⟨w.heap.size + 1, 0, none⟩) 1 1, .slice (some ⟨w.heap.size + 1, 0, none⟩) 1 1, .slice (some ⟨w.heap.size, 0, none⟩) 1 1, .slice (some ⟨w.heap.size + 1, 0, none⟩) 1 1] 24)) = W0 at hb0 hrd hcl hsz0 ⊢
  have HCL := Lib.hid hcl
  clear hcl
  refine (HC.out _ _ _ hrd.out).mono ?_
  rintro e w1 ⟨rfl, hb1⟩
  obtain ⟨l0, l1, l2, l3, l4⟩ := LineAt.below HCL.out (fun o => hb1.cell (p := ⟨_, o, none⟩) hsz0)
  simp [exA] at l0 l1 l2 l3 l4
  go_wp2_with fail
  refine (HE.out _ _ _ (hrd.out.below hb1 (Nat.le_refl _))).mono ?_
  rintro e w2 ⟨rfl, hb2⟩
  have hb12 := bthen hb1 hb2 hb1.size
  obtain ⟨l0, l1, l2, l3, l4⟩ := LineAt.below HCL.out (fun o => hb12.cell (p := ⟨_, o, none⟩) hsz0)
  simp [exA] at l0 l1 l2 l3 l4
  go_wp2_with fail
  refine (H3.out _ _ _ (hrd.out.below hb12 (Nat.le_refl _))).mono ?_
  rintro e w3 ⟨rfl, hb3⟩
  have hb13 := bthen hb12 hb3 hb12.size
  obtain ⟨l0, l1, l2, l3, l4⟩ := LineAt.below HCL.out (fun o => hb13.cell (p := ⟨_, o, none⟩) hsz0)
  simp [exA] at l0 l1 l2 l3 l4
  go_wp2_with fail
  refine (H4.out _ _ _ (hrd.out.below hb13 (Nat.le_refl _))).mono ?_
  rintro e w4 ⟨rfl, hb4⟩
  go_wp2
  go_ret
  exact ⟨rfl, bthen hb0 (bthen hb13 hb4 hb13.size) hb0.size⟩

set_option maxHeartbeats 1000000 in
theorem cronChecks_any (A : Nat → Option Addr) (n c : Nat → Nat) (l : Nat → List It) (w : World) (hA : RdLine w A n l) (hn : ∀ k, n k ≤ 9223372036854775807) :
    Calls Try.prog 3 #[crV A n c] w (Ret (.bool true) w) := by
  have HA := Lib.hid hA
  have HG := Lib.hid (fun W => great_any A n c W)
  have HC := Lib.hid (fun W (hW : Below w.heap.size w W) => check_any A n c l W (HA.out.below hW (Nat.le_refl _)) hn)
  have HR := Lib.hid (fun W (hW : Below w.heap.size w W) => rcheck_any A n c l W (HA.out.below hW (Nat.le_refl _)) hn)
  have HV := Lib.hid (fun W => lives24_any W)
  clear hA hn
  generalize (chk l).1 = p1 at HC HR
  generalize (chk l).2 = p2 at HC HR
  cases hg : greatB n with
  | true =>
    rw [hg] at HG
    clear hg
    go_enter Try.func3, Try.ntmps3
    go_wp2_with fail
    refine (HG.out _).mono ?_
    rintro e w1 ⟨rfl, hb1⟩
    have hb : Below w.heap.size w w1 := ((Below.refl _ w).alloc (Nat.le_refl _) _).trans (hb1.mono (by simp))
    go_wp2_with fail
    refine (HV.out _).mono ?_
    rintro e w2 ⟨rfl, hb2⟩
    go_wp2
    go_ret
    exact ⟨rfl, bthen hb hb2 hb.size⟩
  | false =>
    rw [hg] at HG
    clear hg
    go_enter Try.func3, Try.ntmps3
    go_wp2_with fail
    refine (HG.out _).mono ?_
    rintro e w1 ⟨rfl, hb1⟩
    have hb : Below w.heap.size w w1 := ((Below.refl _ w).alloc (Nat.le_refl _) _).trans (hb1.mono (by simp))
    have hcl : Hid (LineAt w1 w.heap.size 0 A n c) := LineAt.below (w := w.alloc (Obj.cells #[.slice (A 0) (n 0) (c 0), .slice (A 1) (n 1) (c 1), .slice (A 2) (n 2) (c 2), .slice (A 3) (n 3) (c 3), .slice (A 4) (n 4) (c 4)] 24)) ⟨by simp [go_sem], by simp [go_sem], by simp [go_sem], by simp [go_sem], by simp [go_sem]⟩ (fun o => hb1.cell (p := ⟨_, o, none⟩) (by simp))
    have hsz0 : w.heap.size < w1.heap.size := by have := hb1.size; simp at this; omega
    obtain ⟨l0, l1, l2, l3, l4⟩ := hcl.out
    simp only [Nat.zero_add] at l1 l2 l3 l4
    clear hb1
    go_wp2_with fail
    refine (HC.out _ hb).mono ?_
    rintro e w2 ⟨rfl, hb2⟩
    have hbb := bthen hb hb2 hb.size
    obtain ⟨l0, l1, l2, l3, l4⟩ := LineAt.below hcl.out (fun o => hb2.cell (p := ⟨_, o, none⟩) hsz0)
    simp only [Nat.zero_add] at l1 l2 l3 l4
    go_wp2_with fail
    refine (HR.out _ hbb).mono ?_
    rintro e w3 ⟨rfl, hb3⟩
    go_wp2_with fail
    refine (HV.out _).mono ?_
    rintro e w4 ⟨rfl, hb4⟩
    have hbc := bthen hbb hb3 hbb.size
    go_wp2
    go_ret
    exact ⟨rfl, bthen hbc hb4 hbc.size⟩
end Go.Proofs.Ytgliminiiciflaa
