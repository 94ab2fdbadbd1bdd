/- What is wrong with a rule: rule.Check. -/
import Derived.Test.YtnelecjjbmjhaaaGreatDoorWRuA
namespace Go.Proofs.YtnelecjjbmjhaaaGreatDoor
open Go.RowKit
set_option linter.unusedSimpArgs false
set_option linter.unusedVariables false

/-- A rule. -/
structure RuV where
  st : Int
  fr : Int
  iv : Int
  ct : Int
  un : Int
  mo : List Int
  da : List Int
  wk : List (Int × Int)
  ho : List Int
  mi : List Int
  se : List Int
/-- The value of a rule. -/
def ruV (r : RuV) (A : Nat → Option Addr) (n c : Nat → Nat) : Value := .agg #[.int .i64 r.st, .int .i64 r.fr, .int .i64 r.iv, .int .i64 r.ct, .int .i64 r.un, .slice (A 5) (n 5) (c 5), .slice (A 6) (n 6) (c 6), .slice (A 7) (n 7) (c 7), .slice (A 8) (n 8) (c 8), .slice (A 9) (n 9) (c 9), .slice (A 10) (n 10) (c 10)]
/-- A rule's cells in a block. -/
structure RuAt (w : World) (b : Nat) (r : RuV) (A : Nat → Option Addr) (n c : Nat → Nat) : Prop where
  h0 : w.cell? ⟨b, 0, none⟩ = some (.int .i64 r.st)
  h1 : w.cell? ⟨b, 1, none⟩ = some (.int .i64 r.fr)
  h2 : w.cell? ⟨b, 2, none⟩ = some (.int .i64 r.iv)
  h3 : w.cell? ⟨b, 3, none⟩ = some (.int .i64 r.ct)
  h4 : w.cell? ⟨b, 4, none⟩ = some (.int .i64 r.un)
  h5 : w.cell? ⟨b, 5, none⟩ = some (.slice (A 5) (n 5) (c 5))
  h6 : w.cell? ⟨b, 6, none⟩ = some (.slice (A 6) (n 6) (c 6))
  h7 : w.cell? ⟨b, 7, none⟩ = some (.slice (A 7) (n 7) (c 7))
  h8 : w.cell? ⟨b, 8, none⟩ = some (.slice (A 8) (n 8) (c 8))
  h9 : w.cell? ⟨b, 9, none⟩ = some (.slice (A 9) (n 9) (c 9))
  h10 : w.cell? ⟨b, 10, none⟩ = some (.slice (A 10) (n 10) (c 10))
theorem RuAt.lt {w : World} {b : Nat} {r : RuV} {A : Nat → Option Addr} {n c : Nat → Nat} (h : RuAt w b r A n c) : b < w.heap.size := World.block_lt_of_cell? _ _ h.h0
theorem RuAt.below {w w' : World} {b : Nat} {r : RuV} {A : Nat → Option Addr} {n c : Nat → Nat} (h : RuAt w b r A n c) (hb : Below w.heap.size w w') : RuAt w' b r A n c := by
  have hl := h.lt
  exact ⟨(hb.cell (p := ⟨b, 0, none⟩) hl).trans h.h0, (hb.cell (p := ⟨b, 1, none⟩) hl).trans h.h1, (hb.cell (p := ⟨b, 2, none⟩) hl).trans h.h2, (hb.cell (p := ⟨b, 3, none⟩) hl).trans h.h3, (hb.cell (p := ⟨b, 4, none⟩) hl).trans h.h4, (hb.cell (p := ⟨b, 5, none⟩) hl).trans h.h5, (hb.cell (p := ⟨b, 6, none⟩) hl).trans h.h6, (hb.cell (p := ⟨b, 7, none⟩) hl).trans h.h7, (hb.cell (p := ⟨b, 8, none⟩) hl).trans h.h8, (hb.cell (p := ⟨b, 9, none⟩) hl).trans h.h9, (hb.cell (p := ⟨b, 10, none⟩) hl).trans h.h10⟩
theorem ruAt_new (w : World) (r : RuV) (A : Nat → Option Addr) (n c : Nat → Nat) (t : TypeId) : RuAt (w.alloc (.cells #[.int .i64 r.st, .int .i64 r.fr, .int .i64 r.iv, .int .i64 r.ct, .int .i64 r.un, .slice (A 5) (n 5) (c 5), .slice (A 6) (n 6) (c 6), .slice (A 7) (n 7) (c 7), .slice (A 8) (n 8) (c 8), .slice (A 9) (n 9) (c 9), .slice (A 10) (n 10) (c 10)] t)) w.heap.size r A n c :=
  ⟨cell_new rfl rfl, cell_new rfl rfl, cell_new rfl rfl, cell_new rfl rfl, cell_new rfl rfl, cell_new rfl rfl, cell_new rfl rfl, cell_new rfl rfl, cell_new rfl rfl, cell_new rfl rfl, cell_new rfl rfl⟩
/-- A rule's lists in memory. -/
structure RdRu (w : World) (A : Nat → Option Addr) (n : Nat → Nat) (r : RuV) : Prop where
  mo : RdInts w (A 5) (n 5) r.mo
  da : RdInts w (A 6) (n 6) r.da
  wk : RdNths w (A 7) (n 7) r.wk
  ho : RdInts w (A 8) (n 8) r.ho
  mi : RdInts w (A 9) (n 9) r.mi
  se : RdInts w (A 10) (n 10) r.se
theorem RdRu.below {w w' : World} {A : Nat → Option Addr} {n : Nat → Nat} {r : RuV} (h : RdRu w A n r) (hb : Below w.heap.size w w') : RdRu w' A n r :=
  ⟨Rd.below h.mo hb (Nat.le_refl _), Rd.below h.da hb (Nat.le_refl _), Rd.below h.wk hb (Nat.le_refl _), Rd.below h.ho hb (Nat.le_refl _), Rd.below h.mi hb (Nat.le_refl _), Rd.below h.se hb (Nat.le_refl _)⟩
def headE (r : RuV) : Int :=
  if inC r.st = false ∨ unT r.fr = [] ∨ r.iv < 1 ∨ 1000000000000000 < r.iv ∨ r.ct < 0 ∨ 1000000000000000 < r.ct then 4 else if r.un ≠ -1 ∧ inC r.un = false then 4 else if r.un ≠ -1 ∧ 0 < r.ct then 12 else 0
def daysE (r : RuV) : Int :=
  if listE r.da (-31) 31 ≠ 0 then listE r.da (-31) 31 else if r.da.any (fun x => decide (x = 0)) = true then 4 else if (0 < r.da.length ∧ r.fr = 4) ∨ mixC r.da = true then 12 else 0
def nsC (r : RuV) : List Int := r.wk.map (·.1)
def badDay (p : Int × Int) : Bool := decide (p.2 < 1 ∨ 7 < p.2)
def weeksE (r : RuV) : Int :=
  if 64 < r.wk.length then 5 else if (nsC r).any (outC (-53) 53) = true ∨ r.wk.any badDay = true then 4 else if mixC (nsC r) = true ∨ ((nsC r).any (outC 0 0) = true ∧ r.fr ≠ 5 ∧ r.fr ≠ 6) then 12 else if (r.fr = 5 ∨ 0 < r.mo.length) ∧ (nsC r).any (outC (-5) 5) = true then 4 else 0
def faultR (r : RuV) (k : Nat) : Int := if k = 0 then headE r else if k = 1 then listE r.mo 1 12 else if k = 2 then daysE r else if k = 3 then weeksE r else if k = 4 then listE r.ho 0 23 else if k = 5 then listE r.mi 0 59 else listE r.se 0 59
/-- What is wrong with a rule; 0: nothing. -/
def chkRN (r : RuV) : Nat → Int
  | 0 => 0
  | q + 1 => if faultR r (6 - q) = 0 then chkRN r q else faultR r (6 - q)
def chkR (r : RuV) : Int := chkRN r 7
theorem chkR_at {r : RuV} {k : Nat} (hk : k < 7) (H : ∀ j, j < k → faultR r j = 0) (h : faultR r k ≠ 0) : chkR r = faultR r k := by
  have key : ∀ (q : Nat), q ≤ 7 → 7 - q ≤ k → chkRN r q = faultR r k := by
    intro q
    induction q with
    | zero => intro _ h1; omega
    | succ q ih =>
      intro hq h1
      unfold chkRN
      by_cases e : 6 - q = k
      · rw [e, if_neg h]
      · rw [if_pos (H _ (by omega))]
        exact ih (by omega) (by omega)
  exact key 7 (Nat.le_refl _) (by omega)
theorem chkR_all {r : RuV} (H : ∀ j, j < 7 → faultR r j = 0) : chkR r = 0 := by
  have key : ∀ (q : Nat), q ≤ 7 → chkRN r q = 0 := by
    intro q
    induction q with
    | zero => intro _; rfl
    | succ q ih =>
      intro hq
      unfold chkRN
      rw [if_pos (H _ (by omega))]
      exact ih (by omega)
  exact key 7 (Nat.le_refl _)
section
variable {r : RuV} {A : Nat → Option Addr} {n c : Nat → Nat} {w : World} (hA : RdRu w A n r) (hn : ∀ k, n k ≤ 1000000)
include hA hn
set_option maxHeartbeats 1000000 in
theorem parts1_any : Calls Tryz.prog 115 #[ruV r A n c] w (Ret (.int .i64 (listE r.mo 1 12)) w) := by
  have HL := Lib.hid (fun W (hb : Below w.heap.size w W) => rlist_any (A 5) (n 5) (c 5) r.mo 1 12 W (hA.mo.below hb (Nat.le_refl _)) (by have := hn 5; omega))
  clear hA hn
  unfold ruV
  go_enter Tryz.func115, Tryz.ntmps115
  go_wp2_with fail
  refine (HL.out _ (by (repeat' (first | (with_reducible exact Below.refl _ _) | (with_reducible assumption) | (with_reducible refine below_drewN ?_ _) | (with_reducible refine Below.alloc ?_ ?_ _) | (with_reducible refine Below.drew ?_) | (with_reducible refine Below.setCell ?_ ?_ _) | go_size)))).mono ?_
  rintro e w1 ⟨rfl, hb1⟩
  go_wp2
  go_ret
  exact ⟨rfl, ((Below.refl _ w).alloc (Nat.le_refl _) _).trans (hb1.mono (by simp))⟩
set_option maxHeartbeats 1000000 in
theorem parts2_any : Calls Tryz.prog 119 #[ruV r A n c] w (Ret (.int .i64 (listE r.ho 0 23)) w) := by
  have HL := Lib.hid (fun W (hb : Below w.heap.size w W) => rlist_any (A 8) (n 8) (c 8) r.ho 0 23 W (hA.ho.below hb (Nat.le_refl _)) (by have := hn 8; omega))
  clear hA hn
  unfold ruV
  go_enter Tryz.func119, Tryz.ntmps119
  go_wp2_with fail
  refine (HL.out _ (by (repeat' (first | (with_reducible exact Below.refl _ _) | (with_reducible assumption) | (with_reducible refine below_drewN ?_ _) | (with_reducible refine Below.alloc ?_ ?_ _) | (with_reducible refine Below.drew ?_) | (with_reducible refine Below.setCell ?_ ?_ _) | go_size)))).mono ?_
  rintro e w1 ⟨rfl, hb1⟩
  go_wp2
  go_ret
  exact ⟨rfl, ((Below.refl _ w).alloc (Nat.le_refl _) _).trans (hb1.mono (by simp))⟩
set_option maxHeartbeats 1000000 in
theorem parts3_any : Calls Tryz.prog 120 #[ruV r A n c] w (Ret (.int .i64 (listE r.mi 0 59)) w) := by
  have HL := Lib.hid (fun W (hb : Below w.heap.size w W) => rlist_any (A 9) (n 9) (c 9) r.mi 0 59 W (hA.mi.below hb (Nat.le_refl _)) (by have := hn 9; omega))
  clear hA hn
  unfold ruV
  go_enter Tryz.func120, Tryz.ntmps120
  go_wp2_with fail
  refine (HL.out _ (by (repeat' (first | (with_reducible exact Below.refl _ _) | (with_reducible assumption) | (with_reducible refine below_drewN ?_ _) | (with_reducible refine Below.alloc ?_ ?_ _) | (with_reducible refine Below.drew ?_) | (with_reducible refine Below.setCell ?_ ?_ _) | go_size)))).mono ?_
  rintro e w1 ⟨rfl, hb1⟩
  go_wp2
  go_ret
  exact ⟨rfl, ((Below.refl _ w).alloc (Nat.le_refl _) _).trans (hb1.mono (by simp))⟩
set_option maxHeartbeats 1000000 in
theorem parts4_any : Calls Tryz.prog 121 #[ruV r A n c] w (Ret (.int .i64 (listE r.se 0 59)) w) := by
  have HL := Lib.hid (fun W (hb : Below w.heap.size w W) => rlist_any (A 10) (n 10) (c 10) r.se 0 59 W (hA.se.below hb (Nat.le_refl _)) (by have := hn 10; omega))
  clear hA hn
  unfold ruV
  go_enter Tryz.func121, Tryz.ntmps121
  go_wp2_with fail
  refine (HL.out _ (by (repeat' (first | (with_reducible exact Below.refl _ _) | (with_reducible assumption) | (with_reducible refine below_drewN ?_ _) | (with_reducible refine Below.alloc ?_ ?_ _) | (with_reducible refine Below.drew ?_) | (with_reducible refine Below.setCell ?_ ?_ _) | go_size)))).mono ?_
  rintro e w1 ⟨rfl, hb1⟩
  go_wp2
  go_ret
  exact ⟨rfl, ((Below.refl _ w).alloc (Nat.le_refl _) _).trans (hb1.mono (by simp))⟩
end
end Go.Proofs.YtnelecjjbmjhaaaGreatDoor
