/- The walks of package ruleread's reader: the functions that read a part each. -/
import Derived.Test.YtnelecjjbmjhaaaGreatDoorWRrD
namespace Go.Proofs.YtnelecjjbmjhaaaGreatDoor
open Go.RowKit
set_option linter.unusedSimpArgs false
set_option linter.unusedVariables false

/-- What a cell of a rule holds; lists lie in blocks from B on. -/
def slotR (w : World) (B : Nat) (r : RuV) : Nat → Value → Prop
  | 0, v => v = .int .i64 r.st
  | 1, v => v = .int .i64 r.fr
  | 2, v => v = .int .i64 r.iv
  | 3, v => v = .int .i64 r.ct
  | 4, v => v = .int .i64 r.un
  | 5, v => OwnInts w B v r.mo
  | 6, v => OwnInts w B v r.da
  | 7, v => OwnNths w B v r.wk
  | 8, v => OwnInts w B v r.ho
  | 9, v => OwnInts w B v r.mi
  | _, v => OwnInts w B v r.se
theorem eleven {j : Nat} (h : j < 11) : j = 0 ∨ j = 1 ∨ j = 2 ∨ j = 3 ∨ j = 4 ∨ j = 5 ∨ j = 6 ∨ j = 7 ∨ j = 8 ∨ j = 9 ∨ j = 10 := by omega
theorem slotR_chg {w w' : World} {b B : Nat} {r : RuV} {j : Nat} {v : Value} (hj : j < 11) (h : slotR w B r j v) (hg : Chg b w w') (hb : b < B) : slotR w' B r j v := by
  obtain rfl | rfl | rfl | rfl | rfl | rfl | rfl | rfl | rfl | rfl | rfl := eleven hj
  · exact h
  · exact h
  · exact h
  · exact h
  · exact h
  all_goals exact own_chg h hg hb
/-- A rule in a block, its lists in blocks from B on. -/
def RuF (w : World) (R B : Nat) (r : RuV) : Prop := ∃ g : Nat → Value, Arr w R 11 g ∧ ∀ j, j < 11 → slotR w B r j (g j)
section
variable {w w' : World} {R B b : Nat} {r r' : RuV}
theorem RuF.lt (h : RuF w R B r) : R < w.heap.size := by obtain ⟨g, h1, _⟩ := h; exact h1.lt (by decide)
theorem RuF.chg (h : RuF w R B r) (hg : Chg b w w') (hR : R ≠ b) (hb : b < B) : RuF w' R B r := by
  obtain ⟨g, h1, h2⟩ := h
  exact ⟨g, Arr.chg h1 (by decide) hg hR, fun j hj => slotR_chg hj (h2 j hj) hg hb⟩
theorem RuF.alloc (h : RuF w R B r) (o : Obj) : RuF (w.alloc o) R B r := by
  obtain ⟨g, h1, h2⟩ := h
  refine ⟨g, h1.alloc (h1.lt (by decide)) o, fun j hj => ?_⟩
  have h3 := h2 j hj
  obtain rfl | rfl | rfl | rfl | rfl | rfl | rfl | rfl | rfl | rfl | rfl := eleven hj
  · exact h3
  · exact h3
  · exact h3
  · exact h3
  · exact h3
  all_goals exact World.ownsRow.alloc h3 o
theorem RuF.drew (h : RuF w R B r) : RuF w.drew R B r := h
theorem RuF.drewN (h : RuF w R B r) (q : Nat) : RuF (w.drewN q) R B r := h
theorem RuF.cells (h : RuF w R B r) : ∀ j, j < 11 → ∃ v, w.cell? ⟨R, j, none⟩ = some v ∧ w.frozen? ⟨R, j, none⟩ = false := by
  obtain ⟨g, h1, _⟩ := h
  exact fun j hj => ⟨g j, h1.1 j hj, h1.2 j⟩
theorem RuF.put (h : RuF w R B r) (hR : R < B) (k : Nat) (hk : k < 11) (v : Value) (hv : slotR w B r' k v) (ho : ∀ j, j < 11 → j ≠ k → ∀ W x, slotR W B r j x → slotR W B r' j x) : RuF (w.setCell ⟨R, k, none⟩ v) R B r' := by
  obtain ⟨g, h1, h2⟩ := h
  refine ⟨fun j => if j = k then v else g j, Arr.set h1 k hk v (if_pos rfl) (fun j _ hj => if_neg hj), fun j hj => ?_⟩
  have hc : Chg R w (w.setCell ⟨R, k, none⟩ v) := (Chg.refl R w).set k v
  by_cases e : j = k
  · subst e; dsimp only; rw [if_pos rfl]; exact slotR_chg hk hv hc hR
  · dsimp only; rw [if_neg e]; exact slotR_chg hj (ho j hj e _ _ (h2 j hj)) hc hR
end
/-- A part's reader: its boxes; where they lie. -/
structure RrIn (w : World) (X P b R B : Nat) (s : ByteArray) : Prop where
  kx : KBox w X b s
  kp : w.cell? ⟨P, 0, none⟩ = some (.pointer (some ⟨R, 0, none⟩))
  hX : X ≠ b
  hP : P ≠ b
  hR : R ≠ b
  hbB : b < B
  hRB : R < B
  hB : B ≤ w.heap.size
/-- The rule, and the reader, stand so. -/
def RetRu (b R B : Nat) (s : ByteArray) (σ : PS) (r : RuV) (w : World) (x : Ending) (w' : World) : Prop := x = .returned (.tuple #[]) ∧ RdP w' b s σ ∧ RuF w' R B r ∧ Chg2 b R w w'
section
variable {w : World} {b X P R B : Nat} {s : ByteArray} {σ : PS} {r : RuV} (hs : s.size ≤ 1000000) (hin : RrIn w X P b R B s) (hru : RuF w R B r)
include hs hin hru
set_option maxRecDepth 20000 in
set_option maxHeartbeats 4000000 in
theorem part2_rr (h : RdP w b s σ) : Calls Tryz.prog 77 #[.pointer (some ⟨X, 0, none⟩), .pointer (some ⟨P, 0, none⟩)] w (RetRu b R B s (partK s.size 1 r σ).1 (partK s.size 1 r σ).2 w) := by
  have HN := Lib.hid (fun W (h : RdP W b s σ) => number_rr hs 15 (by decide) 1 999999999999999 h)
  have hE : partK s.size 1 r σ = ((rnumP s.size 15 1 999999999999999 σ).1, { r with iv := (rnumP s.size 15 1 999999999999999 σ).2 }) := rfl
  rw [hE]
  generalize rnumP s.size 15 1 999999999999999 σ = q at *
  obtain ⟨τ, n⟩ := q
  dsimp only at *
  have H := Lib.hid h
  have HRu := Lib.hid hru
  obtain ⟨⟨kx0, kx1⟩, kp, hX, hP, hR, hbB, hRB, hB⟩ := hin
  clear h hru hE
  have KX0 := Lib.hid kx0
  have KX1 := Lib.hid kx1
  have KP := Lib.hid kp
  go_enter Tryz.func77, Tryz.ntmps77
  go_wp2_with fail
  go_region_with ((go_at_call 78; refine (HN.out _ H.out.drew).mono ?_; rintro e w1 ⟨rfl, h1, g1⟩; have p0 : w1.cell? ⟨P, 0, none⟩ = some (.pointer (some ⟨R, 0, none⟩)) := g1.cell hP KP.out; obtain ⟨vo, vc, vf⟩ := (HRu.out.drew.chg g1 hR hbB).cells 2 (by decide); have hzR : R < w1.heap.size := World.block_lt_of_cell? _ _ vc))
  all_goals
    go_wp2_with fail
    first | go_end0 | (refine bodyPost_ret (results_none rfl _ _ _) rfl ?_)
    refine ⟨rfl, h1.set hR _, ?_, ((((Chg.refl b w).drewN 1).trans g1).two R).set _ _⟩
    refine (HRu.out.drew.chg g1 hR hbB).put hRB 2 (by decide) (.int .i64 n) rfl ?_
    intro j hj hn W x hx
    obtain rfl | rfl | rfl | rfl | rfl | rfl | rfl | rfl | rfl | rfl | rfl := eleven hj
    all_goals first | exact hx | exact absurd rfl hn
set_option maxRecDepth 20000 in
set_option maxHeartbeats 4000000 in
theorem part11_rr (h : RdP w b s σ) : Calls Tryz.prog 93 #[kV b s] w (RetRu b R B s (partK s.size 10 r σ).1 (partK s.size 10 r σ).2 w) := by
  refine (start_rr hs h).mono ?_
  rintro e w1 ⟨rfl, h1, g1⟩
  exact ⟨rfl, h1, hru.chg g1 hin.hR hin.hbB, g1.two R⟩
end
end Go.Proofs.YtnelecjjbmjhaaaGreatDoor
