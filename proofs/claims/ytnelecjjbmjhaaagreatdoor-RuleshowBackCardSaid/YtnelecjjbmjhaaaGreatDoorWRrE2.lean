/- The walks of package ruleread's reader: the functions that read a part each (counts, instants). -/
import Derived.Test.YtnelecjjbmjhaaaGreatDoorWRrE
namespace Go.Proofs.YtnelecjjbmjhaaaGreatDoor
open Go.RowKit
set_option linter.unusedSimpArgs false
set_option linter.unusedVariables false

section
variable {w : World} {b X P R B : Nat} {s : ByteArray} {σ : PS} {r : RuV} (hs : s.size ≤ 1000000) (hin : RrIn w X P b R B s) (hru : RuF w R B r)
include hs hin hru
set_option maxRecDepth 20000 in
set_option maxHeartbeats 4000000 in
theorem part3_rr (h : RdP w b s σ) : Calls Tryz.prog 79 #[.pointer (some ⟨X, 0, none⟩), .pointer (some ⟨P, 0, none⟩)] w (RetRu b R B s (partK s.size 2 r σ).1 (partK s.size 2 r σ).2 w) := by
  have HN := Lib.hid (fun W (h : RdP W b s σ) => number_rr hs 15 (by decide) 1 999999999999999 h)
  have hE : partK s.size 2 r σ = ((rnumP s.size 15 1 999999999999999 σ).1, { r with ct := (rnumP s.size 15 1 999999999999999 σ).2 }) := rfl
  rw [hE]
  generalize (rnumP s.size 15 1 999999999999999 σ) = q at *
  obtain ⟨τ, n⟩ := q
  dsimp only at *
  have H := Lib.hid h
  have HRu := Lib.hid hru
  obtain ⟨⟨kx0, kx1⟩, kp, hX, hP, hR, hbB, hRB, hB⟩ := hin
  clear h hru hE
  have KX0 := Lib.hid kx0
  have KX1 := Lib.hid kx1
  have KP := Lib.hid kp
  go_enter Tryz.func79, Tryz.ntmps79
  go_wp2_with fail
  go_region_with ((go_at_call 78; refine (HN.out _ H.out.drew).mono ?_; rintro e w1 ⟨rfl, h1, g1⟩; have p0 : w1.cell? ⟨P, 0, none⟩ = some (.pointer (some ⟨R, 0, none⟩)) := g1.cell hP KP.out; obtain ⟨vo, vc, vf⟩ := (HRu.out.drew.chg g1 hR hbB).cells 3 (by decide); have hzR : R < w1.heap.size := World.block_lt_of_cell? _ _ vc))
  all_goals
    go_wp2_with fail
    first | go_end0 | (refine bodyPost_ret (results_none rfl _ _ _) rfl ?_)
    refine ⟨rfl, h1.set hR _, ?_, ((((Chg.refl b w).drewN 1).trans g1).two R).set _ _⟩
    refine (HRu.out.drew.chg g1 hR hbB).put hRB 3 (by decide) (.int .i64 n) rfl ?_
    intro j hj hn W x hx
    obtain rfl | rfl | rfl | rfl | rfl | rfl | rfl | rfl | rfl | rfl | rfl := eleven hj
    all_goals first | exact hx | exact absurd rfl hn
set_option maxRecDepth 20000 in
set_option maxHeartbeats 4000000 in
theorem part4_rr (h : RdP w b s σ) : Calls Tryz.prog 80 #[.pointer (some ⟨X, 0, none⟩), .pointer (some ⟨P, 0, none⟩)] w (RetRu b R B s (partK s.size 3 r σ).1 (partK s.size 3 r σ).2 w) := by
  have HN := Lib.hid (fun W (h : RdP W b s σ) => instant_rr hs h)
  have hE : partK s.size 3 r σ = ((instP s.size σ).1, { r with un := (instP s.size σ).2 }) := rfl
  rw [hE]
  generalize (instP s.size σ) = q at *
  obtain ⟨τ, n⟩ := q
  dsimp only at *
  have H := Lib.hid h
  have HRu := Lib.hid hru
  obtain ⟨⟨kx0, kx1⟩, kp, hX, hP, hR, hbB, hRB, hB⟩ := hin
  clear h hru hE
  have KX0 := Lib.hid kx0
  have KX1 := Lib.hid kx1
  have KP := Lib.hid kp
  go_enter Tryz.func80, Tryz.ntmps80
  go_wp2_with fail
  go_region_with ((go_at_call 38; refine (HN.out _ H.out.drew).mono ?_; rintro e w1 ⟨rfl, h1, g1⟩; have p0 : w1.cell? ⟨P, 0, none⟩ = some (.pointer (some ⟨R, 0, none⟩)) := g1.cell hP KP.out; obtain ⟨vo, vc, vf⟩ := (HRu.out.drew.chg g1 hR hbB).cells 4 (by decide); have hzR : R < w1.heap.size := World.block_lt_of_cell? _ _ vc))
  all_goals
    go_wp2_with fail
    first | go_end0 | (refine bodyPost_ret (results_none rfl _ _ _) rfl ?_)
    refine ⟨rfl, h1.set hR _, ?_, ((((Chg.refl b w).drewN 1).trans g1).two R).set _ _⟩
    refine (HRu.out.drew.chg g1 hR hbB).put hRB 4 (by decide) (.int .i64 n) rfl ?_
    intro j hj hn W x hx
    obtain rfl | rfl | rfl | rfl | rfl | rfl | rfl | rfl | rfl | rfl | rfl := eleven hj
    all_goals first | exact hx | exact absurd rfl hn
set_option maxRecDepth 20000 in
set_option maxHeartbeats 4000000 in
theorem part1_rr (h : RdP w b s σ) : Calls Tryz.prog 74 #[.pointer (some ⟨X, 0, none⟩), .pointer (some ⟨P, 0, none⟩)] w (RetRu b R B s (partK s.size 0 r σ).1 (partK s.size 0 r σ).2 w) := by
  have HU := Lib.hid (fun W => runits_any W)
  have HN := Lib.hid (fun W B c (hB : B ≠ b) (hA : StrsAt W B unN) (h : RdP W b s σ) => one_rr hs unN (by decide) B c hB (by decide) hA h)
  have hE : partK s.size 0 r σ = ((oneP s.size unN σ).1, { r with fr := (oneP s.size unN σ).2 }) := rfl
  rw [hE]
  generalize oneP s.size unN σ = q at *
  obtain ⟨τ, n⟩ := q
  dsimp only at *
  have H := Lib.hid h
  have HRu := Lib.hid hru
  obtain ⟨⟨kx0, kx1⟩, kp, hX, hP, hR, hbB, hRB, hB⟩ := hin
  clear h hru hE
  have KX0 := Lib.hid kx0
  have KX1 := Lib.hid kx1
  have KP := Lib.hid kp
  have hXl : X < w.heap.size := World.block_lt_of_cell? w _ kx0
  have hPl : P < w.heap.size := World.block_lt_of_cell? w _ kp
  go_enter Tryz.func74, Tryz.ntmps74
  go_wp2_with fail
  go_region_with ((first | (go_at_call 76; refine (HU.out _).mono ?_; rintro e w0 ⟨B0, c0, rfl, hA0, hB0, hb0⟩; have u0 : w0.cell? ⟨X, 0, none⟩ = some (.pointer (some ⟨b, 0, none⟩)) := (hb0.cell (p := ⟨X, 0, none⟩) hXl).trans KX0.out; have u1 : w0.cell? ⟨X, 1, none⟩ = some (.string s) := (hb0.cell (p := ⟨X, 1, none⟩) hXl).trans KX1.out; have u2 : w0.cell? ⟨P, 0, none⟩ = some (.pointer (some ⟨R, 0, none⟩)) := (hb0.cell (p := ⟨P, 0, none⟩) hPl).trans KP.out; have hzX : X < w0.heap.size := Nat.lt_of_lt_of_le hXl hb0.size; have hzP : P < w0.heap.size := Nat.lt_of_lt_of_le hPl hb0.size) | (go_at_call 75; refine (HN.out _ B0 c0 (by have : _ ≤ B0 := hB0; intro e; subst e; exact absurd (Nat.lt_of_lt_of_le H.out.lt this) (Nat.lt_irrefl _)) hA0 (H.out.drew.below hb0)).mono ?_; rintro e w1 ⟨rfl, h1, g2⟩; have g1 := (chg_of (b := b) hb0).trans g2; have p0 : w1.cell? ⟨P, 0, none⟩ = some (.pointer (some ⟨R, 0, none⟩)) := g1.cell hP KP.out; obtain ⟨vo, vc, vf⟩ := (HRu.out.drew.chg g1 hR hbB).cells 1 (by decide); have hzR : R < w1.heap.size := World.block_lt_of_cell? _ _ vc)))
  all_goals
    go_wp2_with fail
    first | go_end0 | (refine bodyPost_ret (results_none rfl _ _ _) rfl ?_)
    refine ⟨rfl, h1.set hR _, ?_, ((((Chg.refl b w).drewN 1).trans g1).two R).set _ _⟩
    refine (HRu.out.drew.chg g1 hR hbB).put hRB 1 (by decide) (.int .i64 n) rfl ?_
    intro j hj hn W x hx
    obtain rfl | rfl | rfl | rfl | rfl | rfl | rfl | rfl | rfl | rfl | rfl := eleven hj
    all_goals first | exact hx | exact absurd rfl hn
end
end Go.Proofs.YtnelecjjbmjhaaaGreatDoor
