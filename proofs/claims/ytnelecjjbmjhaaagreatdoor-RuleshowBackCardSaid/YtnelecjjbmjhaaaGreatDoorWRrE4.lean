/- The walks of package ruleread's reader: the functions that read a part each (numbers, too). -/
import Derived.Test.YtnelecjjbmjhaaaGreatDoorWRrE
/- The walks of package ruleread's reader: the functions that read a part each (numbers). -/
namespace Go.Proofs.YtnelecjjbmjhaaaGreatDoor
open Go.RowKit
set_option linter.unusedSimpArgs false
set_option linter.unusedVariables false

section
variable {w : World} {b X P R B : Nat} {s : ByteArray} {σ : PS} {r : RuV} (hs : s.size ≤ 1000000) (hin : RrIn w X P b R B s) (hru : RuF w R B r)
include hs hin hru
set_option maxRecDepth 20000 in
set_option maxHeartbeats 4000000 in
theorem part5_rr (h : RdP w b s σ) : Calls Tryz.prog 81 #[.pointer (some ⟨X, 0, none⟩), .pointer (some ⟨P, 0, none⟩)] w (RetRu b R B s (partK s.size 4 r σ).1 (partK s.size 4 r σ).2 w) := by
  have HN := Lib.hid (fun W (h : RdP W b s σ) => numbers_rr hs 1 12 h)
  have hE : partK s.size 4 r σ = ((numsP s.size 1 12 σ).1, { r with mo := (numsP s.size 1 12 σ).2 }) := rfl
  rw [hE]
  generalize (numsP s.size 1 12 σ) = q at *
  obtain ⟨τ, n⟩ := q
  dsimp only at *
  have H := Lib.hid h
  have HRu := Lib.hid hru
  obtain ⟨⟨kx0, kx1⟩, kp, hX, hP, hR, hbB, hRB, hB⟩ := hin
  clear h hru hE
  have KX0 := Lib.hid kx0
  have KX1 := Lib.hid kx1
  have KP := Lib.hid kp
  go_enter Tryz.func81, Tryz.ntmps81
  go_wp2_with fail
  go_region_with ((go_at_call 82; refine (HN.out _ H.out.drew).mono ?_; rintro e w1 ⟨v, rfl, hv, h1, g1⟩; obtain ⟨A, m, c, rfl⟩ := own_slice hv; have p0 : w1.cell? ⟨P, 0, none⟩ = some (.pointer (some ⟨R, 0, none⟩)) := g1.cell hP KP.out; obtain ⟨vo, vc, vf⟩ := (HRu.out.drew.chg g1 hR hbB).cells 5 (by decide); have hzR : R < w1.heap.size := World.block_lt_of_cell? _ _ vc))
  all_goals
    go_wp2_with fail
    first | go_end0 | (refine bodyPost_ret (results_none rfl _ _ _) rfl ?_)
    refine ⟨rfl, h1.set hR _, ?_, ((((Chg.refl b w).drewN 1).trans g1).two R).set _ _⟩
    refine (HRu.out.drew.chg g1 hR hbB).put hRB 5 (by decide) (.slice A m c) (own_base hv hB) ?_
    intro j hj hn W x hx
    obtain rfl | rfl | rfl | rfl | rfl | rfl | rfl | rfl | rfl | rfl | rfl := eleven hj
    all_goals first | exact hx | exact absurd rfl hn
set_option maxRecDepth 20000 in
set_option maxHeartbeats 4000000 in
theorem part8_rr (h : RdP w b s σ) : Calls Tryz.prog 90 #[.pointer (some ⟨X, 0, none⟩), .pointer (some ⟨P, 0, none⟩)] w (RetRu b R B s (partK s.size 7 r σ).1 (partK s.size 7 r σ).2 w) := by
  have HN := Lib.hid (fun W (h : RdP W b s σ) => numbers_rr hs 0 23 h)
  have hE : partK s.size 7 r σ = ((numsP s.size 0 23 σ).1, { r with ho := (numsP s.size 0 23 σ).2 }) := rfl
  rw [hE]
  generalize (numsP s.size 0 23 σ) = q at *
  obtain ⟨τ, n⟩ := q
  dsimp only at *
  have H := Lib.hid h
  have HRu := Lib.hid hru
  obtain ⟨⟨kx0, kx1⟩, kp, hX, hP, hR, hbB, hRB, hB⟩ := hin
  clear h hru hE
  have KX0 := Lib.hid kx0
  have KX1 := Lib.hid kx1
  have KP := Lib.hid kp
  go_enter Tryz.func90, Tryz.ntmps90
  go_wp2_with fail
  go_region_with ((go_at_call 82; refine (HN.out _ H.out.drew).mono ?_; rintro e w1 ⟨v, rfl, hv, h1, g1⟩; obtain ⟨A, m, c, rfl⟩ := own_slice hv; have p0 : w1.cell? ⟨P, 0, none⟩ = some (.pointer (some ⟨R, 0, none⟩)) := g1.cell hP KP.out; obtain ⟨vo, vc, vf⟩ := (HRu.out.drew.chg g1 hR hbB).cells 8 (by decide); have hzR : R < w1.heap.size := World.block_lt_of_cell? _ _ vc))
  all_goals
    go_wp2_with fail
    first | go_end0 | (refine bodyPost_ret (results_none rfl _ _ _) rfl ?_)
    refine ⟨rfl, h1.set hR _, ?_, ((((Chg.refl b w).drewN 1).trans g1).two R).set _ _⟩
    refine (HRu.out.drew.chg g1 hR hbB).put hRB 8 (by decide) (.slice A m c) (own_base hv hB) ?_
    intro j hj hn W x hx
    obtain rfl | rfl | rfl | rfl | rfl | rfl | rfl | rfl | rfl | rfl | rfl := eleven hj
    all_goals first | exact hx | exact absurd rfl hn
end
end Go.Proofs.YtnelecjjbmjhaaaGreatDoor

namespace Go.Proofs.YtnelecjjbmjhaaaGreatDoor
open Go.RowKit
set_option linter.unusedSimpArgs false
set_option linter.unusedVariables false

section
variable {w : World} {b X P R B : Nat} {s : ByteArray} {σ : PS} {r : RuV} (hs : s.size ≤ 1000000) (hin : RrIn w X P b R B s) (hru : RuF w R B r)
include hs hin hru
set_option maxRecDepth 20000 in
set_option maxHeartbeats 4000000 in
theorem part9_rr (h : RdP w b s σ) : Calls Tryz.prog 91 #[.pointer (some ⟨X, 0, none⟩), .pointer (some ⟨P, 0, none⟩)] w (RetRu b R B s (partK s.size 8 r σ).1 (partK s.size 8 r σ).2 w) := by
  have HN := Lib.hid (fun W (h : RdP W b s σ) => numbers_rr hs 0 59 h)
  have hE : partK s.size 8 r σ = ((numsP s.size 0 59 σ).1, { r with mi := (numsP s.size 0 59 σ).2 }) := rfl
  rw [hE]
  generalize (numsP s.size 0 59 σ) = q at *
  obtain ⟨τ, n⟩ := q
  dsimp only at *
  have H := Lib.hid h
  have HRu := Lib.hid hru
  obtain ⟨⟨kx0, kx1⟩, kp, hX, hP, hR, hbB, hRB, hB⟩ := hin
  clear h hru hE
  have KX0 := Lib.hid kx0
  have KX1 := Lib.hid kx1
  have KP := Lib.hid kp
  go_enter Tryz.func91, Tryz.ntmps91
  go_wp2_with fail
  go_region_with ((go_at_call 82; refine (HN.out _ H.out.drew).mono ?_; rintro e w1 ⟨v, rfl, hv, h1, g1⟩; obtain ⟨A, m, c, rfl⟩ := own_slice hv; have p0 : w1.cell? ⟨P, 0, none⟩ = some (.pointer (some ⟨R, 0, none⟩)) := g1.cell hP KP.out; obtain ⟨vo, vc, vf⟩ := (HRu.out.drew.chg g1 hR hbB).cells 9 (by decide); have hzR : R < w1.heap.size := World.block_lt_of_cell? _ _ vc))
  all_goals
    go_wp2_with fail
    first | go_end0 | (refine bodyPost_ret (results_none rfl _ _ _) rfl ?_)
    refine ⟨rfl, h1.set hR _, ?_, ((((Chg.refl b w).drewN 1).trans g1).two R).set _ _⟩
    refine (HRu.out.drew.chg g1 hR hbB).put hRB 9 (by decide) (.slice A m c) (own_base hv hB) ?_
    intro j hj hn W x hx
    obtain rfl | rfl | rfl | rfl | rfl | rfl | rfl | rfl | rfl | rfl | rfl := eleven hj
    all_goals first | exact hx | exact absurd rfl hn
set_option maxRecDepth 20000 in
set_option maxHeartbeats 4000000 in
theorem part10_rr (h : RdP w b s σ) : Calls Tryz.prog 92 #[.pointer (some ⟨X, 0, none⟩), .pointer (some ⟨P, 0, none⟩)] w (RetRu b R B s (partK s.size 9 r σ).1 (partK s.size 9 r σ).2 w) := by
  have HN := Lib.hid (fun W (h : RdP W b s σ) => numbers_rr hs 0 59 h)
  have hE : partK s.size 9 r σ = ((numsP s.size 0 59 σ).1, { r with se := (numsP s.size 0 59 σ).2 }) := rfl
  rw [hE]
  generalize (numsP s.size 0 59 σ) = q at *
  obtain ⟨τ, n⟩ := q
  dsimp only at *
  have H := Lib.hid h
  have HRu := Lib.hid hru
  obtain ⟨⟨kx0, kx1⟩, kp, hX, hP, hR, hbB, hRB, hB⟩ := hin
  clear h hru hE
  have KX0 := Lib.hid kx0
  have KX1 := Lib.hid kx1
  have KP := Lib.hid kp
  go_enter Tryz.func92, Tryz.ntmps92
  go_wp2_with fail
  go_region_with ((go_at_call 82; refine (HN.out _ H.out.drew).mono ?_; rintro e w1 ⟨v, rfl, hv, h1, g1⟩; obtain ⟨A, m, c, rfl⟩ := own_slice hv; have p0 : w1.cell? ⟨P, 0, none⟩ = some (.pointer (some ⟨R, 0, none⟩)) := g1.cell hP KP.out; obtain ⟨vo, vc, vf⟩ := (HRu.out.drew.chg g1 hR hbB).cells 10 (by decide); have hzR : R < w1.heap.size := World.block_lt_of_cell? _ _ vc))
  all_goals
    go_wp2_with fail
    first | go_end0 | (refine bodyPost_ret (results_none rfl _ _ _) rfl ?_)
    refine ⟨rfl, h1.set hR _, ?_, ((((Chg.refl b w).drewN 1).trans g1).two R).set _ _⟩
    refine (HRu.out.drew.chg g1 hR hbB).put hRB 10 (by decide) (.slice A m c) (own_base hv hB) ?_
    intro j hj hn W x hx
    obtain rfl | rfl | rfl | rfl | rfl | rfl | rfl | rfl | rfl | rfl | rfl := eleven hj
    all_goals first | exact hx | exact absurd rfl hn
end
end Go.Proofs.YtnelecjjbmjhaaaGreatDoor
