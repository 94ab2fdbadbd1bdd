/- The walks of package ruleread's reader: the functions that read a part each (days). -/
import Derived.Test.YtnelecjjbmjhaaaGreatDoorWRrE
namespace Go.Proofs.YtnelecjjbmjhaaaGreatDoor
open Go.RowKit
set_option linter.unusedSimpArgs false
set_option linter.unusedVariables false

section
variable {w : World} {b X P R B : Nat} {s : ByteArray} {σ : PS} {r : RuV} (hs : s.size ≤ 1000000) (hin : RrIn w X P b R B s) (hru : RuF w R B r)
include hs hin hru
set_option maxRecDepth 20000 in
set_option maxHeartbeats 4000000 in
theorem part6_rr (h : RdP w b s σ) : Calls Tryz.prog 83 #[.pointer (some ⟨X, 0, none⟩), .pointer (some ⟨P, 0, none⟩)] w (RetRu b R B s (partK s.size 5 r σ).1 (partK s.size 5 r σ).2 w) := by
  have HN := Lib.hid (fun W (hx : KBox W X b s) (h : RdP W b s σ) => dlist_rr hs X hin.hX hx h)
  have hE : partK s.size 5 r σ = ((rlistP s.size (signP s.size 31) 63 σ).1, { r with da := (rlistP s.size (signP s.size 31) 63 σ).2 }) := rfl
  rw [hE]
  generalize (rlistP s.size (signP s.size 31) 63 σ) = q at *
  obtain ⟨τ, n⟩ := q
  dsimp only at *
  have H := Lib.hid h
  have HRu := Lib.hid hru
  obtain ⟨⟨kx0, kx1⟩, kp, hX, hP, hR, hbB, hRB, hB⟩ := hin
  clear h hru hE
  have KX0 := Lib.hid kx0
  have KX1 := Lib.hid kx1
  have KP := Lib.hid kp
  go_enter Tryz.func83, Tryz.ntmps83
  go_wp2_with fail
  go_region_with ((go_at_call 84; refine (HN.out w.drew ⟨KX0.out, KX1.out⟩ H.out.drew).mono ?_; rintro e w1 ⟨v, rfl, hv, h1, g1⟩; obtain ⟨A, m, c, rfl⟩ := own_slice hv; have p0 : w1.cell? ⟨P, 0, none⟩ = some (.pointer (some ⟨R, 0, none⟩)) := g1.cell hP KP.out; obtain ⟨vo, vc, vf⟩ := (HRu.out.drew.chg g1 hR hbB).cells 6 (by decide); have hzR : R < w1.heap.size := World.block_lt_of_cell? _ _ vc))
  all_goals
    go_wp2_with fail
    first | go_end0 | (refine bodyPost_ret (results_none rfl _ _ _) rfl ?_)
    refine ⟨rfl, h1.set hR _, ?_, ((((Chg.refl b w).drewN 1).trans g1).two R).set _ _⟩
    refine (HRu.out.drew.chg g1 hR hbB).put hRB 6 (by decide) (.slice A m c) (own_base hv hB) ?_
    intro j hj hn W x hx
    obtain rfl | rfl | rfl | rfl | rfl | rfl | rfl | rfl | rfl | rfl | rfl := eleven hj
    all_goals first | exact hx | exact absurd rfl hn
set_option maxRecDepth 20000 in
set_option maxHeartbeats 4000000 in
theorem part7_rr (h : RdP w b s σ) : Calls Tryz.prog 87 #[.pointer (some ⟨X, 0, none⟩), .pointer (some ⟨P, 0, none⟩)] w (RetRu b R B s (partK s.size 6 r σ).1 (partK s.size 6 r σ).2 w) := by
  have HN := Lib.hid (fun W (h : RdP W b s σ) => wlist_rr hs h)
  have hE : partK s.size 6 r σ = ((rlistP s.size (rnthP s.size) 63 σ).1, { r with wk := (rlistP s.size (rnthP s.size) 63 σ).2 }) := rfl
  rw [hE]
  generalize (rlistP s.size (rnthP s.size) 63 σ) = q at *
  obtain ⟨τ, n⟩ := q
  dsimp only at *
  have H := Lib.hid h
  have HRu := Lib.hid hru
  obtain ⟨⟨kx0, kx1⟩, kp, hX, hP, hR, hbB, hRB, hB⟩ := hin
  clear h hru hE
  have KX0 := Lib.hid kx0
  have KX1 := Lib.hid kx1
  have KP := Lib.hid kp
  go_enter Tryz.func87, Tryz.ntmps87
  go_wp2_with fail
  go_region_with ((go_at_call 88; refine (HN.out _ H.out.drew).mono ?_; rintro e w1 ⟨v, rfl, hv, h1, g1⟩; obtain ⟨A, m, c, rfl⟩ := own_slice hv; have p0 : w1.cell? ⟨P, 0, none⟩ = some (.pointer (some ⟨R, 0, none⟩)) := g1.cell hP KP.out; obtain ⟨vo, vc, vf⟩ := (HRu.out.drew.chg g1 hR hbB).cells 7 (by decide); have hzR : R < w1.heap.size := World.block_lt_of_cell? _ _ vc))
  all_goals
    go_wp2_with fail
    first | go_end0 | (refine bodyPost_ret (results_none rfl _ _ _) rfl ?_)
    refine ⟨rfl, h1.set hR _, ?_, ((((Chg.refl b w).drewN 1).trans g1).two R).set _ _⟩
    refine (HRu.out.drew.chg g1 hR hbB).put hRB 7 (by decide) (.slice A m c) (own_base hv hB) ?_
    intro j hj hn W x hx
    obtain rfl | rfl | rfl | rfl | rfl | rfl | rfl | rfl | rfl | rfl | rfl := eleven hj
    all_goals first | exact hx | exact absurd rfl hn
end
end Go.Proofs.YtnelecjjbmjhaaaGreatDoor
