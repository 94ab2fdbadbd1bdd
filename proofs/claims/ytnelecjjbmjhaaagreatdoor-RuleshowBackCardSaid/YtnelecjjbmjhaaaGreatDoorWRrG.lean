/- The walk of package ruleread's reader's parts: the map is made. -/
import Derived.Test.YtnelecjjbmjhaaaGreatDoorWRrE
import Derived.Maps.OwnSet
/- The walks of package ruleread's reader: the map of the parts. -/
namespace Go.Proofs.YtnelecjjbmjhaaaGreatDoor
open Go.RowKit
set_option linter.unusedSimpArgs false
set_option linter.unusedVariables false
open Go.ChangeMaps Go.MapKept

/-- An element of a map, as it is. -/
abbrev RHeld (v : Value) : Option (DataW Value × List MemPlace) := some (.held v, [])
theorem lawS : Go.Maps.Keyed Tryz.prog 9 := Go.Maps.string_keyed Tryz.underlying9
theorem keyLit_str (l : List UInt8) : Go.WideAt.IsKeyLit (.string l) := by unfold Go.WideAt.IsKeyLit; first | trivial | (simp; done)
/-- A block is a map from texts to values. -/
def MapAt (w : World) (mb n : Nat) (f : List UInt8 → Option Value) : Prop :=
  ∃ D, w.ownsMap Tryz.prog 9 RHeld mb n D ∧ Go.Maps.IsMap D ∧ ∀ x, Go.Maps.has D (.string x) = (f x).isSome ∧ ∀ z, D.atKey (.string x) (.held z) = .held ((f x).getD z)
section
variable {w w' : World} {mb n : Nat} {f : List UInt8 → Option Value}
theorem mapAt_made (w : World) : MapAt (w.alloc (.map #[] 0)) w.heap.size 0 (fun _ => none) :=
  ⟨_, World.ownsMap_made _ _ _ _, Go.Maps.isMap_empty, fun x => ⟨rfl, fun z => rfl⟩⟩
theorem MapAt.lt (h : MapAt w mb n f) : mb < w.heap.size := by obtain ⟨D, h, _⟩ := h; exact h.lt
theorem MapAt.chg {b : Nat} (h : MapAt w mb n f) (hg : Chg b w w') (hne : mb ≠ b) : MapAt w' mb n f := by
  obtain ⟨D, h1, h2⟩ := h
  exact ⟨D, h1.kept hg (by simpa using hne), h2⟩
theorem MapAt.alloc (h : MapAt w mb n f) (o : Obj) : MapAt (w.alloc o) mb n f := by
  obtain ⟨D, h1, h2⟩ := h
  exact ⟨D, h1.alloc o, h2⟩
theorem MapAt.drew (h : MapAt w mb n f) : MapAt w.drew mb n f := h
theorem MapAt.below (h : MapAt w mb n f) (hb : Below w.heap.size w w') : MapAt w' mb n f := by
  obtain ⟨D, h1, h2⟩ := h
  exact ⟨D, h1.kept (row := none) ⟨hb.os, hb.tape, hb.output, hb.size, fun i hi _ => hb.block i hi⟩ (by simp), h2⟩
theorem MapAt.look {t e : TypeId} (h : MapAt w mb n f) (ht : (Tryz.prog).underlying t = some (.map 9 e)) {z : Value} (hz : (zeroValue e).run Tryz.prog w = .ok z w) {x : ByteArray} (hx : x.size ≤ maxLen) :
    (Instr.lookup t (.map (some mb)) (.string x) true).run Tryz.prog w = .ok (.tuple #[(f x.data.toList).getD z, .bool (f x.data.toList).isSome]) w := by
  obtain ⟨D, h1, _, h2⟩ := h
  obtain ⟨v, ps, hrun, hv⟩ := h1.look_ok lawS ht hz (zd := .held z) (zp := []) rfl (Go.WideMaps.keyOf_string_mk Tryz.underlying9 hx)
  rw [(h2 _).1, (h2 _).2] at *
  cases hv
  exact hrun
theorem MapAt.look1 {t e : TypeId} (h : MapAt w mb n f) (ht : (Tryz.prog).underlying t = some (.map 9 e)) {z : Value} (hz : (zeroValue e).run Tryz.prog w = .ok z w) {x : ByteArray} (hx : x.size ≤ maxLen) :
    (Instr.lookup t (.map (some mb)) (.string x) false).run Tryz.prog w = .ok ((f x.data.toList).getD z) w := by
  obtain ⟨D, h1, _, h2⟩ := h
  obtain ⟨v, ps, hrun, hv⟩ := h1.lookup lawS ht hz (zd := .held z) (zp := []) rfl (Go.WideMaps.keyOf_string_mk Tryz.underlying9 hx)
  rw [(h2 _).2] at hv
  cases hv
  exact hrun
theorem MapAt.store {t e : TypeId} (h : MapAt w mb n f) (ht : (Tryz.prog).underlying t = some (.map 9 e)) (hn : n < maxLen) {x : ByteArray} (hx : x.size ≤ maxLen) (v : Value) :
    ∃ w', (Instr.mapUpdate t (.map (some mb)) (.string x) v).run Tryz.prog w = .ok () w' ∧ MapAt w' mb (n + 1) (fun y => if y = x.data.toList then some v else f y) ∧ Chg mb w w' := by
  obtain ⟨D, h1, hm, h2⟩ := h
  obtain ⟨w', hrun, h3, h4⟩ := h1.store lawS ht hn (Go.WideMaps.keyOf_string_mk Tryz.underlying9 hx) (d := .held v) (ps := []) (val := v) rfl
  refine ⟨w', hrun, ⟨_, h3, hm.put _ _, fun y => ?_⟩, h4.grown⟩
  by_cases e : y = x.data.toList
  · subst e
    dsimp only
    rw [if_pos rfl]
    exact ⟨Go.Maps.has_put_same hm (keyLit_str _) _, fun z => Go.Maps.atKey_put_same hm (keyLit_str _) _ _⟩
  · dsimp only
    rw [if_neg e]
    have hne : (Lit.string y) ≠ .string x.data.toList := fun h => e (by injection h)
    exact ⟨by rw [Go.Maps.has_put_other hne]; exact (h2 y).1, fun z => by rw [Go.Maps.atKey_put_other hne]; exact (h2 y).2 z⟩
end
/-- The function that reads part k. -/
def fnK (k : Nat) : FuncId := if k = 0 then 74 else if k = 1 then 77 else if k = 2 then 79 else if k = 3 then 80 else if k = 4 then 81 else if k = 5 then 83 else if k = 6 then 87 else if k = 7 then 90 else if k = 8 then 91 else 92
def clV (X P b : Nat) (s : ByteArray) (k : Nat) : Value := if k < 10 then .func (.func (fnK k)) #[] #[.pointer (some ⟨X, 0, none⟩), .pointer (some ⟨P, 0, none⟩)] else .func (.func 93) #[kV b s] #[]
/-- The map of the parts. -/
def parF (X P b : Nat) (s : ByteArray) (x : List UInt8) : Option Value := if wIdx x paN < 0 then none else some (clV X P b s (wIdx x paN).toNat)
theorem zero_func : ∀ w : World, (zeroValue 1).run Tryz.prog w = .ok .nilFunc w := fun w => by kernel_rfl
theorem zero_bool : ∀ w : World, (zeroValue 4).run Tryz.prog w = .ok (.bool false) w := fun w => by kernel_rfl
theorem part_eq {X P b : Nat} {s : ByteArray} : (fun y => if y = paN.getD 10 [] then some (clV X P b s 10) else if y = paN.getD 9 [] then some (clV X P b s 9) else if y = paN.getD 8 [] then some (clV X P b s 8) else if y = paN.getD 7 [] then some (clV X P b s 7) else if y = paN.getD 6 [] then some (clV X P b s 6) else if y = paN.getD 5 [] then some (clV X P b s 5) else if y = paN.getD 4 [] then some (clV X P b s 4) else if y = paN.getD 3 [] then some (clV X P b s 3) else if y = paN.getD 2 [] then some (clV X P b s 2) else if y = paN.getD 1 [] then some (clV X P b s 1) else if y = paN.getD 0 [] then some (clV X P b s 0) else none) = parF X P b s := by
  funext y
  unfold parF
  by_cases h0 : y = paN.getD 0 []
  · subst h0; rfl
  by_cases h1 : y = paN.getD 1 []
  · subst h1; rfl
  by_cases h2 : y = paN.getD 2 []
  · subst h2; rfl
  by_cases h3 : y = paN.getD 3 []
  · subst h3; rfl
  by_cases h4 : y = paN.getD 4 []
  · subst h4; rfl
  by_cases h5 : y = paN.getD 5 []
  · subst h5; rfl
  by_cases h6 : y = paN.getD 6 []
  · subst h6; rfl
  by_cases h7 : y = paN.getD 7 []
  · subst h7; rfl
  by_cases h8 : y = paN.getD 8 []
  · subst h8; rfl
  by_cases h9 : y = paN.getD 9 []
  · subst h9; rfl
  by_cases h10 : y = paN.getD 10 []
  · subst h10; rfl
  rw [if_neg h0, if_neg h1, if_neg h2, if_neg h3, if_neg h4, if_neg h5, if_neg h6, if_neg h7, if_neg h8, if_neg h9, if_neg h10]
  have hm : y ∉ paN := by
    intro hm
    obtain ⟨j, hj⟩ := List.getElem?_of_mem hm
    have hl := (List.getElem?_eq_some_iff.1 hj).1
    have e : y = paN.getD j [] := by rw [List.getD_eq_getElem?_getD, hj]; rfl
    obtain rfl | rfl | rfl | rfl | rfl | rfl | rfl | rfl | rfl | rfl | rfl := eleven (show j < 11 from hl)
    · exact h0 e
    · exact h1 e
    · exact h2 e
    · exact h3 e
    · exact h4 e
    · exact h5 e
    · exact h6 e
    · exact h7 e
    · exact h8 e
    · exact h9 e
    · exact h10 e
  have hi : wIdx y paN = -1 := by
    unfold wIdx
    rw [List.idxOf?_eq_none_iff.2 hm]
  rw [hi, if_pos (by decide)]
/-- It hands back the map of the parts; its boxes. -/
def RetPMap (b R : Nat) (s : ByteArray) (w : World) (x : Ending) (w' : World) : Prop := ∃ mb X P, x = .returned (.map (some mb)) ∧ KBox w' X b s ∧ w'.cell? ⟨P, 0, none⟩ = some (.pointer (some ⟨R, 0, none⟩)) ∧ MapAt w' mb 11 (parF X P b s) ∧ w.heap.size ≤ X ∧ w.heap.size ≤ P ∧ w.heap.size ≤ mb ∧ Below w.heap.size w w'
end Go.Proofs.YtnelecjjbmjhaaaGreatDoor

namespace Go.Proofs.YtnelecjjbmjhaaaGreatDoor
open Go.RowKit
set_option linter.unusedSimpArgs false
set_option linter.unusedVariables false

set_option maxRecDepth 20000 in
set_option maxHeartbeats 4000000 in
theorem parts_rr (b R : Nat) (s : ByteArray) (w : World) : Calls Tryz.prog 39 #[kV b s, .pointer (some ⟨R, 0, none⟩)] w (RetPMap b R s w) := by
  have hmm := @run_makeMap Tryz.prog
  obtain ⟨w0, hw0⟩ : ∃ x, x = ((w.alloc (.cells #[.pointer (some ⟨b, 0, none⟩), .string s] 64)).alloc (.cells #[.pointer (some ⟨R, 0, none⟩)] 73)).alloc (.map #[] 0) := ⟨_, rfl⟩
  have e1 : (w.alloc (.cells #[.pointer (some ⟨b, 0, none⟩), .string s] 64)).heap.size = w.heap.size + 1 := by simp
  have e2 : ((w.alloc (.cells #[.pointer (some ⟨b, 0, none⟩), .string s] 64)).alloc (.cells #[.pointer (some ⟨R, 0, none⟩)] 73)).heap.size = w.heap.size + 1 + 1 := by simp
  have m0 : MapAt w0 (w.heap.size + 1 + 1) 0 (fun _ => none) := by
    rw [hw0, ← e2]
    exact mapAt_made _
  have k0 : KBox w0 w.heap.size b s := by
    rw [hw0]
    exact ((kbox_new w b s _).alloc _).alloc _
  have p0 : w0.cell? ⟨w.heap.size + 1, 0, none⟩ = some (.pointer (some ⟨R, 0, none⟩)) := by
    rw [hw0, ← e1]
    exact cell_old (cell_new rfl rfl)
  have b0 : Below w.heap.size w w0 := by
    rw [hw0]
    exact (((Below.refl _ w).alloc (Nat.le_refl _) _).alloc (by simp) _).alloc (by simp; omega) _
  obtain ⟨w1, r1, m1, c1⟩ := m0.store (t := 71) (e := 1) Tryz.underlying71 (by decide) (x := ⟨#[70, 82, 69, 81]⟩) (by decide) (clV w.heap.size (w.heap.size + 1) b s 0)
  have k1 := k0.grown c1 (by simp; omega)
  have p1 := c1.cell (show w.heap.size + 1 ≠ w.heap.size + 1 + 1 by omega) p0
  have b1 := Chg.below b0 c1 (by omega) b0.size
  obtain ⟨w2, r2, m2, c2⟩ := m1.store (t := 71) (e := 1) Tryz.underlying71 (by decide) (x := ⟨#[73, 78, 84, 69, 82, 86, 65, 76]⟩) (by decide) (clV w.heap.size (w.heap.size + 1) b s 1)
  have k2 := k1.grown c2 (by simp; omega)
  have p2 := c2.cell (show w.heap.size + 1 ≠ w.heap.size + 1 + 1 by omega) p1
  have b2 := Chg.below b1 c2 (by omega) b1.size
  obtain ⟨w3, r3, m3, c3⟩ := m2.store (t := 71) (e := 1) Tryz.underlying71 (by decide) (x := ⟨#[67, 79, 85, 78, 84]⟩) (by decide) (clV w.heap.size (w.heap.size + 1) b s 2)
  have k3 := k2.grown c3 (by simp; omega)
  have p3 := c3.cell (show w.heap.size + 1 ≠ w.heap.size + 1 + 1 by omega) p2
  have b3 := Chg.below b2 c3 (by omega) b2.size
  obtain ⟨w4, r4, m4, c4⟩ := m3.store (t := 71) (e := 1) Tryz.underlying71 (by decide) (x := ⟨#[85, 78, 84, 73, 76]⟩) (by decide) (clV w.heap.size (w.heap.size + 1) b s 3)
  have k4 := k3.grown c4 (by simp; omega)
  have p4 := c4.cell (show w.heap.size + 1 ≠ w.heap.size + 1 + 1 by omega) p3
  have b4 := Chg.below b3 c4 (by omega) b3.size
  obtain ⟨w5, r5, m5, c5⟩ := m4.store (t := 71) (e := 1) Tryz.underlying71 (by decide) (x := ⟨#[66, 89, 77, 79, 78, 84, 72]⟩) (by decide) (clV w.heap.size (w.heap.size + 1) b s 4)
  have k5 := k4.grown c5 (by simp; omega)
  have p5 := c5.cell (show w.heap.size + 1 ≠ w.heap.size + 1 + 1 by omega) p4
  have b5 := Chg.below b4 c5 (by omega) b4.size
  obtain ⟨w6, r6, m6, c6⟩ := m5.store (t := 71) (e := 1) Tryz.underlying71 (by decide) (x := ⟨#[66, 89, 77, 79, 78, 84, 72, 68, 65, 89]⟩) (by decide) (clV w.heap.size (w.heap.size + 1) b s 5)
  have k6 := k5.grown c6 (by simp; omega)
  have p6 := c6.cell (show w.heap.size + 1 ≠ w.heap.size + 1 + 1 by omega) p5
  have b6 := Chg.below b5 c6 (by omega) b5.size
  obtain ⟨w7, r7, m7, c7⟩ := m6.store (t := 71) (e := 1) Tryz.underlying71 (by decide) (x := ⟨#[66, 89, 68, 65, 89]⟩) (by decide) (clV w.heap.size (w.heap.size + 1) b s 6)
  have k7 := k6.grown c7 (by simp; omega)
  have p7 := c7.cell (show w.heap.size + 1 ≠ w.heap.size + 1 + 1 by omega) p6
  have b7 := Chg.below b6 c7 (by omega) b6.size
  obtain ⟨w8, r8, m8, c8⟩ := m7.store (t := 71) (e := 1) Tryz.underlying71 (by decide) (x := ⟨#[66, 89, 72, 79, 85, 82]⟩) (by decide) (clV w.heap.size (w.heap.size + 1) b s 7)
  have k8 := k7.grown c8 (by simp; omega)
  have p8 := c8.cell (show w.heap.size + 1 ≠ w.heap.size + 1 + 1 by omega) p7
  have b8 := Chg.below b7 c8 (by omega) b7.size
  obtain ⟨w9, r9, m9, c9⟩ := m8.store (t := 71) (e := 1) Tryz.underlying71 (by decide) (x := ⟨#[66, 89, 77, 73, 78, 85, 84, 69]⟩) (by decide) (clV w.heap.size (w.heap.size + 1) b s 8)
  have k9 := k8.grown c9 (by simp; omega)
  have p9 := c9.cell (show w.heap.size + 1 ≠ w.heap.size + 1 + 1 by omega) p8
  have b9 := Chg.below b8 c9 (by omega) b8.size
  obtain ⟨w10, r10, m10, c10⟩ := m9.store (t := 71) (e := 1) Tryz.underlying71 (by decide) (x := ⟨#[66, 89, 83, 69, 67, 79, 78, 68]⟩) (by decide) (clV w.heap.size (w.heap.size + 1) b s 9)
  have k10 := k9.grown c10 (by simp; omega)
  have p10 := c10.cell (show w.heap.size + 1 ≠ w.heap.size + 1 + 1 by omega) p9
  have b10 := Chg.below b9 c10 (by omega) b9.size
  obtain ⟨w11, r11, m11, c11⟩ := m10.store (t := 71) (e := 1) Tryz.underlying71 (by decide) (x := ⟨#[87, 75, 83, 84]⟩) (by decide) (clV w.heap.size (w.heap.size + 1) b s 10)
  have k11 := k10.grown c11 (by simp; omega)
  have p11 := c11.cell (show w.heap.size + 1 ≠ w.heap.size + 1 + 1 by omega) p10
  have b11 := Chg.below b10 c11 (by omega) b10.size
  change (Instr.mapUpdate 71 (.map (some (w.heap.size + 1 + 1))) _ (.func (.func 74) #[] #[.pointer (some ⟨w.heap.size, 0, none⟩), .pointer (some ⟨w.heap.size + 1, 0, none⟩)])).run Tryz.prog w0 = _ at r1
  change (Instr.mapUpdate 71 (.map (some (w.heap.size + 1 + 1))) _ (.func (.func 77) #[] #[.pointer (some ⟨w.heap.size, 0, none⟩), .pointer (some ⟨w.heap.size + 1, 0, none⟩)])).run Tryz.prog w1 = _ at r2
  change (Instr.mapUpdate 71 (.map (some (w.heap.size + 1 + 1))) _ (.func (.func 79) #[] #[.pointer (some ⟨w.heap.size, 0, none⟩), .pointer (some ⟨w.heap.size + 1, 0, none⟩)])).run Tryz.prog w2 = _ at r3
  change (Instr.mapUpdate 71 (.map (some (w.heap.size + 1 + 1))) _ (.func (.func 80) #[] #[.pointer (some ⟨w.heap.size, 0, none⟩), .pointer (some ⟨w.heap.size + 1, 0, none⟩)])).run Tryz.prog w3 = _ at r4
  change (Instr.mapUpdate 71 (.map (some (w.heap.size + 1 + 1))) _ (.func (.func 81) #[] #[.pointer (some ⟨w.heap.size, 0, none⟩), .pointer (some ⟨w.heap.size + 1, 0, none⟩)])).run Tryz.prog w4 = _ at r5
  change (Instr.mapUpdate 71 (.map (some (w.heap.size + 1 + 1))) _ (.func (.func 83) #[] #[.pointer (some ⟨w.heap.size, 0, none⟩), .pointer (some ⟨w.heap.size + 1, 0, none⟩)])).run Tryz.prog w5 = _ at r6
  change (Instr.mapUpdate 71 (.map (some (w.heap.size + 1 + 1))) _ (.func (.func 87) #[] #[.pointer (some ⟨w.heap.size, 0, none⟩), .pointer (some ⟨w.heap.size + 1, 0, none⟩)])).run Tryz.prog w6 = _ at r7
  change (Instr.mapUpdate 71 (.map (some (w.heap.size + 1 + 1))) _ (.func (.func 90) #[] #[.pointer (some ⟨w.heap.size, 0, none⟩), .pointer (some ⟨w.heap.size + 1, 0, none⟩)])).run Tryz.prog w7 = _ at r8
  change (Instr.mapUpdate 71 (.map (some (w.heap.size + 1 + 1))) _ (.func (.func 91) #[] #[.pointer (some ⟨w.heap.size, 0, none⟩), .pointer (some ⟨w.heap.size + 1, 0, none⟩)])).run Tryz.prog w8 = _ at r9
  change (Instr.mapUpdate 71 (.map (some (w.heap.size + 1 + 1))) _ (.func (.func 92) #[] #[.pointer (some ⟨w.heap.size, 0, none⟩), .pointer (some ⟨w.heap.size + 1, 0, none⟩)])).run Tryz.prog w9 = _ at r10
  change (Instr.mapUpdate 71 (.map (some (w.heap.size + 1 + 1))) _ (.func (.func 93) #[kV b s] #[])).run Tryz.prog w10 = _ at r11
  have kc0 := k10.1
  have kc1 := k10.2
  have hz : w.heap.size < w10.heap.size := World.block_lt_of_cell? _ _ kc0
  have HM : Hid (MapAt w11 (w.heap.size + 1 + 1) 11 (parF w.heap.size (w.heap.size + 1) b s)) := by
    show MapAt _ _ _ _
    rw [← part_eq]
    exact m11
  have HK := Lib.hid k11
  have HP := Lib.hid p11
  have HB := Lib.hid b11
  clear m0 m1 m2 m3 m4 m5 m6 m7 m8 m9 m10 m11 c1 c2 c3 c4 c5 c6 c7 c8 c9 c10 c11 k0 k1 k2 k3 k4 k5 k6 k7 k8 k9 k10 k11 p0 p1 p2 p3 p4 p5 p6 p7 p8 p9 p10 p11 b0 b1 b2 b3 b4 b5 b6 b7 b8 b9 b10 b11 e1 e2
  subst hw0
  go_enter Tryz.func39, Tryz.ntmps39
  go_wp2
  go_ret
  exact ⟨w.heap.size + 1 + 1, w.heap.size, w.heap.size + 1, rfl, HK.out, HP.out, HM.out, Nat.le_refl _, by omega, by omega, HB.out⟩
end Go.Proofs.YtnelecjjbmjhaaaGreatDoor
