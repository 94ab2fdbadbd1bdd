/- The walks of package ruleread's reader: the map of the parts. -/
import Derived.Test.YtnelecjjbmjhaaaGreatWRrE
import Derived.Maps.OwnSet
namespace Go.Proofs.YtnelecjjbmjhaaaGreat
open Go.RowKit
set_option linter.unusedSimpArgs false
set_option linter.unusedVariables false
open Go.ChangeMaps Go.MapKept

/-- An element of a map, as it is. -/
abbrev RHeld (v : Value) : Option (DataW Value × List MemPlace) := some (.held v, [])
theorem lawS : Go.Maps.Keyed Tryz.prog 9 := Go.Maps.string_keyed Tryz.underlying9
theorem keyLit_str (l : List UInt8) : Go.WideAt.IsKeyLit (.string l) := by unfold Go.WideAt.IsKeyLit; first | trivial | (simp; done)
/-- A block is a map from texts to values. -/
def MapAt (w : World) (mb n : Nat) (f : List UInt8 → Option Value) : Prop :=
  ∃ D, w.ownsMap Tryz.prog 9 RHeld mb n D ∧ Go.Maps.IsMap D ∧ ∀ x, Go.Maps.has D (.string x) = (f x).isSome ∧ ∀ z, D.atKey (.string x) (.held z) = .held ((f x).getD z)
section
variable {w w' : World} {mb n : Nat} {f : List UInt8 → Option Value}
theorem mapAt_made (w : World) : MapAt (w.alloc (.map #[] 0)) w.heap.size 0 (fun _ => none) :=
  ⟨_, World.ownsMap_made _ _ _ _, Go.Maps.isMap_empty, fun x => ⟨rfl, fun z => rfl⟩⟩
theorem MapAt.lt (h : MapAt w mb n f) : mb < w.heap.size := by obtain ⟨D, h, _⟩ := h; exact h.lt
theorem MapAt.chg {b : Nat} (h : MapAt w mb n f) (hg : Chg b w w') (hne : mb ≠ b) : MapAt w' mb n f := by
  obtain ⟨D, h1, h2⟩ := h
  exact ⟨D, h1.kept hg (by simpa using hne), h2⟩
theorem MapAt.alloc (h : MapAt w mb n f) (o : Obj) : MapAt (w.alloc o) mb n f := by
  obtain ⟨D, h1, h2⟩ := h
  exact ⟨D, h1.alloc o, h2⟩
theorem MapAt.drew (h : MapAt w mb n f) : MapAt w.drew mb n f := h
theorem MapAt.below (h : MapAt w mb n f) (hb : Below w.heap.size w w') : MapAt w' mb n f := by
  obtain ⟨D, h1, h2⟩ := h
  exact ⟨D, h1.kept (row := none) ⟨hb.os, hb.tape, hb.output, hb.size, fun i hi _ => hb.block i hi⟩ (by simp), h2⟩
theorem MapAt.look {t e : TypeId} (h : MapAt w mb n f) (ht : (Tryz.prog).underlying t = some (.map 9 e)) {z : Value} (hz : (zeroValue e).run Tryz.prog w = .ok z w) {x : ByteArray} (hx : x.size ≤ maxLen) :
    (Instr.lookup t (.map (some mb)) (.string x) true).run Tryz.prog w = .ok (.tuple #[(f x.data.toList).getD z, .bool (f x.data.toList).isSome]) w := by
  obtain ⟨D, h1, _, h2⟩ := h
  obtain ⟨v, ps, hrun, hv⟩ := h1.look_ok lawS ht hz (zd := .held z) (zp := []) rfl (Go.WideMaps.keyOf_string_mk Tryz.underlying9 hx)
  rw [(h2 _).1, (h2 _).2] at *
  cases hv
  exact hrun
theorem MapAt.look1 {t e : TypeId} (h : MapAt w mb n f) (ht : (Tryz.prog).underlying t = some (.map 9 e)) {z : Value} (hz : (zeroValue e).run Tryz.prog w = .ok z w) {x : ByteArray} (hx : x.size ≤ maxLen) :
    (Instr.lookup t (.map (some mb)) (.string x) false).run Tryz.prog w = .ok ((f x.data.toList).getD z) w := by
  obtain ⟨D, h1, _, h2⟩ := h
  obtain ⟨v, ps, hrun, hv⟩ := h1.lookup lawS ht hz (zd := .held z) (zp := []) rfl (Go.WideMaps.keyOf_string_mk Tryz.underlying9 hx)
  rw [(h2 _).2] at hv
  cases hv
  exact hrun
theorem MapAt.store {t e : TypeId} (h : MapAt w mb n f) (ht : (Tryz.prog).underlying t = some (.map 9 e)) (hn : n < maxLen) {x : ByteArray} (hx : x.size ≤ maxLen) (v : Value) :
    ∃ w', (Instr.mapUpdate t (.map (some mb)) (.string x) v).run Tryz.prog w = .ok () w' ∧ MapAt w' mb (n + 1) (fun y => if y = x.data.toList then some v else f y) ∧ Chg mb w w' := by
  obtain ⟨D, h1, hm, h2⟩ := h
  obtain ⟨w', hrun, h3, h4⟩ := h1.store lawS ht hn (Go.WideMaps.keyOf_string_mk Tryz.underlying9 hx) (d := .held v) (ps := []) (val := v) rfl
  refine ⟨w', hrun, ⟨_, h3, hm.put _ _, fun y => ?_⟩, h4.grown⟩
  by_cases e : y = x.data.toList
  · subst e
    dsimp only
    rw [if_pos rfl]
    exact ⟨Go.Maps.has_put_same hm (keyLit_str _) _, fun z => Go.Maps.atKey_put_same hm (keyLit_str _) _ _⟩
  · dsimp only
    rw [if_neg e]
    have hne : (Lit.string y) ≠ .string x.data.toList := fun h => e (by injection h)
    exact ⟨by rw [Go.Maps.has_put_other hne]; exact (h2 y).1, fun z => by rw [Go.Maps.atKey_put_other hne]; exact (h2 y).2 z⟩
end
/-- The function that reads part k. -/
def fnK (k : Nat) : FuncId := if k = 0 then 31 else if k = 1 then 34 else if k = 2 then 36 else if k = 3 then 37 else if k = 4 then 38 else if k = 5 then 40 else if k = 6 then 44 else if k = 7 then 47 else if k = 8 then 48 else 49
def clV (X P b : Nat) (s : ByteArray) (k : Nat) : Value := if k < 10 then .func (.func (fnK k)) #[] #[.pointer (some ⟨X, 0, none⟩), .pointer (some ⟨P, 0, none⟩)] else .func (.func 50) #[kV b s] #[]
/-- The map of the parts. -/
def parF (X P b : Nat) (s : ByteArray) (x : List UInt8) : Option Value := if wIdx x paN < 0 then none else some (clV X P b s (wIdx x paN).toNat)
theorem zero_func : ∀ w : World, (zeroValue 1).run Tryz.prog w = .ok .nilFunc w := fun w => by kernel_rfl
theorem zero_bool : ∀ w : World, (zeroValue 4).run Tryz.prog w = .ok (.bool false) w := fun w => by kernel_rfl
theorem part_eq {X P b : Nat} {s : ByteArray} : (fun y => if y = paN.getD 10 [] then some (clV X P b s 10) else if y = paN.getD 9 [] then some (clV X P b s 9) else if y = paN.getD 8 [] then some (clV X P b s 8) else if y = paN.getD 7 [] then some (clV X P b s 7) else if y = paN.getD 6 [] then some (clV X P b s 6) else if y = paN.getD 5 [] then some (clV X P b s 5) else if y = paN.getD 4 [] then some (clV X P b s 4) else if y = paN.getD 3 [] then some (clV X P b s 3) else if y = paN.getD 2 [] then some (clV X P b s 2) else if y = paN.getD 1 [] then some (clV X P b s 1) else if y = paN.getD 0 [] then some (clV X P b s 0) else none) = parF X P b s := by
  funext y
  unfold parF
  by_cases h0 : y = paN.getD 0 []
  · subst h0; rfl
  by_cases h1 : y = paN.getD 1 []
  · subst h1; rfl
  by_cases h2 : y = paN.getD 2 []
  · subst h2; rfl
  by_cases h3 : y = paN.getD 3 []
  · subst h3; rfl
  by_cases h4 : y = paN.getD 4 []
  · subst h4; rfl
  by_cases h5 : y = paN.getD 5 []
  · subst h5; rfl
  by_cases h6 : y = paN.getD 6 []
  · subst h6; rfl
  by_cases h7 : y = paN.getD 7 []
  · subst h7; rfl
  by_cases h8 : y = paN.getD 8 []
  · subst h8; rfl
  by_cases h9 : y = paN.getD 9 []
  · subst h9; rfl
  by_cases h10 : y = paN.getD 10 []
  · subst h10; rfl
  rw [if_neg h0, if_neg h1, if_neg h2, if_neg h3, if_neg h4, if_neg h5, if_neg h6, if_neg h7, if_neg h8, if_neg h9, if_neg h10]
  have hm : y ∉ paN := by
    intro hm
    obtain ⟨j, hj⟩ := List.getElem?_of_mem hm
    have hl := (List.getElem?_eq_some_iff.1 hj).1
    have e : y = paN.getD j [] := by rw [List.getD_eq_getElem?_getD, hj]; rfl
    obtain rfl | rfl | rfl | rfl | rfl | rfl | rfl | rfl | rfl | rfl | rfl := eleven (show j < 11 from hl)
    · exact h0 e
    · exact h1 e
    · exact h2 e
    · exact h3 e
    · exact h4 e
    · exact h5 e
    · exact h6 e
    · exact h7 e
    · exact h8 e
    · exact h9 e
    · exact h10 e
  have hi : wIdx y paN = -1 := by
    unfold wIdx
    rw [List.idxOf?_eq_none_iff.2 hm]
  rw [hi, if_pos (by decide)]
/-- It hands back the map of the parts; its boxes. -/
def RetPMap (b R : Nat) (s : ByteArray) (w : World) (x : Ending) (w' : World) : Prop := ∃ mb X P, x = .returned (.map (some mb)) ∧ KBox w' X b s ∧ w'.cell? ⟨P, 0, none⟩ = some (.pointer (some ⟨R, 0, none⟩)) ∧ MapAt w' mb 11 (parF X P b s) ∧ w.heap.size ≤ X ∧ w.heap.size ≤ P ∧ w.heap.size ≤ mb ∧ Below w.heap.size w w'
end Go.Proofs.YtnelecjjbmjhaaaGreat
