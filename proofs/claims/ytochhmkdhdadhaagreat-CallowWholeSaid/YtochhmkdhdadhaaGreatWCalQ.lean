/- The walk of package calread's Read. -/
import Derived.Test.YtochhmkdhdadhaaGreatWCalC
import Derived.Test.YtochhmkdhdadhaaGreatWCalH
import Derived.Test.YtochhmkdhdadhaaGreatWCalM
import Derived.Test.YtochhmkdhdadhaaGreatRCalMay
/- The walk of package calread's nick: the words that are short for texts. -/
namespace Go.Proofs.YtochhmkdhdadhaaGreat
open Go.RowKit
set_option linter.unusedSimpArgs false
set_option linter.unusedVariables false

def nickW (k : Nat) : List UInt8 := (knicks.getD k ([], [])).1
def nickT (k : Nat) : List UInt8 := (knicks.getD k ([], [])).2
def nickAgg : Value := .agg #[.string ⟨#[109, 105, 110, 117, 116, 101, 108, 121]⟩, .string ⟨#[42, 45, 42, 45, 42, 32, 42, 58, 42, 58, 48, 48]⟩, .string ⟨#[104, 111, 117, 114, 108, 121]⟩, .string ⟨#[42, 45, 42, 45, 42, 32, 42, 58, 48, 48, 58, 48, 48]⟩, .string ⟨#[100, 97, 105, 108, 121]⟩, .string ⟨#[42, 45, 42, 45, 42, 32, 48, 48, 58, 48, 48, 58, 48, 48]⟩, .string ⟨#[119, 101, 101, 107, 108, 121]⟩, .string ⟨#[77, 111, 110, 32, 42, 45, 42, 45, 42, 32, 48, 48, 58, 48, 48, 58, 48, 48]⟩, .string ⟨#[109, 111, 110, 116, 104, 108, 121]⟩, .string ⟨#[42, 45, 42, 45, 48, 49, 32, 48, 48, 58, 48, 48, 58, 48, 48]⟩, .string ⟨#[113, 117, 97, 114, 116, 101, 114, 108, 121]⟩, .string ⟨#[42, 45, 48, 49, 44, 48, 52, 44, 48, 55, 44, 49, 48, 45, 48, 49, 32, 48, 48, 58, 48, 48, 58, 48, 48]⟩, .string ⟨#[115, 101, 109, 105, 97, 110, 110, 117, 97, 108, 108, 121]⟩, .string ⟨#[42, 45, 48, 49, 44, 48, 55, 45, 48, 49, 32, 48, 48, 58, 48, 48, 58, 48, 48]⟩, .string ⟨#[121, 101, 97, 114, 108, 121]⟩, .string ⟨#[42, 45, 48, 49, 45, 48, 49, 32, 48, 48, 58, 48, 48, 58, 48, 48]⟩, .string ⟨#[97, 110, 110, 117, 97, 108, 108, 121]⟩, .string ⟨#[42, 45, 48, 49, 45, 48, 49, 32, 48, 48, 58, 48, 48, 58, 48, 48]⟩]
theorem nick_row (k : Nat) (hk : k < 9) (w : World) : (Instr.index 122 nickAgg (.int .i64 (k : Int))).run Tryz.prog w = .ok (.agg #[.string (strB (nickW k)), .string (strB (nickT k))]) w := by
  obtain rfl | rfl | rfl | rfl | rfl | rfl | rfl | rfl | rfl : k = 0 ∨ k = 1 ∨ k = 2 ∨ k = 3 ∨ k = 4 ∨ k = 5 ∨ k = 6 ∨ k = 7 ∨ k = 8 := by omega
  all_goals kernel_rfl
theorem nick_hit {l : List UInt8} {k : Nat} (hk : k < 9) (H : ∀ j, j < k → lowerL l ≠ nickW j) (h : lowerL l = nickW k) : knick l = nickT k := by
  have hf : knicks.find? (fun p => decide (lowerL l = p.1)) = some (nickW k, nickT k) := by
    rw [List.find?_eq_some_iff_getElem]
    refine ⟨decide_eq_true h, k, hk, ?_, fun j hj => ?_⟩
    · unfold nickW nickT
      rw [List.getD_eq_getElem?_getD, List.getElem?_eq_getElem hk]; rfl
    · have hj9 : j < knicks.length := Nat.lt_trans hj hk
      have := H j hj
      unfold nickW at this
      rw [List.getD_eq_getElem?_getD, List.getElem?_eq_getElem hj9] at this
      simpa using this
  unfold knick
  rw [hf]
theorem nick_miss {l : List UInt8} (H : ∀ j, j < 9 → lowerL l ≠ nickW j) : knick l = [] := by
  have hf : knicks.find? (fun p => decide (lowerL l = p.1)) = none := by
    rw [List.find?_eq_none]
    intro p hp
    obtain ⟨j, hj⟩ := List.getElem?_of_mem hp
    have hj9 : j < 9 := (List.getElem?_eq_some_iff.1 hj).1
    have := H j hj9
    unfold nickW at this
    rw [List.getD_eq_getElem?_getD, hj] at this
    simpa using this
  unfold knick
  rw [hf]
set_option maxRecDepth 20000 in
set_option maxHeartbeats 2000000 in
theorem nick_any (s : ByteArray) (hs : s.size ≤ 1000000) (w : World) : Calls Tryz.prog 43 #[.string s] w (Ret (.string (strB (knick s.data.toList))) w) := by
  have HS := Lib.hid (fun W => csmall_any s (by omega) W)
  have HM := Lib.hid (fun H => nick_miss (l := s.data.toList) H)
  have HH := Lib.hid (fun k hk H h => nick_hit (l := s.data.toList) (k := k) hk H h)
  generalize knick s.data.toList = z at *
  generalize lowerL s.data.toList = x at *
  have hix0 := Lib.hid (fun k hk W => nick_row k hk W)
  unfold nickAgg at hix0
  go_enter Tryz.func43, Tryz.ntmps43
  go_wp2
  go_loopw [15] (fun i wr => ∃ k : Nat, k ≤ 9 ∧ i = .int .i64 k ∧ Hid (∀ j, j < k → x ≠ nickW j) ∧ Below w.heap.size w wr) (fun i _ => 9 - (intOf i).toNat)
  case atStart => exact ⟨0, by omega, rfl, fun j h => absurd h (Nat.not_lt_zero _), Below.refl _ _⟩
  case round =>
    obtain ⟨k, hk, rfl, HN, hb⟩ := hrel
    have hsz := hb.size
    by_cases hlt : k < 9
    · have hlt' : (k : Int) < 9 := by omega
      have hix := fun W => hix0.out k hlt W
      by_cases he : x = nickW k
      · have HZ : Hid (z = nickT k) := HH.out k hlt HN.out he
        have hT := str_test true (decide_eq_true he)
        clear he
        go_wp2
        generalize hW : World.alloc wr _ = W1
        have hb0 : Below wr.heap.size wr W1 := by rw [← hW]; exact (Below.refl _ wr).alloc (Nat.le_refl _) _
        have c0 : ∀ x : Ext W1, x.W.cell? ⟨wr.heap.size, 0, none⟩ = some (.string (strB (nickW k))) := fun x => x.cell (by subst hW; simp [go_sem])
        have c1 : ∀ x : Ext W1, x.W.cell? ⟨wr.heap.size, 1, none⟩ = some (.string (strB (nickT k))) := fun x => x.cell (by subst hW; simp [go_sem])
        clear hW
        refine wp_region_grew (by kernel_rfl) (by kernel_rfl) ?_
        repeat (first | go_big_quiet_skip | (go_big_quiet_want; go_big_quiet_op; (first | go_big_quiet_on | go_big_quiet_call ((with_reducible exact ext_call _ (HS.out _))))))
        refine wpQuiet_nil ?_
        rintro _ ⟨xw, rfl⟩
        have hbx : Below w.heap.size w xw.W := bthen hb (bthen hb0 xw.h hb0.size) hsz
        go_wp2
        go_ret
        exact ⟨by rw [HZ.out]; rfl, hbx⟩
      · have HN2 := Lib.hid he
        have hT := str_test false (decide_eq_false he)
        clear he
        go_wp2
        generalize hW : World.alloc wr _ = W1
        have hb0 : Below wr.heap.size wr W1 := by rw [← hW]; exact (Below.refl _ wr).alloc (Nat.le_refl _) _
        have c0 : ∀ x : Ext W1, x.W.cell? ⟨wr.heap.size, 0, none⟩ = some (.string (strB (nickW k))) := fun x => x.cell (by subst hW; simp [go_sem])
        have c1 : ∀ x : Ext W1, x.W.cell? ⟨wr.heap.size, 1, none⟩ = some (.string (strB (nickT k))) := fun x => x.cell (by subst hW; simp [go_sem])
        clear hW
        refine wp_region_grew (by kernel_rfl) (by kernel_rfl) ?_
        repeat (first | go_big_quiet_skip | (go_big_quiet_want; go_big_quiet_op; (first | go_big_quiet_on | go_big_quiet_call ((with_reducible exact ext_call _ (HS.out _))))))
        refine wpQuiet_nil ?_
        rintro _ ⟨xw, rfl⟩
        have hbx : Below w.heap.size w xw.W := bthen hb (bthen hb0 xw.h hb0.size) hsz
        go_wp2
        go_roundw
        case rel => exact ⟨k + 1, by omega, by go_num, upto_succ HN.out HN2.out, hbx⟩
        case measure => simp [intOf]; omega
    · obtain rfl : k = 9 := by omega
      have HZ : Hid (z = []) := HM.out HN.out
      go_wp2
      go_ret
      exact ⟨by rw [HZ.out]; rfl, hb⟩
end Go.Proofs.YtochhmkdhdadhaaGreat

/- The walk of package calread's filled. -/
/- The walk of package calread's filled: what lacks in an event. -/
namespace Go.Proofs.YtochhmkdhdadhaaGreat
open Go.RowKit
set_option linter.unusedSimpArgs false
set_option linter.unusedVariables false

/-- The value of an event. -/
def calV (g : Nat → Value) : Value := .agg #[g 0, g 1, g 2, g 3, g 4, g 5, g 6, g 7]
/-- A list of items in a value, outside block C. -/
def FL (w : World) (C D : Nat) (v : Value) (l : List It) : Prop := ∃ A n c, v = .slice A n c ∧ RdIts w A n l ∧ (∀ p, A = some p → p.block ≠ C ∧ p.block ≠ C + 1 ∧ p.block ≠ D) ∧ (l = [] → v = .slice none 0 0)
/-- A list of items in a value, outside block D. -/
def ListV (w : World) (D : Nat) (v : Value) (l : List It) : Prop := ∃ A n c, v = .slice A n c ∧ RdIts w A n l ∧ (∀ p, A = some p → p.block ≠ D) ∧ (l = [] → v = .slice none 0 0)
/-- The event in a value. -/
def CalRd (w : World) (D : Nat) (g : Nat → Value) (c : CalV) : Prop := g 4 = .bool c.back ∧ ∀ j, j < 8 → j ≠ 4 → ListV w D (g j) (calL c j)
def RetCal (c : CalV) (D : Nat) (w : World) (e : Ending) (w' : World) : Prop := ∃ g, e = .returned (calV g) ∧ CalRd w' D g c ∧ Below w.heap.size w w'
section
variable {w w' : World} {C D : Nat} {v : Value} {l : List It}
theorem ListV.below (h : ListV w D v l) (hb : Below w.heap.size w w') : ListV w' D v l := by
  obtain ⟨A, n, c, e, h1, hp, h2⟩ := h
  exact ⟨A, n, c, e, Rd.below h1 hb (Nat.le_refl _), hp, h2⟩
theorem CalRd.below {g : Nat → Value} {c : CalV} (h : CalRd w D g c) (hb : Below w.heap.size w w') : CalRd w' D g c := ⟨h.1, fun j hj h4 => (h.2 j hj h4).below hb⟩
theorem FL.list (h : FL w C D v l) : ListV w D v l := by
  obtain ⟨A, n, c, e, h1, hp, h2⟩ := h
  exact ⟨A, n, c, e, h1, fun p h => (hp p h).2.2, h2⟩
theorem FL.of_list (h : ListV w D v l) (hC : w.heap.size ≤ C) : FL w C D v l := by
  obtain ⟨A, n, c, e, h1, hD, h2⟩ := h
  refine ⟨A, n, c, e, h1, fun p hp => ?_, h2⟩
  have hpD := hD p hp
  by_cases hn : 0 < n
  · obtain ⟨b, o, e2, hlt, _⟩ := h1.2 hn
    rw [hp] at e2; cases e2
    refine ⟨?_, ?_, hpD⟩
    · show b ≠ C; omega
    · show b ≠ C + 1; omega
  · have : l = [] := List.length_eq_zero_iff.1 (by have := h1.1; omega)
    have := h2 this
    rw [e, hp] at this
    cases this
theorem FL.below (h : FL w C D v l) (hb : Below w.heap.size w w') : FL w' C D v l := by
  obtain ⟨A, n, c, e, h1, hp, h2⟩ := h
  exact ⟨A, n, c, e, Rd.below h1 hb (Nat.le_refl _), hp, h2⟩
theorem FL.set (h : FL w C D v l) {B : Nat} (hB : B = C ∨ B = C + 1) (j : Nat) (u : Value) : FL (w.setCell ⟨B, j, none⟩ u) C D v l := by
  obtain ⟨A, n, c, e, h1, hp, h2⟩ := h
  refine ⟨A, n, c, e, ⟨h1.1, fun hn => ?_⟩, hp, h2⟩
  obtain ⟨b, o, e2, hlt, hc⟩ := h1.2 hn
  have hne : b ≠ B := by
    have := hp _ e2
    dsimp only at this
    omega
  refine ⟨b, o, e2, by simpa [World.setCell] using hlt, fun i x hi k v hk => ?_⟩
  rw [World.cell?_setCell_other _ _ _ _ (by intro e; injection e with e1; exact hne e1.symm)]
  exact hc i x hi k v hk
theorem FL.new (w : World) (hC : C + 1 < w.heap.size) (hD : D < w.heap.size) (i : It) : FL (w.alloc (.cells #[.int .i64 i.k, .int .i64 i.f, .int .i64 i.t, .int .i64 i.s] 59)) C D (.slice (some ⟨w.heap.size, 0, none⟩) 1 1) [i] := by
  have h1 := own_new w #[.int .i64 i.k, .int .i64 i.f, .int .i64 i.t, .int .i64 i.s] 59 4 1 (by decide) rfl
  obtain ⟨A, c, e, _, _, h3, h4⟩ := Rd.of_own (l := [i]) itEnc_len h1 rfl
  cases e
  exact ⟨_, _, _, rfl, h3, fun p hp => by have := h4 p hp; omega, fun h => by cases h⟩
end
/-- An event in a block, its lists elsewhere. -/
def CalF (w : World) (C D : Nat) (c : CalV) : Prop := ∃ g : Nat → Value, Arr w C 8 g ∧ g 4 = .bool c.back ∧ ∀ j, j < 8 → j ≠ 4 → FL w C D (g j) (calL c j)
section
variable {w w' : World} {C D : Nat} {c c' : CalV}
theorem CalF.lt (h : CalF w C D c) : C < w.heap.size := by obtain ⟨g, h1, _⟩ := h; exact h1.lt (by decide)
theorem CalF.frz (h : CalF w C D c) : ∀ j, w.frozen? ⟨C, j, none⟩ = false := by obtain ⟨g, h1, _⟩ := h; exact h1.2
theorem CalF.below (h : CalF w C D c) (hb : Below w.heap.size w w') : CalF w' C D c := by
  obtain ⟨g, h1, h2, h3⟩ := h
  exact ⟨g, h1.below (h1.lt (by decide)) hb, h2, fun j hj h4 => (h3 j hj h4).below hb⟩
theorem CalF.alloc (h : CalF w C D c) (o : Obj) : CalF (w.alloc o) C D c := h.below ((Below.refl _ w).alloc (Nat.le_refl _) _)
theorem CalF.setL (h : CalF w C D c) (j : Nat) (hj : j < 8) (h4 : j ≠ 4) (v : Value) (hv : FL w C D v (calL c' j)) (ho : ∀ k, k < 8 → k ≠ j → calL c' k = calL c k) (hb : c'.back = c.back) : CalF (w.setCell ⟨C, j, none⟩ v) C D c' := by
  obtain ⟨g, h1, h2, h3⟩ := h
  refine ⟨fun k => if k = j then v else g k, Arr.set h1 j hj v (if_pos rfl) (fun k _ hk => if_neg hk), by dsimp only; rw [if_neg (fun e => h4 e.symm), h2, hb], fun k hk hk4 => ?_⟩
  by_cases e : k = j
  · subst e; dsimp only; rw [if_pos rfl]; exact hv.set (.inl rfl) _ _
  · dsimp only; rw [if_neg e, ho k hk e]; exact (h3 k hk hk4).set (.inl rfl) _ _
/-- The list in a cell: none where it lacks, one where it does not. -/
theorem CalF.at_ (h : CalF w C D c) (j : Nat) (hj : j < 8) (h4 : j ≠ 4) : (calL c j = [] ∧ w.cell? ⟨C, j, none⟩ = some (.slice none 0 0)) ∨ (calL c j ≠ [] ∧ ∃ p n m, w.cell? ⟨C, j, none⟩ = some (.slice (some p) n m)) := by
  obtain ⟨g, h1, h2, h3⟩ := h
  obtain ⟨A, n, m, e, h5, h6, h7⟩ := h3 j hj h4
  by_cases hl : calL c j = []
  · exact .inl ⟨hl, by rw [h1.1 j hj, h7 hl]⟩
  · right
    refine ⟨hl, ?_⟩
    have hn : 0 < n := by
      have := h5.1
      rcases hh : calL c j with _ | ⟨x, r⟩
      · exact absurd hh hl
      · rw [hh] at this; simp at this; omega
    obtain ⟨b, o, e2, _⟩ := h5.2 hn
    exact ⟨⟨b, o, none⟩, n, m, by rw [h1.1 j hj, e, e2]⟩
/-- The cells of the event. -/
theorem CalF.cells (h : CalF w C D c) : ∃ (A : Nat → Option Addr) (n m : Nat → Nat), (∀ j, j < 8 → w.cell? ⟨C, j, none⟩ = some (if j = 4 then .bool c.back else .slice (A j) (n j) (m j))) ∧ ∀ j, j < 8 → j ≠ 4 → FL w C D (.slice (A j) (n j) (m j)) (calL c j) := by
  obtain ⟨g, h1, h2, h3⟩ := h
  have hx : ∀ j, ∃ x : Option Addr × Nat × Nat, j < 8 → j ≠ 4 → g j = .slice x.1 x.2.1 x.2.2 := fun j => by
    by_cases hj : j < 8 ∧ j ≠ 4
    · obtain ⟨A, n, m, e, _⟩ := h3 j hj.1 hj.2
      exact ⟨(A, n, m), fun _ _ => e⟩
    · exact ⟨(none, 0, 0), fun a b => absurd ⟨a, b⟩ hj⟩
  refine ⟨fun j => (hx j).choose.1, fun j => (hx j).choose.2.1, fun j => (hx j).choose.2.2, fun j hj => ?_, fun j hj h4 => ?_⟩
  · rw [h1.1 j hj]
    by_cases h4 : j = 4
    · subst h4; rw [if_pos rfl, h2]
    · rw [if_neg h4, (hx j).choose_spec hj h4]
  · dsimp only
    rw [← (hx j).choose_spec hj h4]; exact h3 j hj h4
theorem calF_new (w : World) (g : Nat → Value) (c : CalV) (h : CalRd w D g c) (t : TypeId) : CalF (w.alloc (.cells #[g 0, g 1, g 2, g 3, g 4, g 5, g 6, g 7] t)) w.heap.size D c := by
  refine ⟨g, arr_new w #[g 0, g 1, g 2, g 3, g 4, g 5, g 6, g 7] t g (fun j hj => ?_), h.1, fun j hj h4 => (FL.of_list (h.2 j hj h4) (Nat.le_refl _)).below ((Below.refl _ w).alloc (Nat.le_refl _) _)⟩
  obtain rfl | rfl | rfl | rfl | rfl | rfl | rfl | rfl : j = 0 ∨ j = 1 ∨ j = 2 ∨ j = 3 ∨ j = 4 ∨ j = 5 ∨ j = 6 ∨ j = 7 := by simp at hj; omega
  all_goals rfl
end
/-- The event with its first k fields filled. -/
def fillK (k : Nat) (c : CalV) : CalV := ⟨c.week, if 0 < k then orL c.year [⟨0, 0, 0, 1⟩] else c.year, if 1 < k then orL c.month [⟨0, 0, 0, 1⟩] else c.month, if 2 < k then orL c.day [⟨0, 0, 0, 1⟩] else c.day, c.back,
  if 3 < k then orL c.hour [⟨1, 0, 0, 0⟩] else c.hour, if 4 < k then orL c.minute [⟨1, 0, 0, 0⟩] else c.minute, if 5 < k then orL c.second [⟨1, 0, 0, 0⟩] else c.second⟩
def fillRow (C o : Nat) : Value := if o = 0 then .pointer (some ⟨C, 1, none⟩) else if o = 5 then .pointer (some ⟨C, 2, none⟩) else if o = 10 then .pointer (some ⟨C, 3, none⟩) else if o = 15 then .pointer (some ⟨C, 5, none⟩) else if o = 20 then .pointer (some ⟨C, 6, none⟩) else if o = 25 then .pointer (some ⟨C, 7, none⟩)
  else if o = 4 ∨ o = 9 ∨ o = 14 ∨ o = 16 ∨ o = 21 ∨ o = 26 then .int .i64 1 else .int .i64 0
def calZ (j : Nat) : Value := if j = 4 then .bool false else .slice none 0 0
/-- What filled has in memory: the event, its result, the row of what is to be filled. -/
structure Fill (w wr : World) (D : Nat) (c : CalV) : Prop where
  cal : CalF wr w.heap.size D c
  res : Arr wr (w.heap.size + 1) 8 calZ
  row : Arr wr (w.heap.size + 4) 30 (fillRow w.heap.size)
  below : Below w.heap.size w wr
section
variable {w wr : World} {D : Nat} {c c' : CalV}
theorem Fill.alloc (h : Fill w wr D c) (o : Obj) : Fill w (wr.alloc o) D c :=
  ⟨h.cal.alloc o, h.res.alloc (h.res.lt (by decide)) o, h.row.alloc (h.row.lt (by decide)) o, h.below.alloc h.below.size _⟩
theorem Fill.setL (h : Fill w wr D c) (j : Nat) (hj : j < 8) (h4 : j ≠ 4) (v : Value) (hv : FL wr w.heap.size D v (calL c' j)) (ho : ∀ k, k < 8 → k ≠ j → calL c' k = calL c k) (hb : c'.back = c.back) : Fill w (wr.setCell ⟨w.heap.size, j, none⟩ v) D c' :=
  ⟨h.cal.setL j hj h4 v hv ho hb, h.res.other (by omega), h.row.other (by omega), h.below.setCell (Nat.le_refl _) _⟩
theorem Fill.setA (h : Fill w wr D c) (o o' : Obj) (j : Nat) (hj : j < 8) (h4 : j ≠ 4) (v : Value) (hv : FL ((wr.alloc o).alloc o') w.heap.size D v (calL c' j)) (ho : ∀ k, k < 8 → k ≠ j → calL c' k = calL c k) (hb : c'.back = c.back) : Fill w (((wr.setCell ⟨w.heap.size, j, none⟩ v).alloc o).alloc o') D c' := by
  have h0 := h.cal.lt
  rw [← World.setCell_alloc_past _ _ _ _ h0, ← World.setCell_alloc_past _ _ _ _ ((h.cal.alloc o).lt)]
  exact ((h.alloc o).alloc o').setL j hj h4 v hv ho hb
theorem fl_new2 (o : Obj) {C : Nat} (hC : C + 1 < wr.heap.size) (hD : D < wr.heap.size) (i : It) : FL ((wr.alloc o).alloc (.cells #[.int .i64 i.k, .int .i64 i.f, .int .i64 i.t, .int .i64 i.s] 59)) C D (.slice (some ⟨wr.heap.size + 1, 0, none⟩) 1 1) [i] := by
  have := FL.new (C := C) (D := D) (wr.alloc o) (by simp; omega) (by simp; omega) i
  simpa using this
theorem calZ_new (w : World) (t : TypeId) : Arr (w.alloc (.cells #[.slice none 0 0, .slice none 0 0, .slice none 0 0, .slice none 0 0, .bool false, .slice none 0 0, .slice none 0 0, .slice none 0 0] t)) w.heap.size 8 calZ :=
  arr_new w #[.slice none 0 0, .slice none 0 0, .slice none 0 0, .slice none 0 0, .bool false, .slice none 0 0, .slice none 0 0, .slice none 0 0] t calZ (fun j hj => by
    obtain rfl | rfl | rfl | rfl | rfl | rfl | rfl | rfl : j = 0 ∨ j = 1 ∨ j = 2 ∨ j = 3 ∨ j = 4 ∨ j = 5 ∨ j = 6 ∨ j = 7 := by simp at hj; omega
    all_goals rfl)
theorem fillRow_new (w : World) (C : Nat) (t : TypeId) : Arr (w.alloc (.cells #[.pointer (some ⟨C, 1, none⟩), .int .i64 0, .int .i64 0, .int .i64 0, .int .i64 1, .pointer (some ⟨C, 2, none⟩), .int .i64 0, .int .i64 0, .int .i64 0, .int .i64 1, .pointer (some ⟨C, 3, none⟩), .int .i64 0, .int .i64 0, .int .i64 0, .int .i64 1, .pointer (some ⟨C, 5, none⟩), .int .i64 1, .int .i64 0, .int .i64 0, .int .i64 0, .pointer (some ⟨C, 6, none⟩), .int .i64 1, .int .i64 0, .int .i64 0, .int .i64 0, .pointer (some ⟨C, 7, none⟩), .int .i64 1, .int .i64 0, .int .i64 0, .int .i64 0] t)) w.heap.size 30 (fillRow C) :=
  arr_new w #[.pointer (some ⟨C, 1, none⟩), .int .i64 0, .int .i64 0, .int .i64 0, .int .i64 1, .pointer (some ⟨C, 2, none⟩), .int .i64 0, .int .i64 0, .int .i64 0, .int .i64 1, .pointer (some ⟨C, 3, none⟩), .int .i64 0, .int .i64 0, .int .i64 0, .int .i64 1, .pointer (some ⟨C, 5, none⟩), .int .i64 1, .int .i64 0, .int .i64 0, .int .i64 0, .pointer (some ⟨C, 6, none⟩), .int .i64 1, .int .i64 0, .int .i64 0, .int .i64 0, .pointer (some ⟨C, 7, none⟩), .int .i64 1, .int .i64 0, .int .i64 0, .int .i64 0] t (fillRow C) (fun j hj => by
    obtain rfl | rfl | rfl | rfl | rfl | rfl | rfl | rfl | rfl | rfl | rfl | rfl | rfl | rfl | rfl | rfl | rfl | rfl | rfl | rfl | rfl | rfl | rfl | rfl | rfl | rfl | rfl | rfl | rfl | rfl : j = 0 ∨ j = 1 ∨ j = 2 ∨ j = 3 ∨ j = 4 ∨ j = 5 ∨ j = 6 ∨ j = 7 ∨ j = 8 ∨ j = 9 ∨ j = 10 ∨ j = 11 ∨ j = 12 ∨ j = 13 ∨ j = 14 ∨ j = 15 ∨ j = 16 ∨ j = 17 ∨ j = 18 ∨ j = 19 ∨ j = 20 ∨ j = 21 ∨ j = 22 ∨ j = 23 ∨ j = 24 ∨ j = 25 ∨ j = 26 ∨ j = 27 ∨ j = 28 ∨ j = 29 := by simp at hj; omega
    all_goals rfl)
/-- The event in the result: what lies there may be read. -/
theorem FL.out {v v0 v1 v2 v3 v4 v5 v6 v7 : Value} {l : List It} {C : Nat} (h : FL wr C D v l) : ListV ((((((((wr.setCell ⟨C + 1, 0, none⟩ v0).setCell ⟨C + 1, 1, none⟩ v1).setCell ⟨C + 1, 2, none⟩ v2).setCell ⟨C + 1, 3, none⟩ v3).setCell ⟨C + 1, 4, none⟩ v4).setCell ⟨C + 1, 5, none⟩ v5).setCell ⟨C + 1, 6, none⟩ v6).setCell ⟨C + 1, 7, none⟩ v7) D v l :=
  ((((((((h.set (.inr rfl) 0 v0).set (.inr rfl) 1 v1).set (.inr rfl) 2 v2).set (.inr rfl) 3 v3).set (.inr rfl) 4 v4).set (.inr rfl) 5 v5).set (.inr rfl) 6 v6).set (.inr rfl) 7 v7).list
theorem Below.set8 {v0 v1 v2 v3 v4 v5 v6 v7 : Value} {C B : Nat} (h : Below B w wr) (hC : B ≤ C) : Below B w ((((((((wr.setCell ⟨C, 0, none⟩ v0).setCell ⟨C, 1, none⟩ v1).setCell ⟨C, 2, none⟩ v2).setCell ⟨C, 3, none⟩ v3).setCell ⟨C, 4, none⟩ v4).setCell ⟨C, 5, none⟩ v5).setCell ⟨C, 6, none⟩ v6).setCell ⟨C, 7, none⟩ v7) :=
  (((((((h.setCell hC v0).setCell hC v1).setCell hC v2).setCell hC v3).setCell hC v4).setCell hC v5).setCell hC v6).setCell hC v7
theorem Fill.size (h : Fill w wr D c) : w.heap.size + 4 < wr.heap.size := h.row.lt (by decide)
end
theorem fill_same {k : Nat} {c : CalV} (hk : k < 6) (hne : calL c (if k < 3 then k + 1 else k + 2) ≠ []) : fillK (k + 1) c = fillK k c := by
  obtain rfl | rfl | rfl | rfl | rfl | rfl : k = 0 ∨ k = 1 ∨ k = 2 ∨ k = 3 ∨ k = 4 ∨ k = 5 := by omega
  all_goals
    have hne' := hne
    simp [calL] at hne'
    simp [fillK, orL, hne']
theorem fill_at {k : Nat} {c : CalV} (hk : k < 6) : calL (fillK k c) (if k < 3 then k + 1 else k + 2) = calL c (if k < 3 then k + 1 else k + 2) := by
  obtain rfl | rfl | rfl | rfl | rfl | rfl : k = 0 ∨ k = 1 ∨ k = 2 ∨ k = 3 ∨ k = 4 ∨ k = 5 := by omega
  all_goals simp [calL, fillK]
theorem fill_new {k : Nat} {c : CalV} (hk : k < 6) (hne : calL c (if k < 3 then k + 1 else k + 2) = []) : calL (fillK (k + 1) c) (if k < 3 then k + 1 else k + 2) = (if k < 3 then [⟨0, 0, 0, 1⟩] else [⟨1, 0, 0, 0⟩]) ∧ ∀ j, j < 8 → j ≠ (if k < 3 then k + 1 else k + 2) → calL (fillK (k + 1) c) j = calL (fillK k c) j := by
  obtain rfl | rfl | rfl | rfl | rfl | rfl : k = 0 ∨ k = 1 ∨ k = 2 ∨ k = 3 ∨ k = 4 ∨ k = 5 := by omega
  all_goals
    have hne' := hne
    simp [calL] at hne'
    refine ⟨by simp [calL, fillK, orL, hne'], fun j hj hn => ?_⟩
    rcases j with _ | _ | _ | _ | _ | _ | _ | _ | j <;> first | (exact absurd rfl hn) | (simp [calL, fillK]; done) | omega
theorem fill_back (k : Nat) (c : CalV) : (fillK k c).back = c.back := rfl
theorem fill_zero (c : CalV) : fillK 0 c = c := rfl
theorem fill_six (c : CalV) : fillK 6 c = kfill c := rfl
end Go.Proofs.YtochhmkdhdadhaaGreat

namespace Go.Proofs.YtochhmkdhdadhaaGreat
open Go.RowKit
set_option linter.unusedSimpArgs false
set_option linter.unusedVariables false

set_option maxRecDepth 20000 in
set_option maxHeartbeats 4000000 in
theorem filled_any (g : Nat → Value) (c : CalV) (w : World) (D : Nat) (hD : D < w.heap.size) (h : CalRd w D g c) : Calls Tryz.prog 47 #[calV g] w (RetCal (kfill c) D w) := by
  have HF0 := Lib.hid (calF_new w g c h 24)
  have heql := fun W A n m => Lib.run_eql_slice_nil (P := Tryz.prog) W 22 59 A n m 0 0 Tryz.underlying22
  unfold calV
  clear h
  go_enter Tryz.func47, Tryz.ntmps47
  go_wp2
  go_loopw [29] (fun i wr => ∃ k : Nat, k ≤ 6 ∧ i = .int .i64 k ∧ Hid (Fill w wr D (fillK k c))) (fun i _ => 6 - (intOf i).toNat)
  case atStart =>
    refine ⟨0, by omega, rfl, ?_⟩
    show Fill _ _ _ _
    refine ⟨(((HF0.out.alloc _).alloc _).alloc _).alloc _, ?_, ?_, ?_⟩
    · have z := calZ_new (w.alloc (.cells #[g 0, g 1, g 2, g 3, g 4, g 5, g 6, g 7] 24)) 24
      have z2 := (((z.alloc (z.lt (by decide)) (.cells #[.int .i64 0, .int .i64 0, .int .i64 0, .int .i64 1] 59)).alloc (by have := z.lt (by decide); simp at this ⊢ <;> omega) (.cells #[.int .i64 1, .int .i64 0, .int .i64 0, .int .i64 0] 59)).alloc (by have := z.lt (by decide); simp at this ⊢ <;> omega) (.cells #[.pointer (some ⟨w.heap.size, 1, none⟩), .int .i64 0, .int .i64 0, .int .i64 0, .int .i64 1, .pointer (some ⟨w.heap.size, 2, none⟩), .int .i64 0, .int .i64 0, .int .i64 0, .int .i64 1, .pointer (some ⟨w.heap.size, 3, none⟩), .int .i64 0, .int .i64 0, .int .i64 0, .int .i64 1, .pointer (some ⟨w.heap.size, 5, none⟩), .int .i64 1, .int .i64 0, .int .i64 0, .int .i64 0, .pointer (some ⟨w.heap.size, 6, none⟩), .int .i64 1, .int .i64 0, .int .i64 0, .int .i64 0, .pointer (some ⟨w.heap.size, 7, none⟩), .int .i64 1, .int .i64 0, .int .i64 0, .int .i64 0] 134))
      simpa using z2
    · have z := fillRow_new ((((w.alloc (.cells #[g 0, g 1, g 2, g 3, g 4, g 5, g 6, g 7] 24)).alloc (.cells #[.slice none 0 0, .slice none 0 0, .slice none 0 0, .slice none 0 0, .bool false, .slice none 0 0, .slice none 0 0, .slice none 0 0] 24)).alloc (.cells #[.int .i64 0, .int .i64 0, .int .i64 0, .int .i64 1] 59)).alloc (.cells #[.int .i64 1, .int .i64 0, .int .i64 0, .int .i64 0] 59)) w.heap.size 134
      simpa using z
    · exact (((((Below.refl _ w).alloc (Nat.le_refl _) _).alloc (by simp) _).alloc (by simp; omega) _).alloc (by simp; omega) _).alloc (by simp; omega) _
  case round =>
    obtain ⟨k, hk, rfl, HF⟩ := hrel
    by_cases hlt : k < 6
    · have hsz := HF.out.size
      have hz0 : w.heap.size < wr.heap.size := by omega
      have hzD : D < wr.heap.size := by omega
      have hrf := HF.out.row.2
      have hcf : ∀ j, wr.frozen? ⟨w.heap.size, j, none⟩ = false := HF.out.cal.frz
      obtain rfl | rfl | rfl | rfl | rfl | rfl : k = 0 ∨ k = 1 ∨ k = 2 ∨ k = 3 ∨ k = 4 ∨ k = 5 := by omega
      · have r0 : wr.cell? ⟨w.heap.size + 4, 0, none⟩ = some (.pointer (some ⟨w.heap.size, 1, none⟩)) := HF.out.row.1 0 (by decide)
        have r1 : wr.cell? ⟨w.heap.size + 4, 1, none⟩ = some (.int .i64 0) := HF.out.row.1 1 (by decide)
        have r2 : wr.cell? ⟨w.heap.size + 4, 2, none⟩ = some (.int .i64 0) := HF.out.row.1 2 (by decide)
        have r3 : wr.cell? ⟨w.heap.size + 4, 3, none⟩ = some (.int .i64 0) := HF.out.row.1 3 (by decide)
        have r4 : wr.cell? ⟨w.heap.size + 4, 4, none⟩ = some (.int .i64 1) := HF.out.row.1 4 (by decide)
        rcases HF.out.cal.at_ 1 (by decide) (by decide) with ⟨hl, hc⟩ | ⟨hl, p, n, m, hc⟩
        · obtain ⟨hn1, hn2⟩ := fill_new (k := 0) (c := c) (by decide) ((fill_at (k := 0) (c := c) (by decide)).symm.trans hl)
          have HN1 := Lib.hid hn1
          have HN2 := Lib.hid hn2
          clear hl hn1 hn2
          go_wp2
          go_roundw
          case rel =>
            refine ⟨1, by decide, rfl, ?_⟩
            show Fill _ _ _ _
            refine HF.out.setA _ _ 1 (by decide) (by decide) _ ?_ HN2.out rfl
            rw [show calL (fillK 1 c) 1 = _ from HN1.out]
            exact fl_new2 _ (by omega) (by omega) ⟨0, 0, 0, 1⟩
          case measure => simp [intOf]
        · have HS := Lib.hid (fill_same (k := 0) (c := c) (by decide) (fun e => hl ((fill_at (k := 0) (c := c) (by decide)).trans e)))
          clear hl
          go_wp2
          go_roundw
          case rel => exact ⟨1, by decide, rfl, by rw [show fillK 1 c = _ from HS.out]; exact HF.out.alloc _⟩
          case measure => simp [intOf]
      · have r0 : wr.cell? ⟨w.heap.size + 4, 5, none⟩ = some (.pointer (some ⟨w.heap.size, 2, none⟩)) := HF.out.row.1 5 (by decide)
        have r1 : wr.cell? ⟨w.heap.size + 4, 6, none⟩ = some (.int .i64 0) := HF.out.row.1 6 (by decide)
        have r2 : wr.cell? ⟨w.heap.size + 4, 7, none⟩ = some (.int .i64 0) := HF.out.row.1 7 (by decide)
        have r3 : wr.cell? ⟨w.heap.size + 4, 8, none⟩ = some (.int .i64 0) := HF.out.row.1 8 (by decide)
        have r4 : wr.cell? ⟨w.heap.size + 4, 9, none⟩ = some (.int .i64 1) := HF.out.row.1 9 (by decide)
        rcases HF.out.cal.at_ 2 (by decide) (by decide) with ⟨hl, hc⟩ | ⟨hl, p, n, m, hc⟩
        · obtain ⟨hn1, hn2⟩ := fill_new (k := 1) (c := c) (by decide) ((fill_at (k := 1) (c := c) (by decide)).symm.trans hl)
          have HN1 := Lib.hid hn1
          have HN2 := Lib.hid hn2
          clear hl hn1 hn2
          go_wp2
          go_roundw
          case rel =>
            refine ⟨2, by decide, rfl, ?_⟩
            show Fill _ _ _ _
            refine HF.out.setA _ _ 2 (by decide) (by decide) _ ?_ HN2.out rfl
            rw [show calL (fillK 2 c) 2 = _ from HN1.out]
            exact fl_new2 _ (by omega) (by omega) ⟨0, 0, 0, 1⟩
          case measure => simp [intOf]
        · have HS := Lib.hid (fill_same (k := 1) (c := c) (by decide) (fun e => hl ((fill_at (k := 1) (c := c) (by decide)).trans e)))
          clear hl
          go_wp2
          go_roundw
          case rel => exact ⟨2, by decide, rfl, by rw [show fillK 2 c = _ from HS.out]; exact HF.out.alloc _⟩
          case measure => simp [intOf]
      · have r0 : wr.cell? ⟨w.heap.size + 4, 10, none⟩ = some (.pointer (some ⟨w.heap.size, 3, none⟩)) := HF.out.row.1 10 (by decide)
        have r1 : wr.cell? ⟨w.heap.size + 4, 11, none⟩ = some (.int .i64 0) := HF.out.row.1 11 (by decide)
        have r2 : wr.cell? ⟨w.heap.size + 4, 12, none⟩ = some (.int .i64 0) := HF.out.row.1 12 (by decide)
        have r3 : wr.cell? ⟨w.heap.size + 4, 13, none⟩ = some (.int .i64 0) := HF.out.row.1 13 (by decide)
        have r4 : wr.cell? ⟨w.heap.size + 4, 14, none⟩ = some (.int .i64 1) := HF.out.row.1 14 (by decide)
        rcases HF.out.cal.at_ 3 (by decide) (by decide) with ⟨hl, hc⟩ | ⟨hl, p, n, m, hc⟩
        · obtain ⟨hn1, hn2⟩ := fill_new (k := 2) (c := c) (by decide) ((fill_at (k := 2) (c := c) (by decide)).symm.trans hl)
          have HN1 := Lib.hid hn1
          have HN2 := Lib.hid hn2
          clear hl hn1 hn2
          go_wp2
          go_roundw
          case rel =>
            refine ⟨3, by decide, rfl, ?_⟩
            show Fill _ _ _ _
            refine HF.out.setA _ _ 3 (by decide) (by decide) _ ?_ HN2.out rfl
            rw [show calL (fillK 3 c) 3 = _ from HN1.out]
            exact fl_new2 _ (by omega) (by omega) ⟨0, 0, 0, 1⟩
          case measure => simp [intOf]
        · have HS := Lib.hid (fill_same (k := 2) (c := c) (by decide) (fun e => hl ((fill_at (k := 2) (c := c) (by decide)).trans e)))
          clear hl
          go_wp2
          go_roundw
          case rel => exact ⟨3, by decide, rfl, by rw [show fillK 3 c = _ from HS.out]; exact HF.out.alloc _⟩
          case measure => simp [intOf]
      · have r0 : wr.cell? ⟨w.heap.size + 4, 15, none⟩ = some (.pointer (some ⟨w.heap.size, 5, none⟩)) := HF.out.row.1 15 (by decide)
        have r1 : wr.cell? ⟨w.heap.size + 4, 16, none⟩ = some (.int .i64 1) := HF.out.row.1 16 (by decide)
        have r2 : wr.cell? ⟨w.heap.size + 4, 17, none⟩ = some (.int .i64 0) := HF.out.row.1 17 (by decide)
        have r3 : wr.cell? ⟨w.heap.size + 4, 18, none⟩ = some (.int .i64 0) := HF.out.row.1 18 (by decide)
        have r4 : wr.cell? ⟨w.heap.size + 4, 19, none⟩ = some (.int .i64 0) := HF.out.row.1 19 (by decide)
        rcases HF.out.cal.at_ 5 (by decide) (by decide) with ⟨hl, hc⟩ | ⟨hl, p, n, m, hc⟩
        · obtain ⟨hn1, hn2⟩ := fill_new (k := 3) (c := c) (by decide) ((fill_at (k := 3) (c := c) (by decide)).symm.trans hl)
          have HN1 := Lib.hid hn1
          have HN2 := Lib.hid hn2
          clear hl hn1 hn2
          go_wp2
          go_roundw
          case rel =>
            refine ⟨4, by decide, rfl, ?_⟩
            show Fill _ _ _ _
            refine HF.out.setA _ _ 5 (by decide) (by decide) _ ?_ HN2.out rfl
            rw [show calL (fillK 4 c) 5 = _ from HN1.out]
            exact fl_new2 _ (by omega) (by omega) ⟨1, 0, 0, 0⟩
          case measure => simp [intOf]
        · have HS := Lib.hid (fill_same (k := 3) (c := c) (by decide) (fun e => hl ((fill_at (k := 3) (c := c) (by decide)).trans e)))
          clear hl
          go_wp2
          go_roundw
          case rel => exact ⟨4, by decide, rfl, by rw [show fillK 4 c = _ from HS.out]; exact HF.out.alloc _⟩
          case measure => simp [intOf]
      · have r0 : wr.cell? ⟨w.heap.size + 4, 20, none⟩ = some (.pointer (some ⟨w.heap.size, 6, none⟩)) := HF.out.row.1 20 (by decide)
        have r1 : wr.cell? ⟨w.heap.size + 4, 21, none⟩ = some (.int .i64 1) := HF.out.row.1 21 (by decide)
        have r2 : wr.cell? ⟨w.heap.size + 4, 22, none⟩ = some (.int .i64 0) := HF.out.row.1 22 (by decide)
        have r3 : wr.cell? ⟨w.heap.size + 4, 23, none⟩ = some (.int .i64 0) := HF.out.row.1 23 (by decide)
        have r4 : wr.cell? ⟨w.heap.size + 4, 24, none⟩ = some (.int .i64 0) := HF.out.row.1 24 (by decide)
        rcases HF.out.cal.at_ 6 (by decide) (by decide) with ⟨hl, hc⟩ | ⟨hl, p, n, m, hc⟩
        · obtain ⟨hn1, hn2⟩ := fill_new (k := 4) (c := c) (by decide) ((fill_at (k := 4) (c := c) (by decide)).symm.trans hl)
          have HN1 := Lib.hid hn1
          have HN2 := Lib.hid hn2
          clear hl hn1 hn2
          go_wp2
          go_roundw
          case rel =>
            refine ⟨5, by decide, rfl, ?_⟩
            show Fill _ _ _ _
            refine HF.out.setA _ _ 6 (by decide) (by decide) _ ?_ HN2.out rfl
            rw [show calL (fillK 5 c) 6 = _ from HN1.out]
            exact fl_new2 _ (by omega) (by omega) ⟨1, 0, 0, 0⟩
          case measure => simp [intOf]
        · have HS := Lib.hid (fill_same (k := 4) (c := c) (by decide) (fun e => hl ((fill_at (k := 4) (c := c) (by decide)).trans e)))
          clear hl
          go_wp2
          go_roundw
          case rel => exact ⟨5, by decide, rfl, by rw [show fillK 5 c = _ from HS.out]; exact HF.out.alloc _⟩
          case measure => simp [intOf]
      · have r0 : wr.cell? ⟨w.heap.size + 4, 25, none⟩ = some (.pointer (some ⟨w.heap.size, 7, none⟩)) := HF.out.row.1 25 (by decide)
        have r1 : wr.cell? ⟨w.heap.size + 4, 26, none⟩ = some (.int .i64 1) := HF.out.row.1 26 (by decide)
        have r2 : wr.cell? ⟨w.heap.size + 4, 27, none⟩ = some (.int .i64 0) := HF.out.row.1 27 (by decide)
        have r3 : wr.cell? ⟨w.heap.size + 4, 28, none⟩ = some (.int .i64 0) := HF.out.row.1 28 (by decide)
        have r4 : wr.cell? ⟨w.heap.size + 4, 29, none⟩ = some (.int .i64 0) := HF.out.row.1 29 (by decide)
        rcases HF.out.cal.at_ 7 (by decide) (by decide) with ⟨hl, hc⟩ | ⟨hl, p, n, m, hc⟩
        · obtain ⟨hn1, hn2⟩ := fill_new (k := 5) (c := c) (by decide) ((fill_at (k := 5) (c := c) (by decide)).symm.trans hl)
          have HN1 := Lib.hid hn1
          have HN2 := Lib.hid hn2
          clear hl hn1 hn2
          go_wp2
          go_roundw
          case rel =>
            refine ⟨6, by decide, rfl, ?_⟩
            show Fill _ _ _ _
            refine HF.out.setA _ _ 7 (by decide) (by decide) _ ?_ HN2.out rfl
            rw [show calL (fillK 6 c) 7 = _ from HN1.out]
            exact fl_new2 _ (by omega) (by omega) ⟨1, 0, 0, 0⟩
          case measure => simp [intOf]
        · have HS := Lib.hid (fill_same (k := 5) (c := c) (by decide) (fun e => hl ((fill_at (k := 5) (c := c) (by decide)).trans e)))
          clear hl
          go_wp2
          go_roundw
          case rel => exact ⟨6, by decide, rfl, by rw [show fillK 6 c = _ from HS.out]; exact HF.out.alloc _⟩
          case measure => simp [intOf]
    · obtain rfl : k = 6 := by omega
      obtain ⟨A, n, m, hA, hL⟩ := HF.out.cal.cells
      have c0 : wr.cell? ⟨w.heap.size, 0, none⟩ = some (.slice (A 0) (n 0) (m 0)) := hA 0 (by decide)
      have c1 : wr.cell? ⟨w.heap.size, 1, none⟩ = some (.slice (A 1) (n 1) (m 1)) := hA 1 (by decide)
      have c2 : wr.cell? ⟨w.heap.size, 2, none⟩ = some (.slice (A 2) (n 2) (m 2)) := hA 2 (by decide)
      have c3 : wr.cell? ⟨w.heap.size, 3, none⟩ = some (.slice (A 3) (n 3) (m 3)) := hA 3 (by decide)
      have c4 : wr.cell? ⟨w.heap.size, 4, none⟩ = some (.bool (fillK 6 c).back) := hA 4 (by decide)
      have c5 : wr.cell? ⟨w.heap.size, 5, none⟩ = some (.slice (A 5) (n 5) (m 5)) := hA 5 (by decide)
      have c6 : wr.cell? ⟨w.heap.size, 6, none⟩ = some (.slice (A 6) (n 6) (m 6)) := hA 6 (by decide)
      have c7 : wr.cell? ⟨w.heap.size, 7, none⟩ = some (.slice (A 7) (n 7) (m 7)) := hA 7 (by decide)
      have z0 : wr.cell? ⟨w.heap.size + 1, 0, none⟩ = some (.slice none 0 0) := HF.out.res.1 0 (by decide)
      have z1 : wr.cell? ⟨w.heap.size + 1, 1, none⟩ = some (.slice none 0 0) := HF.out.res.1 1 (by decide)
      have z2 : wr.cell? ⟨w.heap.size + 1, 2, none⟩ = some (.slice none 0 0) := HF.out.res.1 2 (by decide)
      have z3 : wr.cell? ⟨w.heap.size + 1, 3, none⟩ = some (.slice none 0 0) := HF.out.res.1 3 (by decide)
      have z4 : wr.cell? ⟨w.heap.size + 1, 4, none⟩ = some (.bool false) := HF.out.res.1 4 (by decide)
      have z5 : wr.cell? ⟨w.heap.size + 1, 5, none⟩ = some (.slice none 0 0) := HF.out.res.1 5 (by decide)
      have z6 : wr.cell? ⟨w.heap.size + 1, 6, none⟩ = some (.slice none 0 0) := HF.out.res.1 6 (by decide)
      have z7 : wr.cell? ⟨w.heap.size + 1, 7, none⟩ = some (.slice none 0 0) := HF.out.res.1 7 (by decide)
      have hzf := HF.out.res.2
      have HL := Lib.hid hL
      clear hA hL
      go_wp2
      refine bodyPost_ret (v := .agg #[.slice (A 0) (n 0) (m 0), .slice (A 1) (n 1) (m 1), .slice (A 2) (n 2) (m 2), .slice (A 3) (n 3) (m 3), .bool (fillK 6 c).back, .slice (A 5) (n 5) (m 5), .slice (A 6) (n 6) (m 6), .slice (A 7) (n 7) (m 7)]) ?_ rfl ⟨fun j => if j = 4 then .bool (fillK 6 c).back else .slice (A j) (n j) (m j), rfl, ⟨rfl, fun j hj h4 => ?_⟩, ?_⟩
      · rw [results_cell1 rfl]
        go_simp
      · dsimp only
        rw [if_neg h4]
        exact (HL.out j hj h4).out
      · exact Below.set8 HF.out.below (by omega)
end Go.Proofs.YtochhmkdhdadhaaGreat

namespace Go.Proofs.YtochhmkdhdadhaaGreat
open Go.RowKit
set_option linter.unusedSimpArgs false
set_option linter.unusedVariables false

/-- What Read hands back. -/
def kcal (x : Except (Int × Int) CalV) : CalV := match x with | .ok c => c | .error _ => calNil
def kplace (n : Int) (x : Except (Int × Int) CalV) : Int := match x with | .ok _ => n | .error p => p.1
def kerr (x : Except (Int × Int) CalV) : Int := match x with | .ok _ => 0 | .error p => p.2
def RetReadK (s : ByteArray) (w : World) (e : Ending) (w' : World) : Prop :=
  ∃ g D, e = .returned (.tuple #[calV g, .int .i64 (kplace s.size (kread s.data.toList)), .int .i64 (kerr (kread s.data.toList))]) ∧ CalRd w' D g (kcal (kread s.data.toList)) ∧ Below w.heap.size w w'
theorem calAt_new2 (w : World) (o : Obj) (t : TypeId) (B : Nat) : CalAt ((w.alloc o).alloc (.cells #[.slice none 0 0, .slice none 0 0, .slice none 0 0, .slice none 0 0, .bool false, .slice none 0 0, .slice none 0 0, .slice none 0 0] t)) (w.heap.size + 1) B calNil := by
  have h := calZ_new (w.alloc o) t
  rw [show (w.alloc o).heap.size = w.heap.size + 1 by simp] at h
  refine ⟨calZ, h, rfl, fun j hj h4 => ?_⟩
  have e : calL calNil j = [] := by rcases j with _ | _ | _ | _ | _ | _ | _ | _ | j <;> first | rfl | omega
  have z : calZ j = .slice none 0 0 := if_neg h4
  rw [e, z]
  exact ⟨⟨rfl, .inl ⟨rfl, rfl⟩⟩, fun _ => rfl⟩
theorem MaxAt.alloc {w : World} (h : MaxAt w) (o : Obj) : MaxAt (w.alloc o) := h.below ((Below.refl _ w).alloc (Nat.le_refl _) _)
theorem newP_eq (s : ByteArray) : newP s = kpsNew s.data.toList := by
  have : s.data.toList.length = s.size := by simp
  unfold newP newBad newE kpsNew
  rw [this]
theorem bthn {B : Nat} {w w1 w2 : World} (h : Below B w w1) (g : Below w1.heap.size w1 w2) (hB : B ≤ w1.heap.size := by omega) : Below B w w2 := bthen h g hB
theorem Arr.chg2 {w w' : World} {b C B m : Nat} {g : Nat → Value} (h : Arr w B m g) (hg : Chg2 b C w w') (hb : B ≠ b) (hC : B ≠ C) (hm : 0 < m := by decide) : Arr w' B m g :=
  ⟨fun j hj => hg.cell hb hC (h.1 j hj), fun j => (hg.frozen hb hC (h.lt hm)).trans (h.2 j)⟩
theorem calAt_below {w w' : World} {C B : Nat} {c : CalV} (h : CalAt w C B c) (hB : 0 < B) (hb : Below w.heap.size w w') : CalAt w' C B c := by
  obtain ⟨g, h1, h2, h3⟩ := h
  exact ⟨g, h1.below (h1.lt (by decide)) hb, h2, fun j hj h4 => ⟨own_chg (h3 j hj h4).1 (Chg.of_below (b := 0) hb) hB, (h3 j hj h4).2⟩⟩
theorem own_list {w : World} {B D : Nat} {v : Value} {l : List It} (h : OwnIts w B v l) (hn : l = [] → v = .slice none 0 0) (hD : D < B) : ListV w D v l := by
  obtain ⟨A, c, e, _, _, h3, h4⟩ := Rd.of_own itEnc_len h rfl
  exact ⟨A, _, c, e, h3, fun p hp => by have := h4 p hp; omega, hn⟩
theorem calAt_cells {w : World} {C B : Nat} {c : CalV} (h : CalAt w C B c) {D : Nat} (hD : D < B) : ∃ g : Nat → Value, CalRd w D g c ∧ w.cell? ⟨C, 0, none⟩ = some (g 0) ∧ w.cell? ⟨C, 1, none⟩ = some (g 1) ∧ w.cell? ⟨C, 2, none⟩ = some (g 2) ∧ w.cell? ⟨C, 3, none⟩ = some (g 3) ∧ w.cell? ⟨C, 4, none⟩ = some (g 4) ∧ w.cell? ⟨C, 5, none⟩ = some (g 5) ∧ w.cell? ⟨C, 6, none⟩ = some (g 6) ∧ w.cell? ⟨C, 7, none⟩ = some (g 7) ∧ ∀ j, w.frozen? ⟨C, j, none⟩ = false := by
  obtain ⟨g, h1, h2, h3⟩ := h
  exact ⟨g, ⟨h2, fun j hj h4 => own_list (h3 j hj h4).1 (h3 j hj h4).2 hD⟩, h1.1 0 (by decide), h1.1 1 (by decide), h1.1 2 (by decide), h1.1 3 (by decide), h1.1 4 (by decide), h1.1 5 (by decide), h1.1 6 (by decide), h1.1 7 (by decide), h1.2⟩
theorem calRd_cells {w : World} {D : Nat} {g : Nat → Value} {c : CalV} (h : CalRd w D g c) : ∃ (A : Nat → Option Addr) (n m : Nat → Nat), calV g = .agg #[.slice (A 0) (n 0) (m 0), .slice (A 1) (n 1) (m 1), .slice (A 2) (n 2) (m 2), .slice (A 3) (n 3) (m 3), .bool c.back, .slice (A 5) (n 5) (m 5), .slice (A 6) (n 6) (m 6), .slice (A 7) (n 7) (m 7)] ∧ ∀ j, j < 8 → j ≠ 4 → ListV w D (.slice (A j) (n j) (m j)) (calL c j) := by
  obtain ⟨h2, h3⟩ := h
  have hx : ∀ j, ∃ x : Option Addr × Nat × Nat, j < 8 → j ≠ 4 → g j = .slice x.1 x.2.1 x.2.2 := fun j => by
    by_cases hj : j < 8 ∧ j ≠ 4
    · obtain ⟨A, n, m, e, _⟩ := h3 j hj.1 hj.2
      exact ⟨(A, n, m), fun _ _ => e⟩
    · exact ⟨(none, 0, 0), fun a b => absurd ⟨a, b⟩ hj⟩
  refine ⟨fun j => (hx j).choose.1, fun j => (hx j).choose.2.1, fun j => (hx j).choose.2.2, ?_, fun j hj h4 => ?_⟩
  · unfold calV
    rw [← (hx 0).choose_spec (by decide) (by decide), ← (hx 1).choose_spec (by decide) (by decide), ← (hx 2).choose_spec (by decide) (by decide), ← (hx 3).choose_spec (by decide) (by decide), ← (hx 5).choose_spec (by decide) (by decide), ← (hx 6).choose_spec (by decide) (by decide), ← (hx 7).choose_spec (by decide) (by decide), h2]
  · dsimp only
    rw [← (hx j).choose_spec hj h4]; exact h3 j hj h4
theorem ListV.set {w : World} {D : Nat} {v : Value} {l : List It} (h : ListV w D v l) (j : Nat) (u : Value) : ListV (w.setCell ⟨D, j, none⟩ u) D v l := by
  obtain ⟨A, n, c, e, h1, hp, h2⟩ := h
  refine ⟨A, n, c, e, ⟨h1.1, fun hn => ?_⟩, hp, h2⟩
  obtain ⟨b, o, e2, hlt, hc⟩ := h1.2 hn
  have hne : b ≠ D := hp _ e2
  refine ⟨b, o, e2, by simpa [World.setCell] using hlt, fun i x hi k v hk => ?_⟩
  rw [World.cell?_setCell_other _ _ _ _ (by intro e; injection e with e1; exact hne e1.symm)]
  exact hc i x hi k v hk
theorem ListV.out8 {w : World} {v v0 v1 v2 v3 v4 v5 v6 v7 : Value} {l : List It} {D : Nat} (h : ListV w D v l) : ListV ((((((((w.setCell ⟨D, 0, none⟩ v0).setCell ⟨D, 1, none⟩ v1).setCell ⟨D, 2, none⟩ v2).setCell ⟨D, 3, none⟩ v3).setCell ⟨D, 4, none⟩ v4).setCell ⟨D, 5, none⟩ v5).setCell ⟨D, 6, none⟩ v6).setCell ⟨D, 7, none⟩ v7) D v l :=
  (((((((h.set 0 v0).set 1 v1).set 2 v2).set 3 v3).set 4 v4).set 5 v5).set 6 v6).set 7 v7
theorem calZ_list {w : World} {D : Nat} (j : Nat) (hj : j < 8) (h4 : j ≠ 4) : ListV w D (calZ j) (calL calNil j) := by
  have e : calL calNil j = [] := by rcases j with _ | _ | _ | _ | _ | _ | _ | _ | j <;> first | rfl | omega
  have z : calZ j = .slice none 0 0 := if_neg h4
  rw [e, z]
  exact ⟨none, 0, 0, rfl, Rd.nil, fun p h => (nomatch h), fun _ => rfl⟩
theorem knick_len (l : List UInt8) : (knick l).length ≤ 100 := by
  unfold knick
  split
  · next p hp =>
    have hm := List.mem_of_find?_eq_some hp
    have : ∀ p ∈ knicks, p.2.length ≤ 100 := by decide
    exact this p hm
  · exact Nat.zero_le _
set_option maxRecDepth 20000 in
set_option maxHeartbeats 4000000 in
theorem calread_any (s : ByteArray) (hs : s.size ≤ 1000000) (w : World) (hm : MaxAt w) : Calls Tryz.prog 15 #[.string s] w (RetReadK s w) := by
  have HN := Lib.hid (fun W => nick_any s hs W)
  have HZ0 := Lib.hid (calZ_new w 24)
  have HM0 := Lib.hid (hm.alloc (.cells #[.slice none 0 0, .slice none 0 0, .slice none 0 0, .slice none 0 0, .bool false, .slice none 0 0, .slice none 0 0, .slice none 0 0] 24))
  have HB0 := Lib.hid ((Below.refl _ w).alloc (Nat.le_refl _) (.cells #[.slice none 0 0, .slice none 0 0, .slice none 0 0, .slice none 0 0, .bool false, .slice none 0 0, .slice none 0 0, .slice none 0 0] 24))
  clear hm
  by_cases hk : knick s.data.toList = []
  · have HK : Hid (kread s.data.toList = if (kallP s.size (newP s)).1.e = 0 then .ok (kfill (kallP s.size (newP s)).2) else .error ((kallP s.size (newP s)).1.a, (kallP s.size (newP s)).1.e)) := by
      show _ = _
      unfold kread
      have : s.data.toList.length = s.size := by simp
      simp only [hk, if_true, newP_eq, this]
    rw [hk] at HN
    have hT : (strB []).toList.isEmpty = true := by rw [strB_tol]; rfl
    clear hk
    go_enter Tryz.func15, Tryz.ntmps15
    go_wp2_with fail
    refine (HN.out _).mono ?_
    rintro e w1 ⟨rfl, hb1⟩
    have HB1 := Lib.hid (bthn HB0.out hb1 HB0.out.size)
    have HM1 := Lib.hid (HM0.out.below hb1)
    have HZ1 := Lib.hid (HZ0.out.below (HZ0.out.lt (by decide)) hb1)
    clear hb1
    go_wp2_with fail
    refine (new_ps (Nat.le_trans hs (by decide)) _).mono ?_
    rintro e w2 ⟨b, hb, rfl, hr2, hb2⟩
    have hlt2 := hr2.lt
    have hbw : w.heap.size ≤ b := Nat.le_trans HB1.out.size hb
    have HB2 := Lib.hid (bthn HB1.out hb2 HB1.out.size)
    have HM2 := Lib.hid (HM1.out.below hb2)
    have HZ2 := Lib.hid (HZ1.out.below (HZ1.out.lt (by decide)) hb2)
    have hzR := HZ2.out.lt (by decide)
    have hRb : w.heap.size ≠ b := by have := HZ1.out.lt (by decide); omega
    clear hb2
    go_wp2_with fail
    have HB3 := Lib.hid ((HB2.out.alloc HB2.out.size (.cells #[.pointer (some ⟨b, 0, none⟩), .string (s)] 82)).alloc (by have := HB2.out.size; simp; omega) (.cells #[.slice none 0 0, .slice none 0 0, .slice none 0 0, .slice none 0 0, .bool false, .slice none 0 0, .slice none 0 0, .slice none 0 0] 24))
    have HZ3 := Lib.hid (((HZ2.out.alloc hzR (.cells #[.pointer (some ⟨b, 0, none⟩), .string (s)] 82)).alloc (by simp; omega) (.cells #[.slice none 0 0, .slice none 0 0, .slice none 0 0, .slice none 0 0, .bool false, .slice none 0 0, .slice none 0 0, .slice none 0 0] 24)))
    have HX3 := Lib.hid ((kbox_new w2 b (s) 82).alloc (.cells #[.slice none 0 0, .slice none 0 0, .slice none 0 0, .slice none 0 0, .bool false, .slice none 0 0, .slice none 0 0, .slice none 0 0] 24))
    refine (words_any (B := w2.heap.size + 2) (C := w2.heap.size + 1) hs ((hr2.alloc _).alloc _) (calAt_new2 w2 _ _ _) ((HM2.out.alloc _).alloc _) (by omega) (by omega) (by omega) (by simp)).mono ?_
    rintro e w4 ⟨rfl, h4, hc4, g4⟩
    have HB4 := Lib.hid (g4.below HB3.out hbw (by omega) HB3.out.size)
    have HZ4 := Lib.hid (HZ3.out.chg2 g4 hRb (by omega))
    obtain ⟨c0, c1⟩ := (⟨g4.cell (by omega) (by omega) HX3.out.1, g4.cell (by omega) (by omega) HX3.out.2⟩ : KBox w4 w2.heap.size b (s))
    clear hr2
    go_wp2_with fail
    refine (wrong_ps h4).mono ?_
    rintro e w5 ⟨rfl, hn5⟩
    have hb5 : Below w4.heap.size w4 w5 := by obtain ⟨n5, rfl⟩ := hn5; exact ⟨rfl, rfl, rfl, Nat.le_refl _, fun _ _ => rfl⟩
    clear hn5
    have HB5 := Lib.hid (bthn HB4.out hb5 HB4.out.size)
    have HZ5 := Lib.hid (HZ4.out.below (HZ4.out.lt (by decide)) hb5)
    have HC5 := Lib.hid (calAt_below hc4 (by omega) hb5)
    have hzR5 := HZ5.out.lt (by decide)
    generalize kallP (s).size (newP (s)) = r at *
    obtain ⟨τ, c⟩ := r
    dsimp only at *
    have z0 : w5.cell? ⟨w.heap.size, 0, none⟩ = some (.slice none 0 0) := HZ5.out.1 0 (by decide)
    have z1 : w5.cell? ⟨w.heap.size, 1, none⟩ = some (.slice none 0 0) := HZ5.out.1 1 (by decide)
    have z2 : w5.cell? ⟨w.heap.size, 2, none⟩ = some (.slice none 0 0) := HZ5.out.1 2 (by decide)
    have z3 : w5.cell? ⟨w.heap.size, 3, none⟩ = some (.slice none 0 0) := HZ5.out.1 3 (by decide)
    have z4 : w5.cell? ⟨w.heap.size, 4, none⟩ = some (.bool false) := HZ5.out.1 4 (by decide)
    have z5 : w5.cell? ⟨w.heap.size, 5, none⟩ = some (.slice none 0 0) := HZ5.out.1 5 (by decide)
    have z6 : w5.cell? ⟨w.heap.size, 6, none⟩ = some (.slice none 0 0) := HZ5.out.1 6 (by decide)
    have z7 : w5.cell? ⟨w.heap.size, 7, none⟩ = some (.slice none 0 0) := HZ5.out.1 7 (by decide)
    have zf := HZ5.out.2
    clear c0 c1 h4 hc4 g4 hb5
    by_cases he : τ.e = 0
    · have HK2 : Hid (kread s.data.toList = .ok (kfill c)) := by show _ = _; rw [HK.out, if_pos he]
      rw [he]
      obtain ⟨g, hg, x0, x1, x2, x3, x4, x5, x6, x7, xf⟩ := calAt_cells HC5.out (D := w.heap.size) (by omega)
      clear z0 z1 z2 z3 z4 z5 z6 z7 zf
      go_wp2_with fail
      refine (filled_any g c _ w.heap.size hzR5 hg).mono ?_
      rintro e w6 ⟨g6, rfl, hg6, hb6⟩
      have HB6 := Lib.hid (bthn HB5.out hb6 HB5.out.size)
      have HZ6 := Lib.hid (HZ5.out.below (HZ5.out.lt (by decide)) hb6)
      have z0 : w6.cell? ⟨w.heap.size, 0, none⟩ = some (.slice none 0 0) := HZ6.out.1 0 (by decide)
      have z1 : w6.cell? ⟨w.heap.size, 1, none⟩ = some (.slice none 0 0) := HZ6.out.1 1 (by decide)
      have z2 : w6.cell? ⟨w.heap.size, 2, none⟩ = some (.slice none 0 0) := HZ6.out.1 2 (by decide)
      have z3 : w6.cell? ⟨w.heap.size, 3, none⟩ = some (.slice none 0 0) := HZ6.out.1 3 (by decide)
      have z4 : w6.cell? ⟨w.heap.size, 4, none⟩ = some (.bool false) := HZ6.out.1 4 (by decide)
      have z5 : w6.cell? ⟨w.heap.size, 5, none⟩ = some (.slice none 0 0) := HZ6.out.1 5 (by decide)
      have z6 : w6.cell? ⟨w.heap.size, 6, none⟩ = some (.slice none 0 0) := HZ6.out.1 6 (by decide)
      have z7 : w6.cell? ⟨w.heap.size, 7, none⟩ = some (.slice none 0 0) := HZ6.out.1 7 (by decide)
      have zf := HZ6.out.2
      obtain ⟨A, n, m, hv6, hL6⟩ := calRd_cells hg6
      have HL6 := Lib.hid hL6
      rw [hv6]
      clear hg6 hL6 hv6 hb6 x0 x1 x2 x3 x4 x5 x6 x7 xf hg
      go_wp2
      refine bodyPost_ret (v := .tuple #[.agg #[.slice (A 0) (n 0) (m 0), .slice (A 1) (n 1) (m 1), .slice (A 2) (n 2) (m 2), .slice (A 3) (n 3) (m 3), .bool (kfill c).back, .slice (A 5) (n 5) (m 5), .slice (A 6) (n 6) (m 6), .slice (A 7) (n 7) (m 7)], .int .i64 s.size, .int .i64 0]) ?_ rfl ⟨fun j => if j = 4 then .bool (kfill c).back else .slice (A j) (n j) (m j), w.heap.size, by rw [HK2.out]; rfl, ⟨by rw [HK2.out]; rfl, fun j hj h4 => ?_⟩, ?_⟩
      · rw [results_cell2 rfl]
        go_simp
      · dsimp only
        rw [if_neg h4, HK2.out]
        exact (HL6.out j hj h4).out8
      · exact Below.set8 HB6.out (Nat.le_refl _)
    · have HK2 : Hid (kread s.data.toList = .error (τ.a, τ.e)) := by show _ = _; rw [HK.out, if_neg he]
      go_wp2
      refine bodyPost_ret (v := .tuple #[.agg #[.slice none 0 0, .slice none 0 0, .slice none 0 0, .slice none 0 0, .bool false, .slice none 0 0, .slice none 0 0, .slice none 0 0], .int .i64 τ.a, .int .i64 τ.e]) ?_ rfl ⟨calZ, w.heap.size, by rw [HK2.out]; rfl, ⟨by rw [HK2.out]; rfl, fun j hj h4 => ?_⟩, ?_⟩
      · rw [results_cell2 rfl]
        go_simp
      · rw [HK2.out]; exact calZ_list j hj h4
      · exact Below.set8 HB5.out (Nat.le_refl _)
  · have hkl := knick_len s.data.toList
    have HK : Hid (kread s.data.toList = if (kallP (strB (knick s.data.toList)).size (newP (strB (knick s.data.toList)))).1.e = 0 then .ok (kfill (kallP (strB (knick s.data.toList)).size (newP (strB (knick s.data.toList)))).2) else .error ((kallP (strB (knick s.data.toList)).size (newP (strB (knick s.data.toList)))).1.a, (kallP (strB (knick s.data.toList)).size (newP (strB (knick s.data.toList)))).1.e)) := by
      show _ = _
      unfold kread
      simp only [hk, if_false, newP_eq, strB_data, strB_size]
    have hT : (strB (knick s.data.toList)).toList.isEmpty = false := by rw [strB_tol]; simpa using hk
    have hs2 : (strB (knick s.data.toList)).size ≤ 1000000 := by rw [strB_size]; omega
    clear hk hkl
    generalize strB (knick s.data.toList) = T at *
    go_enter Tryz.func15, Tryz.ntmps15
    go_wp2_with fail
    refine (HN.out _).mono ?_
    rintro e w1 ⟨rfl, hb1⟩
    have HB1 := Lib.hid (bthn HB0.out hb1 HB0.out.size)
    have HM1 := Lib.hid (HM0.out.below hb1)
    have HZ1 := Lib.hid (HZ0.out.below (HZ0.out.lt (by decide)) hb1)
    clear hb1
    go_wp2_with fail
    refine (new_ps (Nat.le_trans hs2 (by decide)) _).mono ?_
    rintro e w2 ⟨b, hb, rfl, hr2, hb2⟩
    have hlt2 := hr2.lt
    have hbw : w.heap.size ≤ b := Nat.le_trans HB1.out.size hb
    have HB2 := Lib.hid (bthn HB1.out hb2 HB1.out.size)
    have HM2 := Lib.hid (HM1.out.below hb2)
    have HZ2 := Lib.hid (HZ1.out.below (HZ1.out.lt (by decide)) hb2)
    have hzR := HZ2.out.lt (by decide)
    have hRb : w.heap.size ≠ b := by have := HZ1.out.lt (by decide); omega
    clear hb2
    go_wp2_with fail
    have HB3 := Lib.hid ((HB2.out.alloc HB2.out.size (.cells #[.pointer (some ⟨b, 0, none⟩), .string (T)] 82)).alloc (by have := HB2.out.size; simp; omega) (.cells #[.slice none 0 0, .slice none 0 0, .slice none 0 0, .slice none 0 0, .bool false, .slice none 0 0, .slice none 0 0, .slice none 0 0] 24))
    have HZ3 := Lib.hid (((HZ2.out.alloc hzR (.cells #[.pointer (some ⟨b, 0, none⟩), .string (T)] 82)).alloc (by simp; omega) (.cells #[.slice none 0 0, .slice none 0 0, .slice none 0 0, .slice none 0 0, .bool false, .slice none 0 0, .slice none 0 0, .slice none 0 0] 24)))
    have HX3 := Lib.hid ((kbox_new w2 b (T) 82).alloc (.cells #[.slice none 0 0, .slice none 0 0, .slice none 0 0, .slice none 0 0, .bool false, .slice none 0 0, .slice none 0 0, .slice none 0 0] 24))
    refine (words_any (B := w2.heap.size + 2) (C := w2.heap.size + 1) hs2 ((hr2.alloc _).alloc _) (calAt_new2 w2 _ _ _) ((HM2.out.alloc _).alloc _) (by omega) (by omega) (by omega) (by simp)).mono ?_
    rintro e w4 ⟨rfl, h4, hc4, g4⟩
    have HB4 := Lib.hid (g4.below HB3.out hbw (by omega) HB3.out.size)
    have HZ4 := Lib.hid (HZ3.out.chg2 g4 hRb (by omega))
    obtain ⟨c0, c1⟩ := (⟨g4.cell (by omega) (by omega) HX3.out.1, g4.cell (by omega) (by omega) HX3.out.2⟩ : KBox w4 w2.heap.size b (T))
    clear hr2
    go_wp2_with fail
    refine (wrong_ps h4).mono ?_
    rintro e w5 ⟨rfl, hn5⟩
    have hb5 : Below w4.heap.size w4 w5 := by obtain ⟨n5, rfl⟩ := hn5; exact ⟨rfl, rfl, rfl, Nat.le_refl _, fun _ _ => rfl⟩
    clear hn5
    have HB5 := Lib.hid (bthn HB4.out hb5 HB4.out.size)
    have HZ5 := Lib.hid (HZ4.out.below (HZ4.out.lt (by decide)) hb5)
    have HC5 := Lib.hid (calAt_below hc4 (by omega) hb5)
    have hzR5 := HZ5.out.lt (by decide)
    generalize kallP (T).size (newP (T)) = r at *
    obtain ⟨τ, c⟩ := r
    dsimp only at *
    have z0 : w5.cell? ⟨w.heap.size, 0, none⟩ = some (.slice none 0 0) := HZ5.out.1 0 (by decide)
    have z1 : w5.cell? ⟨w.heap.size, 1, none⟩ = some (.slice none 0 0) := HZ5.out.1 1 (by decide)
    have z2 : w5.cell? ⟨w.heap.size, 2, none⟩ = some (.slice none 0 0) := HZ5.out.1 2 (by decide)
    have z3 : w5.cell? ⟨w.heap.size, 3, none⟩ = some (.slice none 0 0) := HZ5.out.1 3 (by decide)
    have z4 : w5.cell? ⟨w.heap.size, 4, none⟩ = some (.bool false) := HZ5.out.1 4 (by decide)
    have z5 : w5.cell? ⟨w.heap.size, 5, none⟩ = some (.slice none 0 0) := HZ5.out.1 5 (by decide)
    have z6 : w5.cell? ⟨w.heap.size, 6, none⟩ = some (.slice none 0 0) := HZ5.out.1 6 (by decide)
    have z7 : w5.cell? ⟨w.heap.size, 7, none⟩ = some (.slice none 0 0) := HZ5.out.1 7 (by decide)
    have zf := HZ5.out.2
    clear c0 c1 h4 hc4 g4 hb5
    by_cases he : τ.e = 0
    · have HK2 : Hid (kread s.data.toList = .ok (kfill c)) := by show _ = _; rw [HK.out, if_pos he]
      rw [he]
      obtain ⟨g, hg, x0, x1, x2, x3, x4, x5, x6, x7, xf⟩ := calAt_cells HC5.out (D := w.heap.size) (by omega)
      clear z0 z1 z2 z3 z4 z5 z6 z7 zf
      go_wp2_with fail
      refine (filled_any g c _ w.heap.size hzR5 hg).mono ?_
      rintro e w6 ⟨g6, rfl, hg6, hb6⟩
      have HB6 := Lib.hid (bthn HB5.out hb6 HB5.out.size)
      have HZ6 := Lib.hid (HZ5.out.below (HZ5.out.lt (by decide)) hb6)
      have z0 : w6.cell? ⟨w.heap.size, 0, none⟩ = some (.slice none 0 0) := HZ6.out.1 0 (by decide)
      have z1 : w6.cell? ⟨w.heap.size, 1, none⟩ = some (.slice none 0 0) := HZ6.out.1 1 (by decide)
      have z2 : w6.cell? ⟨w.heap.size, 2, none⟩ = some (.slice none 0 0) := HZ6.out.1 2 (by decide)
      have z3 : w6.cell? ⟨w.heap.size, 3, none⟩ = some (.slice none 0 0) := HZ6.out.1 3 (by decide)
      have z4 : w6.cell? ⟨w.heap.size, 4, none⟩ = some (.bool false) := HZ6.out.1 4 (by decide)
      have z5 : w6.cell? ⟨w.heap.size, 5, none⟩ = some (.slice none 0 0) := HZ6.out.1 5 (by decide)
      have z6 : w6.cell? ⟨w.heap.size, 6, none⟩ = some (.slice none 0 0) := HZ6.out.1 6 (by decide)
      have z7 : w6.cell? ⟨w.heap.size, 7, none⟩ = some (.slice none 0 0) := HZ6.out.1 7 (by decide)
      have zf := HZ6.out.2
      obtain ⟨A, n, m, hv6, hL6⟩ := calRd_cells hg6
      have HL6 := Lib.hid hL6
      rw [hv6]
      clear hg6 hL6 hv6 hb6 x0 x1 x2 x3 x4 x5 x6 x7 xf hg
      go_wp2
      refine bodyPost_ret (v := .tuple #[.agg #[.slice (A 0) (n 0) (m 0), .slice (A 1) (n 1) (m 1), .slice (A 2) (n 2) (m 2), .slice (A 3) (n 3) (m 3), .bool (kfill c).back, .slice (A 5) (n 5) (m 5), .slice (A 6) (n 6) (m 6), .slice (A 7) (n 7) (m 7)], .int .i64 s.size, .int .i64 0]) ?_ rfl ⟨fun j => if j = 4 then .bool (kfill c).back else .slice (A j) (n j) (m j), w.heap.size, by rw [HK2.out]; rfl, ⟨by rw [HK2.out]; rfl, fun j hj h4 => ?_⟩, ?_⟩
      · rw [results_cell2 rfl]
        go_simp
      · dsimp only
        rw [if_neg h4, HK2.out]
        exact (HL6.out j hj h4).out8
      · exact Below.set8 HB6.out (Nat.le_refl _)
    · have HK2 : Hid (kread s.data.toList = .error (τ.a, τ.e)) := by show _ = _; rw [HK.out, if_neg he]
      go_wp2
      refine bodyPost_ret (v := .tuple #[.agg #[.slice none 0 0, .slice none 0 0, .slice none 0 0, .slice none 0 0, .bool false, .slice none 0 0, .slice none 0 0, .slice none 0 0], .int .i64 τ.a, .int .i64 τ.e]) ?_ rfl ⟨calZ, w.heap.size, by rw [HK2.out]; rfl, ⟨by rw [HK2.out]; rfl, fun j hj h4 => ?_⟩, ?_⟩
      · rw [results_cell2 rfl]
        go_simp
      · rw [HK2.out]; exact calZ_list j hj h4
      · exact Below.set8 HB5.out (Nat.le_refl _)
end Go.Proofs.YtochhmkdhdadhaaGreat
