/- The walks of package calread's reader: a field, a date, a time. -/
import Derived.Test.YthkleinjddkhoaaWCalG
namespace Go.Proofs.Ythkleinjddkhoaa
open Go.RowKit
set_option linter.unusedSimpArgs false
set_option linter.unusedVariables false

/-- The list in a cell of an event. -/
def calL (c : CalV) (j : Nat) : List It := if j = 0 then c.week else if j = 1 then c.year else if j = 2 then c.month else if j = 3 then c.day else if j = 5 then c.hour else if j = 6 then c.minute else if j = 7 then c.second else []
/-- An event in a block, its lists in blocks from B on. -/
def CalAt (w : World) (C B : Nat) (c : CalV) : Prop := ∃ g : Nat → Value, Arr w C 8 g ∧ g 4 = .bool c.back ∧ ∀ j, j < 8 → j ≠ 4 → OwnIts w B (g j) (calL c j) ∧ (calL c j = [] → g j = .slice none 0 0)
section
variable {w w' : World} {C B b : Nat} {c c' : CalV}
theorem CalAt.chg (h : CalAt w C B c) (hg : Chg b w w') (hC : C ≠ b) (hb : b < B) : CalAt w' C B c := by
  obtain ⟨g, h1, h2, h3⟩ := h
  exact ⟨g, Arr.chg h1 (by decide) hg hC, h2, fun j hj h4 => ⟨own_chg (h3 j hj h4).1 hg hb, (h3 j hj h4).2⟩⟩
theorem CalAt.lt (h : CalAt w C B c) : C < w.heap.size := by obtain ⟨g, h1, _⟩ := h; exact h1.lt (by decide)
theorem CalAt.alloc (h : CalAt w C B c) (o : Obj) : CalAt (w.alloc o) C B c := by
  obtain ⟨g, h1, h2, h3⟩ := h
  exact ⟨g, h1.alloc (h1.lt (by decide)) o, h2, fun j hj h4 => ⟨World.ownsRow.alloc (h3 j hj h4).1 o, (h3 j hj h4).2⟩⟩
theorem CalAt.setL (h : CalAt w C B c) (hC : C < B) (j : Nat) (hj : j < 8) (h4 : j ≠ 4) (v : Value) (hv : OwnIts w B v (calL c' j)) (hL : calL c' j ≠ []) (ho : ∀ k, k < 8 → k ≠ j → calL c' k = calL c k) (hb : c'.back = c.back) : CalAt (w.setCell ⟨C, j, none⟩ v) C B c' := by
  obtain ⟨g, h1, h2, h3⟩ := h
  refine ⟨fun k => if k = j then v else g k, Arr.set h1 j hj v (if_pos rfl) (fun k _ hk => if_neg hk), by dsimp only; rw [if_neg (fun e => h4 e.symm), h2, hb], fun k hk hk4 => ?_⟩
  by_cases e : k = j
  · subst e; dsimp only; rw [if_pos rfl]; exact ⟨own_set hv hC, fun h => absurd h hL⟩
  · dsimp only; rw [if_neg e, ho k hk e]; exact ⟨own_set (h3 k hk hk4).1 hC, (h3 k hk hk4).2⟩
theorem CalAt.setBack (h : CalAt w C B c) (hC : C < B) (v : Bool) (ho : ∀ k, k < 8 → calL c' k = calL c k) (hb : c'.back = v) : CalAt (w.setCell ⟨C, 4, none⟩ (.bool v)) C B c' := by
  obtain ⟨g, h1, h2, h3⟩ := h
  refine ⟨fun k => if k = 4 then .bool v else g k, Arr.set h1 4 (by decide) _ (if_pos rfl) (fun k _ hk => if_neg hk), by dsimp only; rw [if_pos rfl, hb], fun k hk hk4 => ?_⟩
  dsimp only; rw [if_neg hk4, ho k hk]; exact ⟨own_set (h3 k hk hk4).1 hC, (h3 k hk hk4).2⟩
theorem CalAt.cells (h : CalAt w C B c) : ∃ g : Nat → Value, w.cell? ⟨C, 0, none⟩ = some (g 0) ∧ w.cell? ⟨C, 1, none⟩ = some (g 1) ∧ w.cell? ⟨C, 2, none⟩ = some (g 2) ∧ w.cell? ⟨C, 3, none⟩ = some (g 3) ∧ w.cell? ⟨C, 4, none⟩ = some (g 4) ∧ w.cell? ⟨C, 5, none⟩ = some (g 5) ∧ w.cell? ⟨C, 6, none⟩ = some (g 6) ∧ w.cell? ⟨C, 7, none⟩ = some (g 7) ∧ ∀ j, w.frozen? ⟨C, j, none⟩ = false := by
  obtain ⟨g, h1, h2, h3⟩ := h
  exact ⟨g, h1.1 0 (by decide), h1.1 1 (by decide), h1.1 2 (by decide), h1.1 3 (by decide), h1.1 4 (by decide), h1.1 5 (by decide), h1.1 6 (by decide), h1.1 7 (by decide), h1.2⟩
end
/-- The event, and the reader, stand so. -/
def RetC (v : Value) (b C B : Nat) (s : ByteArray) (σ : PS) (c : CalV) (w : World) (x : Ending) (w' : World) : Prop := x = .returned v ∧ RdP w' b s σ ∧ CalAt w' C B c ∧ Chg2 b C w w'
section
variable {w : World} {b : Nat} {s : ByteArray} {σ : PS} (hs : s.size ≤ 1000000)
include hs
set_option maxRecDepth 20000 in
set_option maxHeartbeats 2000000 in
theorem field_ks (f : Nat) (h1f : 1 ≤ f) (hf : f < 7) (h : RdP w b s σ) : Calls Try.prog 43 #[kV b s, .int .i64 (f : Int)] w (RetPL (kfieldP s.size f σ).2 b s (kfieldP s.size f σ).1 w) := by
  have hs9 : s.size ≤ 9223372036854775807 := by omega
  have hlt := h.lt
  have hne : ¬ w.heap.size = b := by omega
  have hne1 : ¬ w.heap.size + 1 = b := by omega
  have H := Lib.hid h
  have HI := Lib.hid (fun W A n cp (h : RdP W b s σ) (hA : RdBytes W A n [42]) (hn : n ≤ 9223372036854775807) => is_ps (cp := cp) hs9 h hA hn)
  have HR : Hid (kfieldP s.size f σ = if (isP [42] σ).2 then ((isP [42] σ).1, [⟨0, 0, 0, 1⟩]) else klistP s.size (kitemP s.size f) (kMost f - 1) (isP [42] σ).1) := rfl
  generalize kfieldP s.size f σ = R at *
  generalize isP [42] σ = u at *
  obtain ⟨τ, star⟩ := u
  dsimp only at *
  have HL := Lib.hid (fun W Bx Bf hbx hbf (hx : KBox W Bx b s) (hfc : W.cell? ⟨Bf, 0, none⟩ = some (.int .i64 (f : Int))) (h : RdP W b s τ) => flist_ks hs f hf Bx Bf hbx hbf hx hfc (kMost f - 1) (by unfold kMost; split <;> decide) h)
  have hmq : Hid (((kMost f - 1 : Nat) : Int) + 1 = if (f : Int) = 1 then 400 else 64) := by show _ = _; unfold kMost; split <;> rfl
  clear h
  have HB0 := Lib.hid ((kbox_new w b s 39).alloc (.cells #[.int .i64 (f : Int)] 3))
  have hF0 : ((w.alloc (.cells #[.pointer (some ⟨b, 0, none⟩), .string s] 39)).alloc (.cells #[.int .i64 (f : Int)] 3)).cell? ⟨w.heap.size + 1, 0, none⟩ = some (.int .i64 (f : Int)) := cell_new (by simp) rfl
  have HF0 := Lib.hid hF0
  clear hF0
  cases star with
  | true =>
    have HE : Hid (R = (τ, [⟨0, 0, 0, 1⟩])) := by show _ = _; rw [HR.out]; rfl
    clear HR HL hmq
    go_enter Try.func43, Try.ntmps43
    go_wp2_with fail
    refine (HI.out _ _ _ _ (((H.out.alloc _).alloc _).alloc _) (rdB1 (c := 42) (cell_new (by simp) rfl)) (by decide)).mono ?_
    rintro e w1 ⟨rfl, h1, g1⟩
    have gA := ((((Chg.refl b w).alloc _).alloc _).alloc _).trans g1
    have hz1 := gA.size
    have hown := own_base (own_new w1 #[.int .i64 0, .int .i64 0, .int .i64 0, .int .i64 1] 34 4 1 (by decide) rfl) hz1
    have HOwn := Lib.hid hown
    clear hown
    go_wp2
    go_ret
    exact ⟨_, rfl, by rw [HE.out]; exact HOwn.out, by rw [HE.out]; simp, by rw [HE.out]; exact h1.alloc _, gA.alloc _⟩
  | false =>
    have HE : Hid (R = klistP s.size (kitemP s.size f) (kMost f - 1) τ) := by show _ = _; rw [HR.out]; rfl
    clear HR
    rw [hmq.out] at HL
    by_cases h1 : f = 1
    · subst h1
      rw [if_pos (show ((1 : Nat) : Int) = 1 from rfl)] at HL
      clear hmq
      go_enter Try.func43, Try.ntmps43
      go_wp2_with fail
      refine (HI.out _ _ _ _ (((H.out.alloc _).alloc _).alloc _) (rdB1 (c := 42) (cell_new (by simp) rfl)) (by decide)).mono ?_
      rintro e w1 ⟨rfl, h1, g1⟩
      have gA := ((((Chg.refl b w).alloc _).alloc _).alloc _).trans g1
      have HB1 := Lib.hid ((HB0.out.alloc _).chg g1 hne)
      have f1 := g1.cell (B := w.heap.size + 1) hne1 (((Below.refl _ _).alloc (Nat.le_refl _) _).cell (p := ⟨w.heap.size + 1, 0, none⟩) (by simp) |>.trans HF0.out)
      have HF1 := Lib.hid f1
      obtain ⟨c0, c1⟩ := HB1.out
      go_wp2_with fail
      refine (HL.out _ _ _ hne hne1 HB1.out HF1.out h1).mono ?_
      rintro e w2 ⟨v, rfl, hv, hL2, h2, g2⟩
      go_wp2
      go_ret
      exact ⟨v, rfl, by rw [HE.out]; exact own_base hv gA.size, by rw [HE.out]; exact hL2, by rw [HE.out]; exact h2, gA.trans g2⟩
    · have h1' : ((f : Int) == 1) = false := by simp; omega
      rw [if_neg (by omega)] at HL
      clear hmq h1
      go_enter Try.func43, Try.ntmps43
      go_wp2_with fail
      refine (HI.out _ _ _ _ (((H.out.alloc _).alloc _).alloc _) (rdB1 (c := 42) (cell_new (by simp) rfl)) (by decide)).mono ?_
      rintro e w1 ⟨rfl, h1, g1⟩
      have gA := ((((Chg.refl b w).alloc _).alloc _).alloc _).trans g1
      have HB1 := Lib.hid ((HB0.out.alloc _).chg g1 hne)
      have f1 := g1.cell (B := w.heap.size + 1) hne1 (((Below.refl _ _).alloc (Nat.le_refl _) _).cell (p := ⟨w.heap.size + 1, 0, none⟩) (by simp) |>.trans HF0.out)
      have HF1 := Lib.hid f1
      obtain ⟨c0, c1⟩ := HB1.out
      go_wp2_with fail
      refine (HL.out _ _ _ hne hne1 HB1.out HF1.out h1).mono ?_
      rintro e w2 ⟨v, rfl, hv, hL2, h2, g2⟩
      go_wp2
      go_ret
      exact ⟨v, rfl, by rw [HE.out]; exact own_base hv gA.size, by rw [HE.out]; exact hL2, by rw [HE.out]; exact h2, gA.trans g2⟩
set_option maxRecDepth 20000 in
set_option maxHeartbeats 2000000 in
theorem next_ks (h : RdP w b s σ) : Calls Try.prog 23 #[kV b s] w (RetP (.bool (knextP s.size σ).2) b s (knextP s.size σ).1 w) := by
  have hs9 : s.size ≤ 9223372036854775807 := by omega
  have hlt := h.lt
  have hne : ¬ w.heap.size = b := by omega
  have H := Lib.hid h
  have HD := Lib.hid (fun W (h : RdP W b s σ) => done_pp h)
  have HM := Lib.hid (fun W A n cp (h : RdP W b s σ) (hA : RdBytes W A n [32]) (hn : n ≤ 9223372036854775807) => must_ps (cp := cp) hs9 h hA hn)
  have HR : Hid (knextP s.size σ = if doneP σ then (σ, false) else ((mustP s.size [32] σ).1, true)) := rfl
  generalize knextP s.size σ = R at *
  generalize mustP s.size [32] σ = m at *
  obtain ⟨τ, mv⟩ := m
  dsimp only at *
  clear h
  cases hd : doneP σ with
  | true =>
    rw [hd] at HD HR
    have HE : Hid (R = (σ, false)) := HR.out
    clear hd HR
    go_enter Try.func23, Try.ntmps23
    go_wp2_with fail
    refine (HD.out _ (H.out.alloc _)).mono ?_
    rintro e w1 ⟨rfl, h1, g1⟩
    go_wp2
    go_ret
    exact ⟨by rw [HE.out]; rfl, by rw [HE.out]; exact h1, ((Chg.refl b w).alloc _).trans g1⟩
  | false =>
    rw [hd] at HD HR
    have HE : Hid (R = (τ, true)) := HR.out
    clear hd HR
    go_enter Try.func23, Try.ntmps23
    go_wp2_with fail
    refine (HD.out _ (H.out.alloc _)).mono ?_
    rintro e w1 ⟨rfl, h1, g1⟩
    obtain ⟨hc1, hf1⟩ := gcell g1
    go_wp2_with fail
    refine (HM.out _ _ _ _ (h1.alloc _) (rdB1 (c := 32) (cell_new rfl rfl)) (by decide)).mono ?_
    rintro e w2 ⟨rfl, h2, g2⟩
    go_wp2
    go_ret
    exact ⟨by rw [HE.out]; rfl, by rw [HE.out]; exact h2, ((((Chg.refl b w).alloc _).trans g1).alloc _).trans g2⟩
end
end Go.Proofs.Ythkleinjddkhoaa
