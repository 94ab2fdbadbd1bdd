/- The walk of a reader's item, a theorem a way (printed by bin/itemgen.py). -/
import Derived.Test.YtochhmkdhdadhaaGreatDoorWRead
import Derived.Test.YtochhmkdhdadhaaGreatDoorWCron
import Derived.Test.YtochhmkdhdadhaaGreatDoorShelf
import Derived.Test.YtochhmkdhdadhaaGreatDoorWArr
import Derived.Test.YtochhmkdhdadhaaGreatDoorWBox
/- The walks of package cronread: numbers, steps. -/
namespace Go.Proofs.YtochhmkdhdadhaaGreatDoor
open Go.RowKit
set_option linter.unusedSimpArgs false
set_option linter.unusedVariables false

/-- A reader of a field, in memory: its reader, and the field's number. -/
def Box (w : World) (B b : Nat) (f : Int) : Prop := w.cell? ⟨B, 0, none⟩ = some (.pointer (some ⟨b, 0, none⟩)) ∧ w.cell? ⟨B, 1, none⟩ = some (.int .i64 f)
section
variable {w w' : World} {B b : Nat} {f : Int}
theorem Box.lt (h : Box w B b f) : B < w.heap.size := World.block_lt_of_cell? w _ h.1
theorem Box.chg (h : Box w B b f) (hg : Chg b w w') (hne : B ≠ b) : Box w' B b f := ⟨hg.cell hne h.1, hg.cell hne h.2⟩
theorem Box.below (h : Box w B b f) (hb : Below w.heap.size w w') : Box w' B b f := ⟨(hb.cell (p := ⟨B, 0, none⟩) h.lt).trans h.1, (hb.cell (p := ⟨B, 1, none⟩) h.lt).trans h.2⟩
theorem Box.alloc (h : Box w B b f) (o : Obj) : Box (w.alloc o) B b f := h.below ((Below.refl _ _).alloc (Nat.le_refl _) _)
theorem Box.set (h : Box w B b f) {C o : Nat} (hne : C ≠ B) (v : Value) : Box (w.setCell ⟨C, o, none⟩ v) B b f :=
  ⟨by rw [World.cell?_setCell_other _ _ _ _ (by intro e; injection e with e1; exact hne e1)]; exact h.1, by rw [World.cell?_setCell_other _ _ _ _ (by intro e; injection e with e1; exact hne e1)]; exact h.2⟩
end
theorem box_new (w : World) (b : Nat) (f : Int) (t : TypeId) : Box (w.alloc (.cells #[.pointer (some ⟨b, 0, none⟩), .int .i64 f] t)) w.heap.size b f := ⟨cell_new rfl rfl, cell_new rfl rfl⟩
abbrev rdV (b : Nat) (f : Int) : Value := .agg #[.pointer (some ⟨b, 0, none⟩), .int .i64 f]
/-- It hands back an int; something is wrong. -/
def RetDInt (b : Nat) (s : ByteArray) (a c : Int) (w : World) (x : Ending) (w' : World) : Prop := ∃ n : Int, RetD (.int .i64 n) b s a c w x w'

set_option maxRecDepth 20000 in
set_option maxHeartbeats 1000000 in
theorem step_ok (b : Nat) (f : Int) (s : ByteArray) (hs : s.size ≤ 9223372036854775807) (l r : List UInt8) (n : Int) (w : World) (h : Live w b s l) (hp : cStep l = .ok (n, r)) :
    Calls Tryz.prog 83 #[rdV b f] w (RetL (.int .i64 n) b s r w) := by
  have hq : pNum 3 l = .ok (n, r) ∧ n ≠ 0 := by
    unfold cStep at hp
    split at hp
    · split at hp
      · cases hp
      · cases hp; exact ⟨by assumption, by assumption⟩
    · cases hp
  have hn0 : (n == 0) = false := by simpa using hq.2
  have hlt := h.lt
  have hne : w.heap.size ≠ b := by omega
  have HA := Lib.hid (at_live (h.alloc (.cells #[.pointer (some ⟨b, 0, none⟩), .int .i64 f] 87)))
  have HN := Lib.hid (fun W (h : Live W b s l) => number_ok hs (most := 3) (by decide) h hq.1)
  clear hq h
  go_enter Tryz.func83, Tryz.ntmps83
  go_wp2_with fail
  refine HA.out.mono ?_
  rintro e w1 ⟨rfl, h1, g1⟩
  have hB := (box_new w b f 87).chg g1 hne
  obtain ⟨c0, c1⟩ := hB
  go_wp2_with fail
  refine (HN.out _ h1).mono ?_
  rintro e w2 ⟨rfl, h2, g2⟩
  go_wp2
  go_ret
  exact ⟨rfl, h2, (((Chg.refl b w).alloc _).trans g1).trans g2⟩

theorem cStep_err {l : List UInt8} {m : Nat} {q : Int} (h : cStep l = .error (m, q)) : pNum 3 l = .error (m, q) ∨ ∃ r, pNum 3 l = .ok (0, r) ∧ m = l.length ∧ q = 4 := by
  unfold cStep at h
  split at h
  · rename_i n r hp
    split at h
    · rename_i h0
      subst h0
      cases h
      exact .inr ⟨r, hp, rfl, rfl⟩
    · cases h
  · rename_i e hp
    cases h
    exact .inl hp
set_option maxRecDepth 20000 in
set_option maxHeartbeats 1000000 in
theorem step_err (b : Nat) (f : Int) (s : ByteArray) (hs : s.size ≤ 9223372036854775807) (l : List UInt8) (m : Nat) (q : Int) (w : World) (h : Live w b s l) (hp : cStep l = .error (m, q)) :
    Calls Tryz.prog 83 #[rdV b f] w (RetDInt b s (placeI s m) q w) := by
  have hlt := h.lt
  have hne : w.heap.size ≠ b := by omega
  have HA := Lib.hid (at_live (h.alloc (.cells #[.pointer (some ⟨b, 0, none⟩), .int .i64 f] 87)))
  rcases cStep_err hp with hq | ⟨r, hq, rfl, rfl⟩
  · have HN := Lib.hid (fun W (h : Live W b s l) => number_err hs (most := 3) (by decide) h hq)
    clear hq h hp
    go_enter Tryz.func83, Tryz.ntmps83
    go_wp2_with fail
    refine HA.out.mono ?_
    rintro e w1 ⟨rfl, h1, g1⟩
    have hB := (box_new w b f 87).chg g1 hne
    obtain ⟨c0, c1⟩ := hB
    go_wp2_with fail
    refine (HN.out _ h1).mono ?_
    rintro e w2 ⟨rfl, h2, g2⟩
    go_wp2
    go_ret
    exact ⟨_, rfl, h2, (((Chg.refl b w).alloc _).trans g1).trans g2⟩
  · have HN := Lib.hid (fun W (h : Live W b s l) => number_ok hs (most := 3) (by decide) h hq)
    have HF := Lib.hid (fun W (h : Live W b s r) => fail_live (placeI s l.length) 4 (by decide) h)
    clear hq h hp
    go_enter Tryz.func83, Tryz.ntmps83
    go_wp2_with fail
    refine HA.out.mono ?_
    rintro e w1 ⟨rfl, h1, g1⟩
    have hB := (box_new w b f 87).chg g1 hne
    have HB := Lib.hid hB
    obtain ⟨c0, c1⟩ := hB
    go_wp2_with fail
    refine (HN.out _ h1).mono ?_
    rintro e w2 ⟨rfl, h2, g2⟩
    clear c0 c1
    obtain ⟨c0, c1⟩ := HB.out.chg g2 hne
    go_wp2_with fail
    refine (HF.out _ h2).mono ?_
    rintro e w3 ⟨rfl, h3, g3⟩
    go_wp2
    go_ret
    exact ⟨_, rfl, h3, ((((Chg.refl b w).alloc _).trans g1).trans g2).trans g3⟩
theorem at_pure {w : World} {b : Nat} {s : ByteArray} {l : List UInt8} (h : Live w b s l) : Calls Tryz.prog 50 #[.pointer (some ⟨b, 0, none⟩)] w (RetQ (.int .i64 (placeI s l.length)) w) := by
  obtain ⟨k, hk, rfl, hr⟩ := h
  have hp : placeI s (s.data.toList.drop k).length = (k : Int) := by
    unfold placeI; rw [List.length_drop, len_data]; omega
  rw [hp]
  exact at_any b s k 0 0 w hr
theorem at_puredead {w : World} {b : Nat} {s : ByteArray} {a c : Int} (h : Dead w b s a c) : ∃ p : Int, 0 ≤ p ∧ p ≤ s.size ∧ ∀ W, Below w.heap.size w W → Calls Tryz.prog 50 #[.pointer (some ⟨b, 0, none⟩)] W (RetQ (.int .i64 p) W) := by
  obtain ⟨he, k, hk, hr⟩ := h
  exact ⟨k, by omega, by omega, fun W hW => at_any b s k a c W (hr.kept hW hr.lt)⟩
set_option maxRecDepth 20000 in
set_option maxHeartbeats 1000000 in
theorem step_dead (b : Nat) (f : Int) (s : ByteArray) (hs : s.size ≤ 9223372036854775807) (a c : Int) (w : World) (h : Dead w b s a c) :
    Calls Tryz.prog 83 #[rdV b f] w (RetDInt b s a c w) := by
  have hlt := h.lt
  have hne : w.heap.size ≠ b := by omega
  obtain ⟨p, hp0, hp1, hA⟩ := at_puredead h
  have HA := Lib.hid hA
  have HN := Lib.hid (fun W (hW : Below w.heap.size w W) => number_dead hs 3 (h.below hW))
  clear h hA
  go_enter Tryz.func83, Tryz.ntmps83
  go_wp2_with fail
  refine (HA.out _ (by (repeat' (first | (with_reducible exact Below.refl _ _) | (with_reducible assumption) | (with_reducible refine below_drewN ?_ _) | (with_reducible refine Below.alloc ?_ ?_ _) | (with_reducible refine Below.drew ?_) | (with_reducible refine Below.setCell ?_ ?_ _) | go_size)))).mono ?_
  rintro e w1 ⟨rfl, rfl⟩
  go_wp2_with fail
  refine (HN.out _ (by (repeat' (first | (with_reducible exact Below.refl _ _) | (with_reducible assumption) | (with_reducible refine below_drewN ?_ _) | (with_reducible refine Below.alloc ?_ ?_ _) | (with_reducible refine Below.drew ?_) | (with_reducible refine Below.setCell ?_ ?_ _) | go_size)))).mono ?_
  rintro e w2 ⟨rfl, h2, g2⟩
  go_wp2
  go_ret
  exact ⟨_, rfl, h2, ((Chg.refl b w).alloc _).trans g2⟩

/-- A slice that holds the names of a field's numbers. -/
def NamesAt (f : Nat) (A : Option Addr) (n : Nat) (w : World) : Prop :=
  A = none ∧ n = 0 ∧ cNames f = [] ∨ ∃ B, A = some ⟨B, 0, none⟩ ∧ n = (cNames f).length ∧ cNames f ≠ [] ∧ ∀ j, j < (cNames f).length → w.cell? ⟨B, 0 + j, none⟩ = some (.string (((cNames f).map strB).getD j ByteArray.empty))
def RetNames (f : Nat) (w : World) (x : Ending) (w' : World) : Prop := ∃ A n, x = .returned (.slice A n n) ∧ NamesAt f A n w' ∧ Below w.heap.size w w' ∧ ∀ B o, A = some ⟨B, o, none⟩ → w.heap.size ≤ B
theorem NamesAt.below {f n : Nat} {A : Option Addr} {w w' : World} (h : NamesAt f A n w) (hb : Below w.heap.size w w') : NamesAt f A n w' := by
  rcases h with h | ⟨B, h1, h2, h3, h4⟩
  · exact .inl h
  · exact .inr ⟨B, h1, h2, h3, fun j hj => (hb.cell (p := ⟨B, _, none⟩) (World.block_lt_of_cell? w _ (h4 j hj))).trans (h4 j hj)⟩
theorem NamesAt.chg {f n b : Nat} {A : Option Addr} {w w' : World} (h : NamesAt f A n w) (hg : Chg b w w') (hne : ∀ B o, A = some ⟨B, o, none⟩ → B ≠ b) : NamesAt f A n w' := by
  rcases h with h | ⟨B, h1, h2, h3, h4⟩
  · exact .inl h
  · exact .inr ⟨B, h1, h2, h3, fun j hj => hg.cell (hne B 0 h1) (h4 j hj)⟩
theorem cells_at (w : World) (C : Array Value) (t : TypeId) (zs : List ByteArray) (h : C = (zs.map Value.string).toArray) (j : Nat) (hj : j < zs.length) : (w.alloc (.cells C t)).cell? ⟨w.heap.size, 0 + j, none⟩ = some (.string (zs.getD j ByteArray.empty)) := by
  subst h
  refine cell_new rfl ?_
  simp [hj]
theorem names_any (f : Nat) (w : World) : Calls Tryz.prog 106 #[.int .i64 (f : Int)] w (RetNames f w) := by
  by_cases h3 : f = 3
  · subst h3
    go_enter Tryz.func106, Tryz.ntmps106
    go_wp2
    go_ret
    refine ⟨_, _, rfl, .inr ⟨w.heap.size, rfl, rfl, by decide, fun j hj => ?_⟩, (Below.refl _ w).alloc (Nat.le_refl _) _, fun B o h => by cases h; exact Nat.le_refl _⟩
    exact cells_at w _ _ ((cNames 3).map strB) rfl j (by simpa using hj)
  · by_cases h4 : f = 4
    · subst h4
      go_enter Tryz.func106, Tryz.ntmps106
      go_wp2
      go_ret
      refine ⟨_, _, rfl, .inr ⟨w.heap.size, rfl, rfl, by decide, fun j hj => ?_⟩, (Below.refl _ w).alloc (Nat.le_refl _) _, fun B o h => by cases h; exact Nat.le_refl _⟩
      exact cells_at w _ _ ((cNames 4).map strB) rfl j (by simpa using hj)
    · have e3 : ((f : Int) == 3) = false := by simp; omega
      have e4 : ((f : Int) == 4) = false := by simp; omega
      have hc : cNames f = [] := by unfold cNames; rw [if_neg h3, if_neg h4]
      have HC := Lib.hid hc
      clear h3 h4 hc
      go_enter Tryz.func106, Tryz.ntmps106
      go_wp2
      go_ret
      exact ⟨_, _, rfl, .inl ⟨rfl, rfl, HC.out⟩, Below.refl _ _, fun B o h => by cases h⟩
def letterI (c : Int) : Bool := decide ((97 ≤ c ∧ c ≤ 122) ∨ (65 ≤ c ∧ c ≤ 90))
theorem letterI_peek (l : List UInt8) : letterI (pPeek l) = headB letterP l := by
  cases l with
  | nil => rfl
  | cons x l =>
    show decide _ = letterP x
    unfold letterP pPeek
    rw [Bool.eq_iff_iff]
    simp only [decide_eq_true_eq]
    omega
theorem letter_any (c : Int) (w : World) : Calls Tryz.prog 107 #[.int .u8 c] w (RetQ (.bool (letterI c)) w) := by
  generalize hq : letterI c = q
  have HQ := Lib.hid hq
  clear hq
  go_enter Tryz.func107, Tryz.ntmps107
  go_wp2
  all_goals go_ret
  all_goals (refine ⟨ret_bool ?_, rfl⟩; rw [← HQ.out]; ((try simp only [beq_iff_eq, beq_eq_false_iff_ne, bne_iff_ne, ne_eq, letterI, decide_eq_true_eq, decide_eq_false_iff_not, Bool.and_eq_true, Bool.or_eq_true, Bool.not_eq_true', Bool.not_eq_false', Bool.and_eq_false_iff, Bool.or_eq_false_iff] at *)
                                                        rw [Bool.eq_iff_iff]
                                                        (try simp only [letterI, decide_eq_true_eq, beq_iff_eq, bne_iff_ne, ne_eq, Bool.and_eq_true, Bool.or_eq_true, Bool.not_eq_true', Bool.not_eq_false', beq_eq_false_iff_ne, decide_eq_false_iff_not, iff_true, true_iff, Bool.false_eq_true, false_iff, iff_false, reduceCtorEq])
                                                        omega))
theorem small_eq (l : List UInt8) : Lib.toLowerA l = lowerL l := by
  unfold Lib.toLowerA lowerL
  apply List.map_congr_left
  intro c _
  unfold Lib.lowerB lowerB Lib.isUpperB
  have e : ((65 ≤ c && c ≤ 90) = true) = (65 ≤ c.toNat ∧ c.toNat ≤ 90) := by simp [UInt8.le_iff_toNat_le]
  simp only [e]
theorem strB_inj {x y : List UInt8} (h : strB x = strB y) : x = y := by rw [← strB_data x, h, strB_data]
theorem idxFrom_eq (x : List UInt8) : ∀ (zs : List (List UInt8)) (i : Nat), Lib.idxFromS (zs.map strB) (strB x) i = (match zs.idxOf? x with | some j => ((i + j : Nat) : Int) | none => -1)
  | [], i => rfl
  | z :: zs, i => by
    rw [List.map_cons, Lib.idxFromS, List.idxOf?_cons]
    by_cases h : z = x
    · subst h; simp
    · have h2 : strB z ≠ strB x := fun e => h (strB_inj e)
      rw [if_neg h2, idxFrom_eq x zs (i + 1), if_neg (by simpa using h)]
      cases zs.idxOf? x with
      | none => rfl
      | some j => simp only [Option.map_some]; congr 1; omega
theorem idx_eq (zs : List (List UInt8)) (x : List UInt8) : Lib.idxOfS (zs.map strB) (strB x) = wIdx x zs := by
  unfold Lib.idxOfS wIdx
  rw [idxFrom_eq]
  cases zs.idxOf? x with
  | none => rfl
  | some j => simp only [Nat.zero_add]
end Go.Proofs.YtochhmkdhdadhaaGreatDoor

/- The walk of a reader's number. -/
namespace Go.Proofs.YtochhmkdhdadhaaGreatDoor
open Go.RowKit
set_option linter.unusedSimpArgs false
set_option linter.unusedVariables false

theorem cNum_tail {f : Nat} {l : List UInt8} (h : ¬ (cNames f ≠ [] ∧ headB letterP l = true)) : cNum f l = (match pNum 2 l with | .ok (n, r) => if n < cLo f ∨ cHi f < n then .error (l.length, 4) else .ok (n, r) | .error e => .error e) := by
  unfold cNum; rw [if_neg h]; rfl
theorem cNum_word {f : Nat} {l : List UInt8} (h : cNames f ≠ [] ∧ headB letterP l = true) : cNum f l = (if wIdx (lowerL (l.takeWhile letterP)) (cNames f) < 0 then .error (l.length, 6) else .ok (cLo f + wIdx (lowerL (l.takeWhile letterP)) (cNames f), l.dropWhile letterP)) := by
  unfold cNum; rw [if_pos h]

theorem lower_any (x : List UInt8) (hx : ∀ c ∈ x, letterP c = true) (hl : x.length ≤ 1000000) (W : World) : Calls Tryz.prog 109 #[.string (strB x)] W (Ret (.string (strB (lowerL x))) W) := by
  have h := Tryz.strings_ToLower_ascii (strB x) W (by rw [strB_size]; omega) (fun j c hc => by
    rw [strB_data] at hc
    have := hx c (List.mem_of_getElem? hc)
    simp only [letterP, decide_eq_true_eq] at this
    omega)
  rw [strB_data, small_eq] at h
  exact h
theorem index_any (f : Nat) (A : Option Addr) (n : Nat) (x : List UInt8) (W : World) (hf : cNames f ≠ []) (hA : NamesAt f A n W) : Calls Tryz.prog 108 #[.slice A n n, .string (strB x)] W (RetQ (.int .i64 (wIdx x (cNames f))) W) := by
  rcases hA with ⟨_, _, h3⟩ | ⟨B, rfl, rfl, _, hc⟩
  · exact absurd h3 hf
  · have := Tryz.slices_Index_string B 0 (cNames f).length (cNames f).length ((cNames f).map strB) (strB x) W (by simp) (by unfold cNames; split; decide; split <;> decide) (fun j hj => hc j (by simpa using hj))
    rw [List.take_of_length_le (by simp), idx_eq] at this
    refine this.mono ?_
    rintro e w1 ⟨rfl, rfl⟩
    exact ⟨rfl, rfl⟩

set_option maxRecDepth 20000 in
set_option maxHeartbeats 1000000 in
theorem num_ok (b f : Nat) (hf : f < 5) (s : ByteArray) (hs : s.size ≤ 1000000) (l r : List UInt8) (n0 : Int) (w : World) (h : Live w b s l) (hp : cNum f l = .ok (n0, r)) :
    Calls Tryz.prog 84 #[rdV b f] w (RetL (.int .i64 n0) b s r w) := by
  have hs : s.size ≤ 9223372036854775807 := by omega
  have hlt := h.lt
  have hne : w.heap.size ≠ b := by omega
  have HAt := Lib.hid (fun W (hW : Below w.heap.size w W) => at_pure (h.below hW))
  have HL := Lib.hid (fun W (hW : Below w.heap.size w W) => h.below hW)
  have hbd := cBounds f hf
  obtain ⟨hb0, hb9⟩ : 0 ≤ cLo f ∧ cHi f ≤ 9999 := ⟨hbd.1, hbd.2.2⟩
  have hneq := fun (W : World) A n c => run_neq_slice_nil_any (P := Tryz.prog) W 156 9 A n c 0 0 Tryz.underlying156
  clear h hbd
  by_cases hcase : cNames f ≠ [] ∧ headB letterP l = true
  · rw [cNum_word hcase] at hp
    have HP : Hid (¬ wIdx (lowerL (l.takeWhile letterP)) (cNames f) < 0 ∧ n0 = cLo f + wIdx (lowerL (l.takeWhile letterP)) (cNames f) ∧ r = l.dropWhile letterP) := by
      split at hp
      · cases hp
      · cases hp; exact ⟨by assumption, rfl, rfl⟩
    obtain ⟨hi0, rfl, rfl⟩ := HP.out
    have hi1 := wIdx_lt (lowerL (l.takeWhile letterP)) (cNames f)
    have hi2 : (cNames f).length ≤ 12 := by unfold cNames; split; decide; split <;> decide
    have HW1 := Lib.hid (fun W (h : Live W b s l) => word_live hs h)
    have HLow := Lib.hid (fun W => lower_any (l.takeWhile letterP) (all_take letterP l) (by have h1 := (List.takeWhile_prefix letterP (l := l)).length_le; have := (HL.out w (Below.refl _ _)).len; omega) W)
    have HIx := Lib.hid (fun W A n (hA : NamesAt f A n W) => index_any f A n (lowerL (l.takeWhile letterP)) W hcase.1 hA)
    have HF : Hid (∀ W, Calls Tryz.prog 107 #[.int .u8 (pPeek l)] W (RetQ (.bool true) W)) := by
      intro W
      have := letter_any (pPeek l) W
      rw [letterI_peek, hcase.2] at this
      exact this
    have HC := Lib.hid hcase
    have hb1 : cLo f ≤ 1 := by unfold cLo; split <;> decide
    generalize hix : wIdx (lowerL (l.takeWhile letterP)) (cNames f) = ix at *
    clear hp HP hcase hix
    go_enter Tryz.func84, Tryz.ntmps84
    go_wp2_with fail
    refine (bounds_in f hf _).mono ?_
    rintro e w1 ⟨rfl, hb1⟩
    have HB1 := Lib.hid ((box_new w b (f : Int) 87).below hb1)
    have hbA : Below w.heap.size w w1 := ((Below.refl _ w).alloc (Nat.le_refl _) _).trans (hb1.mono (by simp))
    have hzA := hbA.size
    clear hb1
    go_wp2_with fail
    obtain ⟨W1, rfl⟩ : ∃ W1 : World, W1 = w1 := ⟨_, rfl⟩
    have HS : Hid (∀ w', Below W1.heap.size W1 w' → Below W1.heap.size W1 w' ∧ w'.cell? ⟨w.heap.size, 0, none⟩ = some (.pointer (some ⟨b, 0, none⟩)) ∧ w'.cell? ⟨w.heap.size, 1, none⟩ = some (.int .i64 (f : Int))) := fun w' h => ⟨h, (HB1.out.below h).1, (HB1.out.below h).2⟩
    have HW : Hid (∀ w', Below W1.heap.size W1 w' → Below w.heap.size w w') := fun w' h => bthen hbA h hzA
    go_region_held3 (fun w' => Below W1.heap.size W1 w' ∧ w'.cell? ⟨w.heap.size, 0, none⟩ = some (.pointer (some ⟨b, 0, none⟩)) ∧ w'.cell? ⟨w.heap.size, 1, none⟩ = some (.int .i64 (f : Int)))
      (first | (go_split_ands; refine HS.out _ (bthen ?_ hb1 ?_); assumption; exact Below.size (by assumption)) | (go_split_ands; refine HS.out _ (Below.alloc ?_ ?_ _); assumption; exact Below.size (by assumption)) | (refine HS.out _ ?_; exact Below.drew (Below.refl _ _)) | (refine HS.out _ ?_; exact below_drewN (Below.refl _ _) _))
      (first | (go_at_call 50; (with_reducible refine (HAt.out _ ?_).mono ?_); (focus (go_split_ands; exact HW.out _ (by assumption))); rintro e w1 ⟨rfl, rfl⟩) | (go_at_call 106; (with_reducible refine (names_any f _).mono ?_); rintro e w1 ⟨A, n, rfl, hNA, hb1, hNB⟩))
    have hb2 : Below W1.heap.size W1 w1 := by go_split_ands; assumption
    have hbB : Below w.heap.size w w1 := HW.out _ hb2
    have HB2 := Lib.hid (HB1.out.below hb2)
    have hnb : ∀ B o, A = some ⟨B, o, none⟩ → B ≠ b := fun B o h => by have := hNB B o h; (try simp at this); omega
    have HNb := Lib.hid hnb
    clear hb1 HS HW hNB hnb
    try simp only [Exit.inBlock, Exit.then]
    have hAs : A.isSome = true := by
      rcases hNA with ⟨_, _, h3⟩ | ⟨B, rfl, _⟩
      · exact absurd h3 HC.out.1
      · rfl
    have HNA := Lib.hid hNA
    clear hNA
    go_wp2_with fail
    refine (peek_live (HL.out _ hbB)).mono ?_
    rintro e w2 ⟨rfl, h2, g2⟩
    obtain ⟨c0, c1⟩ := HB2.out.chg g2 hne
    have HB3 : Hid (Box w2 w.heap.size b (f : Int)) := ⟨c0, c1⟩
    have HN3 := Lib.hid (HNA.out.chg g2 HNb.out)
    have hgA : Chg b w w2 := (Chg.of_below hbB).trans g2
    go_wp2_with fail
    refine (HF.out _).mono ?_
    rintro e w3 ⟨rfl, rfl⟩
    go_wp2_with fail
    refine (HW1.out _ h2).mono ?_
    rintro e w4 ⟨rfl, h4, g4⟩
    have HB4 := Lib.hid (HB3.out.chg g4 hne)
    have HN4 := Lib.hid (HN3.out.chg g4 HNb.out)
    have hgB := hgA.trans g4
    clear c0 c1 h2 g2 g4 HB3 HN3
    go_wp2_with fail
    refine (HLow.out _).mono ?_
    rintro e w5 ⟨rfl, hb5⟩
    have HB5 := Lib.hid (HB4.out.below hb5)
    have HN5 := Lib.hid (HN4.out.below hb5)
    have h5 := h4.below hb5
    have hgC := hgB.trans (Chg.of_below hb5)
    clear HB4 HN4 hb5 h4
    go_wp2_with fail
    refine (HIx.out _ _ _ HN5.out).mono ?_
    rintro e w6 ⟨rfl, rfl⟩
    go_wp2
    go_ret
    exact ⟨rfl, h5, hgC⟩
  · rw [cNum_tail hcase] at hp
    have HP : Hid (∃ hp2 : pNum 2 l = .ok (n0, r), ¬ (n0 < cLo f ∨ cHi f < n0)) := by
      split at hp
      · split at hp
        · cases hp
        · cases hp; exact ⟨by assumption, by assumption⟩
      · cases hp
    obtain ⟨hp2, hrange⟩ := HP.out
    have HN := Lib.hid (fun W (h : Live W b s l) => number_ok hs (most := 2) (by decide) h hp2)
    have g1 : ¬ n0 < cLo f := fun h => hrange (.inl h)
    have g2 : ¬ cHi f < n0 := fun h => hrange (.inr h)
    have HC := Lib.hid hcase
    clear hp hp2 hrange HP hcase
    go_enter Tryz.func84, Tryz.ntmps84
    go_wp2_with fail
    refine (bounds_in f hf _).mono ?_
    rintro e w1 ⟨rfl, hb1⟩
    have HB1 := Lib.hid ((box_new w b (f : Int) 87).below hb1)
    have hbA : Below w.heap.size w w1 := ((Below.refl _ w).alloc (Nat.le_refl _) _).trans (hb1.mono (by simp))
    have hzA := hbA.size
    clear hb1
    go_wp2_with fail
    obtain ⟨W1, rfl⟩ : ∃ W1 : World, W1 = w1 := ⟨_, rfl⟩
    have HS : Hid (∀ w', Below W1.heap.size W1 w' → Below W1.heap.size W1 w' ∧ w'.cell? ⟨w.heap.size, 0, none⟩ = some (.pointer (some ⟨b, 0, none⟩)) ∧ w'.cell? ⟨w.heap.size, 1, none⟩ = some (.int .i64 (f : Int))) := fun w' h => ⟨h, (HB1.out.below h).1, (HB1.out.below h).2⟩
    have HW : Hid (∀ w', Below W1.heap.size W1 w' → Below w.heap.size w w') := fun w' h => bthen hbA h hzA
    go_region_held3 (fun w' => Below W1.heap.size W1 w' ∧ w'.cell? ⟨w.heap.size, 0, none⟩ = some (.pointer (some ⟨b, 0, none⟩)) ∧ w'.cell? ⟨w.heap.size, 1, none⟩ = some (.int .i64 (f : Int)))
      (first | (go_split_ands; refine HS.out _ (bthen ?_ hb1 ?_); assumption; exact Below.size (by assumption)) | (go_split_ands; refine HS.out _ (Below.alloc ?_ ?_ _); assumption; exact Below.size (by assumption)) | (refine HS.out _ ?_; exact Below.drew (Below.refl _ _)) | (refine HS.out _ ?_; exact below_drewN (Below.refl _ _) _))
      (first | (go_at_call 50; (with_reducible refine (HAt.out _ ?_).mono ?_); (focus (go_split_ands; exact HW.out _ (by assumption))); rintro e w1 ⟨rfl, rfl⟩) | (go_at_call 106; (with_reducible refine (names_any f _).mono ?_); rintro e w1 ⟨A, n, rfl, hNA, hb1, hNB⟩))
    have hb2 : Below W1.heap.size W1 w1 := by go_split_ands; assumption
    have hbB : Below w.heap.size w w1 := HW.out _ hb2
    have HB2 := Lib.hid (HB1.out.below hb2)
    have hnb : ∀ B o, A = some ⟨B, o, none⟩ → B ≠ b := fun B o h => by have := hNB B o h; (try simp at this); omega
    have HNb := Lib.hid hnb
    clear hb1 HS HW hNB hnb
    try simp only [Exit.inBlock, Exit.then]
    go_wp2_with fail
    · have hA : A.isSome = true := by assumption
      have HF : Hid (∀ W, Calls Tryz.prog 107 #[.int .u8 (pPeek l)] W (RetQ (.bool false) W)) := by
        intro W
        have h1 : headB letterP l = false := by
          rcases hNA with ⟨rfl, _⟩ | ⟨B, _, _, h3, _⟩
          · cases hA
          · cases hb : headB letterP l with
            | false => rfl
            | true => exact absurd ⟨h3, hb⟩ HC.out
        have := letter_any (pPeek l) W
        rw [letterI_peek, h1] at this
        exact this
      refine (peek_live (HL.out _ hbB)).mono ?_
      rintro e w2 ⟨rfl, h2, g2⟩
      obtain ⟨c0, c1⟩ := HB2.out.chg g2 hne
      have HB3 : Hid (Box w2 w.heap.size b (f : Int)) := ⟨c0, c1⟩
      have hgA : Chg b w w2 := (Chg.of_below hbB).trans g2
      go_wp2_with fail
      refine (HF.out _).mono ?_
      rintro e w3 ⟨rfl, rfl⟩
      go_wp2_with fail
      refine (HN.out _ h2).mono ?_
      rintro e w4 ⟨rfl, h4, g4⟩
      go_wp2
      go_ret
      exact ⟨rfl, h4, hgA.trans g4⟩
    · have h2 := HL.out _ hbB
      have HB3 := HB2
      have hgA : Chg b w w1 := Chg.of_below hbB
      refine (HN.out _ h2).mono ?_
      rintro e w4 ⟨rfl, h4, g4⟩
      go_wp2
      go_ret
      exact ⟨rfl, h4, hgA.trans g4⟩

theorem cNum_errs {f m : Nat} {q : Int} {l : List UInt8} (h : ¬ (cNames f ≠ [] ∧ headB letterP l = true)) (hp : cNum f l = .error (m, q)) : pNum 2 l = .error (m, q) ∨ ∃ n r, pNum 2 l = .ok (n, r) ∧ (n < cLo f ∨ cHi f < n) ∧ m = l.length ∧ q = 4 := by
  rw [cNum_tail h] at hp
  split at hp
  · split at hp
    · cases hp; exact .inr ⟨_, _, by assumption, by assumption, rfl, rfl⟩
    · cases hp
  · rename_i e he
    cases hp; exact .inl he

set_option maxRecDepth 20000 in
set_option maxHeartbeats 1000000 in
theorem num_err (b f : Nat) (hf : f < 5) (s : ByteArray) (hs : s.size ≤ 1000000) (l : List UInt8) (m : Nat) (q : Int) (w : World) (h : Live w b s l) (hp : cNum f l = .error (m, q)) :
    Calls Tryz.prog 84 #[rdV b f] w (RetDInt b s (placeI s m) q w) := by
  have hs : s.size ≤ 9223372036854775807 := by omega
  have hlt := h.lt
  have hne : w.heap.size ≠ b := by omega
  have HAt := Lib.hid (fun W (hW : Below w.heap.size w W) => at_pure (h.below hW))
  have HL := Lib.hid (fun W (hW : Below w.heap.size w W) => h.below hW)
  have hbd := cBounds f hf
  obtain ⟨hb0, hb9⟩ : 0 ≤ cLo f ∧ cHi f ≤ 9999 := ⟨hbd.1, hbd.2.2⟩
  have hneq := fun (W : World) A n c => run_neq_slice_nil_any (P := Tryz.prog) W 156 9 A n c 0 0 Tryz.underlying156
  clear h hbd
  by_cases hcase : cNames f ≠ [] ∧ headB letterP l = true
  · rw [cNum_word hcase] at hp
    have HP : Hid (wIdx (lowerL (l.takeWhile letterP)) (cNames f) < 0 ∧ m = l.length ∧ q = 6) := by
      split at hp
      · cases hp; exact ⟨by assumption, rfl, rfl⟩
      · cases hp
    obtain ⟨hi0, rfl, rfl⟩ := HP.out
    have hi1 := wIdx_lt (lowerL (l.takeWhile letterP)) (cNames f)
    have hi2 : (cNames f).length ≤ 12 := by unfold cNames; split; decide; split <;> decide
    have HW1 := Lib.hid (fun W (h : Live W b s l) => word_live hs h)
    have HLow := Lib.hid (fun W => lower_any (l.takeWhile letterP) (all_take letterP l) (by have h1 := (List.takeWhile_prefix letterP (l := l)).length_le; have := (HL.out w (Below.refl _ _)).len; omega) W)
    have HIx := Lib.hid (fun W A n (hA : NamesAt f A n W) => index_any f A n (lowerL (l.takeWhile letterP)) W hcase.1 hA)
    have HF : Hid (∀ W, Calls Tryz.prog 107 #[.int .u8 (pPeek l)] W (RetQ (.bool true) W)) := by
      intro W
      have := letter_any (pPeek l) W
      rw [letterI_peek, hcase.2] at this
      exact this
    have HC := Lib.hid hcase
    have hb1 : cLo f ≤ 1 := by unfold cLo; split <;> decide
    have hi9 : -1 ≤ wIdx (lowerL (l.takeWhile letterP)) (cNames f) := by unfold wIdx; split <;> omega
    have HFl := Lib.hid (fun W r (h : Live W b s r) => fail_live (placeI s l.length) 6 (by decide) h)
    generalize hix : wIdx (lowerL (l.takeWhile letterP)) (cNames f) = ix at *
    clear hp HP hcase hix
    go_enter Tryz.func84, Tryz.ntmps84
    go_wp2_with fail
    refine (bounds_in f hf _).mono ?_
    rintro e w1 ⟨rfl, hb1⟩
    have HB1 := Lib.hid ((box_new w b (f : Int) 87).below hb1)
    have hbA : Below w.heap.size w w1 := ((Below.refl _ w).alloc (Nat.le_refl _) _).trans (hb1.mono (by simp))
    have hzA := hbA.size
    clear hb1
    go_wp2_with fail
    obtain ⟨W1, rfl⟩ : ∃ W1 : World, W1 = w1 := ⟨_, rfl⟩
    have HS : Hid (∀ w', Below W1.heap.size W1 w' → Below W1.heap.size W1 w' ∧ w'.cell? ⟨w.heap.size, 0, none⟩ = some (.pointer (some ⟨b, 0, none⟩)) ∧ w'.cell? ⟨w.heap.size, 1, none⟩ = some (.int .i64 (f : Int))) := fun w' h => ⟨h, (HB1.out.below h).1, (HB1.out.below h).2⟩
    have HW : Hid (∀ w', Below W1.heap.size W1 w' → Below w.heap.size w w') := fun w' h => bthen hbA h hzA
    go_region_held3 (fun w' => Below W1.heap.size W1 w' ∧ w'.cell? ⟨w.heap.size, 0, none⟩ = some (.pointer (some ⟨b, 0, none⟩)) ∧ w'.cell? ⟨w.heap.size, 1, none⟩ = some (.int .i64 (f : Int)))
      (first | (go_split_ands; refine HS.out _ (bthen ?_ hb1 ?_); assumption; exact Below.size (by assumption)) | (go_split_ands; refine HS.out _ (Below.alloc ?_ ?_ _); assumption; exact Below.size (by assumption)) | (refine HS.out _ ?_; exact Below.drew (Below.refl _ _)) | (refine HS.out _ ?_; exact below_drewN (Below.refl _ _) _))
      (first | (go_at_call 50; (with_reducible refine (HAt.out _ ?_).mono ?_); (focus (go_split_ands; exact HW.out _ (by assumption))); rintro e w1 ⟨rfl, rfl⟩) | (go_at_call 106; (with_reducible refine (names_any f _).mono ?_); rintro e w1 ⟨A, n, rfl, hNA, hb1, hNB⟩))
    have hb2 : Below W1.heap.size W1 w1 := by go_split_ands; assumption
    have hbB : Below w.heap.size w w1 := HW.out _ hb2
    have HB2 := Lib.hid (HB1.out.below hb2)
    have hnb : ∀ B o, A = some ⟨B, o, none⟩ → B ≠ b := fun B o h => by have := hNB B o h; (try simp at this); omega
    have HNb := Lib.hid hnb
    clear hb1 HS HW hNB hnb
    try simp only [Exit.inBlock, Exit.then]
    have hAs : A.isSome = true := by
      rcases hNA with ⟨_, _, h3⟩ | ⟨B, rfl, _⟩
      · exact absurd h3 HC.out.1
      · rfl
    have HNA := Lib.hid hNA
    clear hNA
    go_wp2_with fail
    refine (peek_live (HL.out _ hbB)).mono ?_
    rintro e w2 ⟨rfl, h2, g2⟩
    obtain ⟨c0, c1⟩ := HB2.out.chg g2 hne
    have HB3 : Hid (Box w2 w.heap.size b (f : Int)) := ⟨c0, c1⟩
    have HN3 := Lib.hid (HNA.out.chg g2 HNb.out)
    have hgA : Chg b w w2 := (Chg.of_below hbB).trans g2
    go_wp2_with fail
    refine (HF.out _).mono ?_
    rintro e w3 ⟨rfl, rfl⟩
    go_wp2_with fail
    refine (HW1.out _ h2).mono ?_
    rintro e w4 ⟨rfl, h4, g4⟩
    have HB4 := Lib.hid (HB3.out.chg g4 hne)
    have HN4 := Lib.hid (HN3.out.chg g4 HNb.out)
    have hgB := hgA.trans g4
    clear c0 c1 h2 g2 g4 HB3 HN3
    go_wp2_with fail
    refine (HLow.out _).mono ?_
    rintro e w5 ⟨rfl, hb5⟩
    have HB5 := Lib.hid (HB4.out.below hb5)
    have HN5 := Lib.hid (HN4.out.below hb5)
    have h5 := h4.below hb5
    have hgC := hgB.trans (Chg.of_below hb5)
    clear HB4 HN4 hb5 h4
    go_wp2_with fail
    refine (HIx.out _ _ _ HN5.out).mono ?_
    rintro e w6 ⟨rfl, rfl⟩
    obtain ⟨c0, c1⟩ := HB5.out
    go_wp2_with fail
    refine (HFl.out _ _ h5).mono ?_
    rintro e w6 ⟨rfl, h6, g6⟩
    go_wp2
    go_ret
    exact ⟨_, rfl, h6, hgC.trans g6⟩
  · rcases cNum_errs hcase hp with hp2 | ⟨n0, r, hp2, hr, rfl, rfl⟩
    · have HN := Lib.hid (fun W (h : Live W b s l) => number_err hs (most := 2) (by decide) h hp2)
      have HC := Lib.hid hcase
      clear hp hp2 hcase
      go_enter Tryz.func84, Tryz.ntmps84
      go_wp2_with fail
      refine (bounds_in f hf _).mono ?_
      rintro e w1 ⟨rfl, hb1⟩
      have HB1 := Lib.hid ((box_new w b (f : Int) 87).below hb1)
      have hbA : Below w.heap.size w w1 := ((Below.refl _ w).alloc (Nat.le_refl _) _).trans (hb1.mono (by simp))
      have hzA := hbA.size
      clear hb1
      go_wp2_with fail
      obtain ⟨W1, rfl⟩ : ∃ W1 : World, W1 = w1 := ⟨_, rfl⟩
      have HS : Hid (∀ w', Below W1.heap.size W1 w' → Below W1.heap.size W1 w' ∧ w'.cell? ⟨w.heap.size, 0, none⟩ = some (.pointer (some ⟨b, 0, none⟩)) ∧ w'.cell? ⟨w.heap.size, 1, none⟩ = some (.int .i64 (f : Int))) := fun w' h => ⟨h, (HB1.out.below h).1, (HB1.out.below h).2⟩
      have HW : Hid (∀ w', Below W1.heap.size W1 w' → Below w.heap.size w w') := fun w' h => bthen hbA h hzA
      go_region_held3 (fun w' => Below W1.heap.size W1 w' ∧ w'.cell? ⟨w.heap.size, 0, none⟩ = some (.pointer (some ⟨b, 0, none⟩)) ∧ w'.cell? ⟨w.heap.size, 1, none⟩ = some (.int .i64 (f : Int)))
        (first | (go_split_ands; refine HS.out _ (bthen ?_ hb1 ?_); assumption; exact Below.size (by assumption)) | (go_split_ands; refine HS.out _ (Below.alloc ?_ ?_ _); assumption; exact Below.size (by assumption)) | (refine HS.out _ ?_; exact Below.drew (Below.refl _ _)) | (refine HS.out _ ?_; exact below_drewN (Below.refl _ _) _))
        (first | (go_at_call 50; (with_reducible refine (HAt.out _ ?_).mono ?_); (focus (go_split_ands; exact HW.out _ (by assumption))); rintro e w1 ⟨rfl, rfl⟩) | (go_at_call 106; (with_reducible refine (names_any f _).mono ?_); rintro e w1 ⟨A, n, rfl, hNA, hb1, hNB⟩))
      have hb2 : Below W1.heap.size W1 w1 := by go_split_ands; assumption
      have hbB : Below w.heap.size w w1 := HW.out _ hb2
      have HB2 := Lib.hid (HB1.out.below hb2)
      have hnb : ∀ B o, A = some ⟨B, o, none⟩ → B ≠ b := fun B o h => by have := hNB B o h; (try simp at this); omega
      have HNb := Lib.hid hnb
      clear hb1 HS HW hNB hnb
      try simp only [Exit.inBlock, Exit.then]
      go_wp2_with fail
      · have hA : A.isSome = true := by assumption
        have HF : Hid (∀ W, Calls Tryz.prog 107 #[.int .u8 (pPeek l)] W (RetQ (.bool false) W)) := by
          intro W
          have h1 : headB letterP l = false := by
            rcases hNA with ⟨rfl, _⟩ | ⟨B, _, _, h3, _⟩
            · cases hA
            · cases hb : headB letterP l with
              | false => rfl
              | true => exact absurd ⟨h3, hb⟩ HC.out
          have := letter_any (pPeek l) W
          rw [letterI_peek, h1] at this
          exact this
        refine (peek_live (HL.out _ hbB)).mono ?_
        rintro e w2 ⟨rfl, h2, g2⟩
        obtain ⟨c0, c1⟩ := HB2.out.chg g2 hne
        have HB3 : Hid (Box w2 w.heap.size b (f : Int)) := ⟨c0, c1⟩
        have hgA : Chg b w w2 := (Chg.of_below hbB).trans g2
        go_wp2_with fail
        refine (HF.out _).mono ?_
        rintro e w3 ⟨rfl, rfl⟩
        go_wp2_with fail
        refine (HN.out _ h2).mono ?_
        rintro e w4 ⟨rfl, h4, g4⟩
        go_wp2
        go_ret
        exact ⟨_, rfl, h4, hgA.trans g4⟩
      · have h2 := HL.out _ hbB
        have HB3 := HB2
        have hgA : Chg b w w1 := Chg.of_below hbB
        refine (HN.out _ h2).mono ?_
        rintro e w4 ⟨rfl, h4, g4⟩
        go_wp2
        go_ret
        exact ⟨_, rfl, h4, hgA.trans g4⟩
    · have HN := Lib.hid (fun W (h : Live W b s l) => number_ok hs (most := 2) (by decide) h hp2)
      have HFl := Lib.hid (fun W r (h : Live W b s r) => fail_live (placeI s l.length) 4 (by decide) h)
      have HC := Lib.hid hcase
      clear hp hp2 hcase
      by_cases hr1 : n0 < cLo f
      · clear hr
        go_enter Tryz.func84, Tryz.ntmps84
        go_wp2_with fail
        refine (bounds_in f hf _).mono ?_
        rintro e w1 ⟨rfl, hb1⟩
        have HB1 := Lib.hid ((box_new w b (f : Int) 87).below hb1)
        have hbA : Below w.heap.size w w1 := ((Below.refl _ w).alloc (Nat.le_refl _) _).trans (hb1.mono (by simp))
        have hzA := hbA.size
        clear hb1
        go_wp2_with fail
        obtain ⟨W1, rfl⟩ : ∃ W1 : World, W1 = w1 := ⟨_, rfl⟩
        have HS : Hid (∀ w', Below W1.heap.size W1 w' → Below W1.heap.size W1 w' ∧ w'.cell? ⟨w.heap.size, 0, none⟩ = some (.pointer (some ⟨b, 0, none⟩)) ∧ w'.cell? ⟨w.heap.size, 1, none⟩ = some (.int .i64 (f : Int))) := fun w' h => ⟨h, (HB1.out.below h).1, (HB1.out.below h).2⟩
        have HW : Hid (∀ w', Below W1.heap.size W1 w' → Below w.heap.size w w') := fun w' h => bthen hbA h hzA
        go_region_held3 (fun w' => Below W1.heap.size W1 w' ∧ w'.cell? ⟨w.heap.size, 0, none⟩ = some (.pointer (some ⟨b, 0, none⟩)) ∧ w'.cell? ⟨w.heap.size, 1, none⟩ = some (.int .i64 (f : Int)))
          (first | (go_split_ands; refine HS.out _ (bthen ?_ hb1 ?_); assumption; exact Below.size (by assumption)) | (go_split_ands; refine HS.out _ (Below.alloc ?_ ?_ _); assumption; exact Below.size (by assumption)) | (refine HS.out _ ?_; exact Below.drew (Below.refl _ _)) | (refine HS.out _ ?_; exact below_drewN (Below.refl _ _) _))
          (first | (go_at_call 50; (with_reducible refine (HAt.out _ ?_).mono ?_); (focus (go_split_ands; exact HW.out _ (by assumption))); rintro e w1 ⟨rfl, rfl⟩) | (go_at_call 106; (with_reducible refine (names_any f _).mono ?_); rintro e w1 ⟨A, n, rfl, hNA, hb1, hNB⟩))
        have hb2 : Below W1.heap.size W1 w1 := by go_split_ands; assumption
        have hbB : Below w.heap.size w w1 := HW.out _ hb2
        have HB2 := Lib.hid (HB1.out.below hb2)
        have hnb : ∀ B o, A = some ⟨B, o, none⟩ → B ≠ b := fun B o h => by have := hNB B o h; (try simp at this); omega
        have HNb := Lib.hid hnb
        clear hb1 HS HW hNB hnb
        try simp only [Exit.inBlock, Exit.then]
        go_wp2_with fail
        · have hA : A.isSome = true := by assumption
          have HF : Hid (∀ W, Calls Tryz.prog 107 #[.int .u8 (pPeek l)] W (RetQ (.bool false) W)) := by
            intro W
            have h1 : headB letterP l = false := by
              rcases hNA with ⟨rfl, _⟩ | ⟨B, _, _, h3, _⟩
              · cases hA
              · cases hb : headB letterP l with
                | false => rfl
                | true => exact absurd ⟨h3, hb⟩ HC.out
            have := letter_any (pPeek l) W
            rw [letterI_peek, h1] at this
            exact this
          refine (peek_live (HL.out _ hbB)).mono ?_
          rintro e w2 ⟨rfl, h2, g2⟩
          obtain ⟨c0, c1⟩ := HB2.out.chg g2 hne
          have HB3 : Hid (Box w2 w.heap.size b (f : Int)) := ⟨c0, c1⟩
          have hgA : Chg b w w2 := (Chg.of_below hbB).trans g2
          go_wp2_with fail
          refine (HF.out _).mono ?_
          rintro e w3 ⟨rfl, rfl⟩
          go_wp2_with fail
          refine (HN.out _ h2).mono ?_
          rintro e w4 ⟨rfl, h4, g4⟩
          obtain ⟨c0, c1⟩ := HB3.out.chg g4 hne
          have hgB := hgA.trans g4
          go_wp2_with fail
          refine (HFl.out _ _ h4).mono ?_
          rintro e w5 ⟨rfl, h5, g5⟩
          go_wp2
          go_ret
          exact ⟨_, rfl, h5, hgB.trans g5⟩
        · have h2 := HL.out _ hbB
          have HB3 := HB2
          have hgA : Chg b w w1 := Chg.of_below hbB
          refine (HN.out _ h2).mono ?_
          rintro e w4 ⟨rfl, h4, g4⟩
          obtain ⟨c0, c1⟩ := HB3.out.chg g4 hne
          have hgB := hgA.trans g4
          go_wp2_with fail
          refine (HFl.out _ _ h4).mono ?_
          rintro e w5 ⟨rfl, h5, g5⟩
          go_wp2
          go_ret
          exact ⟨_, rfl, h5, hgB.trans g5⟩
      · have hr2 : cHi f < n0 := by omega
        clear hr
        go_enter Tryz.func84, Tryz.ntmps84
        go_wp2_with fail
        refine (bounds_in f hf _).mono ?_
        rintro e w1 ⟨rfl, hb1⟩
        have HB1 := Lib.hid ((box_new w b (f : Int) 87).below hb1)
        have hbA : Below w.heap.size w w1 := ((Below.refl _ w).alloc (Nat.le_refl _) _).trans (hb1.mono (by simp))
        have hzA := hbA.size
        clear hb1
        go_wp2_with fail
        obtain ⟨W1, rfl⟩ : ∃ W1 : World, W1 = w1 := ⟨_, rfl⟩
        have HS : Hid (∀ w', Below W1.heap.size W1 w' → Below W1.heap.size W1 w' ∧ w'.cell? ⟨w.heap.size, 0, none⟩ = some (.pointer (some ⟨b, 0, none⟩)) ∧ w'.cell? ⟨w.heap.size, 1, none⟩ = some (.int .i64 (f : Int))) := fun w' h => ⟨h, (HB1.out.below h).1, (HB1.out.below h).2⟩
        have HW : Hid (∀ w', Below W1.heap.size W1 w' → Below w.heap.size w w') := fun w' h => bthen hbA h hzA
        go_region_held3 (fun w' => Below W1.heap.size W1 w' ∧ w'.cell? ⟨w.heap.size, 0, none⟩ = some (.pointer (some ⟨b, 0, none⟩)) ∧ w'.cell? ⟨w.heap.size, 1, none⟩ = some (.int .i64 (f : Int)))
          (first | (go_split_ands; refine HS.out _ (bthen ?_ hb1 ?_); assumption; exact Below.size (by assumption)) | (go_split_ands; refine HS.out _ (Below.alloc ?_ ?_ _); assumption; exact Below.size (by assumption)) | (refine HS.out _ ?_; exact Below.drew (Below.refl _ _)) | (refine HS.out _ ?_; exact below_drewN (Below.refl _ _) _))
          (first | (go_at_call 50; (with_reducible refine (HAt.out _ ?_).mono ?_); (focus (go_split_ands; exact HW.out _ (by assumption))); rintro e w1 ⟨rfl, rfl⟩) | (go_at_call 106; (with_reducible refine (names_any f _).mono ?_); rintro e w1 ⟨A, n, rfl, hNA, hb1, hNB⟩))
        have hb2 : Below W1.heap.size W1 w1 := by go_split_ands; assumption
        have hbB : Below w.heap.size w w1 := HW.out _ hb2
        have HB2 := Lib.hid (HB1.out.below hb2)
        have hnb : ∀ B o, A = some ⟨B, o, none⟩ → B ≠ b := fun B o h => by have := hNB B o h; (try simp at this); omega
        have HNb := Lib.hid hnb
        clear hb1 HS HW hNB hnb
        try simp only [Exit.inBlock, Exit.then]
        go_wp2_with fail
        · have hA : A.isSome = true := by assumption
          have HF : Hid (∀ W, Calls Tryz.prog 107 #[.int .u8 (pPeek l)] W (RetQ (.bool false) W)) := by
            intro W
            have h1 : headB letterP l = false := by
              rcases hNA with ⟨rfl, _⟩ | ⟨B, _, _, h3, _⟩
              · cases hA
              · cases hb : headB letterP l with
                | false => rfl
                | true => exact absurd ⟨h3, hb⟩ HC.out
            have := letter_any (pPeek l) W
            rw [letterI_peek, h1] at this
            exact this
          refine (peek_live (HL.out _ hbB)).mono ?_
          rintro e w2 ⟨rfl, h2, g2⟩
          obtain ⟨c0, c1⟩ := HB2.out.chg g2 hne
          have HB3 : Hid (Box w2 w.heap.size b (f : Int)) := ⟨c0, c1⟩
          have hgA : Chg b w w2 := (Chg.of_below hbB).trans g2
          go_wp2_with fail
          refine (HF.out _).mono ?_
          rintro e w3 ⟨rfl, rfl⟩
          go_wp2_with fail
          refine (HN.out _ h2).mono ?_
          rintro e w4 ⟨rfl, h4, g4⟩
          obtain ⟨c0, c1⟩ := HB3.out.chg g4 hne
          have hgB := hgA.trans g4
          go_wp2_with fail
          refine (HFl.out _ _ h4).mono ?_
          rintro e w5 ⟨rfl, h5, g5⟩
          go_wp2
          go_ret
          exact ⟨_, rfl, h5, hgB.trans g5⟩
        · have h2 := HL.out _ hbB
          have HB3 := HB2
          have hgA : Chg b w w1 := Chg.of_below hbB
          refine (HN.out _ h2).mono ?_
          rintro e w4 ⟨rfl, h4, g4⟩
          obtain ⟨c0, c1⟩ := HB3.out.chg g4 hne
          have hgB := hgA.trans g4
          go_wp2_with fail
          refine (HFl.out _ _ h4).mono ?_
          rintro e w5 ⟨rfl, h5, g5⟩
          go_wp2
          go_ret
          exact ⟨_, rfl, h5, hgB.trans g5⟩

set_option maxRecDepth 20000 in
set_option maxHeartbeats 1000000 in
theorem num_dead (b f : Nat) (hf : f < 5) (s : ByteArray) (hs : s.size ≤ 1000000) (a c : Int) (w : World) (h : Dead w b s a c) :
    Calls Tryz.prog 84 #[rdV b f] w (RetDInt b s a c w) := by
  have hs : s.size ≤ 9223372036854775807 := by omega
  have hlt := h.lt
  have hne : w.heap.size ≠ b := by omega
  obtain ⟨p, hp0, hp1, hA⟩ := at_puredead h
  have HAt := Lib.hid hA
  have HL := Lib.hid (fun W (hW : Below w.heap.size w W) => h.below hW)
  have hneq := fun (W : World) A n c => run_neq_slice_nil_any (P := Tryz.prog) W 156 9 A n c 0 0 Tryz.underlying156
  have HN := Lib.hid (fun W (h : Dead W b s a c) => number_dead hs 2 h)
  have HF : Hid (∀ W, Calls Tryz.prog 107 #[.int .u8 0] W (RetQ (.bool false) W)) := fun W => letter_any 0 W
  clear h hA
  go_enter Tryz.func84, Tryz.ntmps84
  go_wp2_with fail
  refine (bounds_in f hf _).mono ?_
  rintro e w1 ⟨rfl, hb1⟩
  have HB1 := Lib.hid ((box_new w b (f : Int) 87).below hb1)
  have hbA : Below w.heap.size w w1 := ((Below.refl _ w).alloc (Nat.le_refl _) _).trans (hb1.mono (by simp))
  have hzA := hbA.size
  clear hb1
  go_wp2_with fail
  obtain ⟨W1, rfl⟩ : ∃ W1 : World, W1 = w1 := ⟨_, rfl⟩
  have HS : Hid (∀ w', Below W1.heap.size W1 w' → Below W1.heap.size W1 w' ∧ w'.cell? ⟨w.heap.size, 0, none⟩ = some (.pointer (some ⟨b, 0, none⟩)) ∧ w'.cell? ⟨w.heap.size, 1, none⟩ = some (.int .i64 (f : Int))) := fun w' h => ⟨h, (HB1.out.below h).1, (HB1.out.below h).2⟩
  have HW : Hid (∀ w', Below W1.heap.size W1 w' → Below w.heap.size w w') := fun w' h => bthen hbA h hzA
  go_region_held3 (fun w' => Below W1.heap.size W1 w' ∧ w'.cell? ⟨w.heap.size, 0, none⟩ = some (.pointer (some ⟨b, 0, none⟩)) ∧ w'.cell? ⟨w.heap.size, 1, none⟩ = some (.int .i64 (f : Int)))
    (first | (go_split_ands; refine HS.out _ (bthen ?_ hb1 ?_); assumption; exact Below.size (by assumption)) | (go_split_ands; refine HS.out _ (Below.alloc ?_ ?_ _); assumption; exact Below.size (by assumption)) | (refine HS.out _ ?_; exact Below.drew (Below.refl _ _)) | (refine HS.out _ ?_; exact below_drewN (Below.refl _ _) _))
    (first | (go_at_call 50; (with_reducible refine (HAt.out _ ?_).mono ?_); (focus (go_split_ands; exact HW.out _ (by assumption))); rintro e w1 ⟨rfl, rfl⟩) | (go_at_call 106; (with_reducible refine (names_any f _).mono ?_); rintro e w1 ⟨A, n, rfl, hNA, hb1, hNB⟩))
  have hb2 : Below W1.heap.size W1 w1 := by go_split_ands; assumption
  have hbB : Below w.heap.size w w1 := HW.out _ hb2
  have HB2 := Lib.hid (HB1.out.below hb2)
  have hnb : ∀ B o, A = some ⟨B, o, none⟩ → B ≠ b := fun B o h => by have := hNB B o h; (try simp at this); omega
  have HNb := Lib.hid hnb
  clear hb1 HS HW hNB hnb
  try simp only [Exit.inBlock, Exit.then]
  go_wp2_with fail
  · refine (peek_dead (HL.out _ hbB)).mono ?_
    rintro e w2 ⟨rfl, h2, g2⟩
    obtain ⟨c0, c1⟩ := HB2.out.chg g2 hne
    have hgA : Chg b w w2 := (Chg.of_below hbB).trans g2
    go_wp2_with fail
    refine (HF.out _).mono ?_
    rintro e w3 ⟨rfl, rfl⟩
    go_wp2_with fail
    refine (HN.out _ h2).mono ?_
    rintro e w4 ⟨rfl, h4, g4⟩
    go_wp2
    go_ret
    exact ⟨_, rfl, h4, hgA.trans g4⟩
  · refine (HN.out _ (HL.out _ hbB)).mono ?_
    rintro e w4 ⟨rfl, h4, g4⟩
    go_wp2
    go_ret
    exact ⟨_, rfl, h4, (Chg.of_below hbB).trans g4⟩
end Go.Proofs.YtochhmkdhdadhaaGreatDoor

/- The walk of a reader's item. -/
namespace Go.Proofs.YtochhmkdhdadhaaGreatDoor
open Go.RowKit
set_option linter.unusedSimpArgs false
set_option linter.unusedVariables false

/-- What an item's reader has in memory: itself, its result. -/
def Fr (w : World) (B R b : Nat) (f : Int) : Prop := Box w B b f ∧ ItAt w R ⟨0, 0, 0, 0⟩
section
variable {w w' : World} {B R b : Nat} {f : Int}
theorem Fr.chg (h : Fr w B R b f) (hg : Chg b w w') (h1 : B ≠ b) (h2 : R ≠ b) : Fr w' B R b f := ⟨h.1.chg hg h1, Arr.chg h.2 (by decide) hg h2⟩
theorem Fr.alloc (h : Fr w B R b f) (o : Obj) : Fr (w.alloc o) B R b f := ⟨h.1.alloc o, Arr.alloc h.2 (Arr.lt h.2 (by decide)) o⟩
theorem Fr.below (h : Fr w B R b f) (hb : Below w.heap.size w w') : Fr w' B R b f := ⟨h.1.below hb, Arr.below h.2 (Arr.lt h.2 (by decide)) hb⟩
theorem Fr.set (h : Fr w B R b f) {C o : Nat} (h1 : C ≠ B) (h2 : C ≠ R) (v : Value) : Fr (w.setCell ⟨C, o, none⟩ v) B R b f := ⟨h.1.set h1 v, Arr.other h.2 h2⟩
end
theorem fr_new (w : World) (b : Nat) (f : Int) (t t' : TypeId) : Fr ((w.alloc (.cells #[.pointer (some ⟨b, 0, none⟩), .int .i64 f] t)).alloc (.cells #[.int .i64 0, .int .i64 0, .int .i64 0, .int .i64 0] t')) w.heap.size (w.heap.size + 1) b f :=
  ⟨(box_new w b f t).alloc _, by have := itAt_new (w.alloc (.cells #[.pointer (some ⟨b, 0, none⟩), .int .i64 f] t)) 0 0 0 0 t'; simpa using this⟩
def RetDIt (b : Nat) (s : ByteArray) (a c : Int) (w : World) (x : Ending) (w' : World) : Prop := ∃ i : It, RetD (itV i) b s a c w x w'

theorem Live.set4 {w : World} {b R : Nat} {s : ByteArray} {l : List UInt8} (h : Live w b s l) (hR : R ≠ b) (v0 v1 v2 v3 : Value) : Live ((((w.setCell ⟨R, 0, none⟩ v0).setCell ⟨R, 1, none⟩ v1).setCell ⟨R, 2, none⟩ v2).setCell ⟨R, 3, none⟩ v3) b s l :=
  (((h.set hR v0).set hR v1).set hR v2).set hR v3
theorem Dead.set4 {w : World} {b R : Nat} {s : ByteArray} {a c : Int} (h : Dead w b s a c) (hR : R ≠ b) (v0 v1 v2 v3 : Value) : Dead ((((w.setCell ⟨R, 0, none⟩ v0).setCell ⟨R, 1, none⟩ v1).setCell ⟨R, 2, none⟩ v2).setCell ⟨R, 3, none⟩ v3) b s a c :=
  (((h.set hR v0).set hR v1).set hR v2).set hR v3
theorem itAt_set1 {w : World} {B : Nat} {k f t s : Int} (h : ItAt w B ⟨k, f, t, s⟩) (v : Int) : ItAt (w.setCell ⟨B, 1, none⟩ (.int .i64 v)) B ⟨k, v, t, s⟩ :=
  Arr.set h 1 (by decide) _ rfl (fun j hj hn => by
    obtain rfl | rfl | rfl | rfl : j = 0 ∨ j = 1 ∨ j = 2 ∨ j = 3 := by omega
    all_goals first | rfl | exact absurd rfl hn)
end Go.Proofs.YtochhmkdhdadhaaGreatDoor

namespace Go.Proofs.YtochhmkdhdadhaaGreatDoor
open Go.RowKit
set_option linter.unusedSimpArgs false
set_option linter.unusedVariables false

set_option maxRecDepth 20000 in
set_option maxHeartbeats 1000000 in
theorem item_star1 (b f : Nat) (hf : f < 5) (s : ByteArray) (hs : s.size ≤ 1000000) (l l1 : List UInt8) (w : World) (h : Live w b s l) (hp : pIs [42] l = some l1) (hp1 : pIs [47] l1 = none) :
    Calls Tryz.prog 52 #[rdV b f] w (RetL (itV ⟨0, 0, 0, 1⟩) b s l1 w) := by
  have hs9 : s.size ≤ 9223372036854775807 := by omega
  have hlt := h.lt
  have hne : w.heap.size ≠ b := by omega
  have hne1 : w.heap.size + 1 ≠ b := by omega
  have H := Lib.hid h
  have HP := Lib.hid (hp)
  have HP1 := Lib.hid (hp1)
  clear h hp hp1
  go_enter Tryz.func52, Tryz.ntmps52
  go_wp2_with fail
  refine (is_yes hs9 (((H.out.alloc _).alloc _).alloc _) (rdB1 (c := 42) (cell_new (by simp) rfl)) (by decide) HP.out).mono ?_
  rintro e w1 ⟨rfl, h1, g1⟩
  have F1 := Lib.hid (((fr_new w b (f : Int) 87 60).alloc _).chg g1 hne hne1)
  have hg1 := ((((Chg.refl b w).alloc _).alloc _).alloc _).trans g1
  have hz1 := g1.size
  (try simp at hz1)
  have hzA1 : w.heap.size < w1.heap.size := by omega
  have hzB1 : w.heap.size + 1 < w1.heap.size := by omega
  obtain ⟨c0, c1⟩ := F1.out.1
  have hneI : w1.heap.size ≠ b := by omega
  go_wp2_with fail
  refine (is_no hs9 ((h1.alloc _).alloc _) (rdB1 (c := 47) (cell_new (by simp) rfl)) (by decide) HP1.out).mono ?_
  rintro e w2 ⟨rfl, h2, g2⟩
  have F2 := Lib.hid (((F1.out.alloc _).alloc _).chg g2 hne hne1)
  have I2 := Lib.hid (Arr.chg (Arr.alloc (itAt_new w1 0 0 0 1 60) (Arr.lt (itAt_new w1 0 0 0 1 60) (by decide)) _) (by decide) g2 hneI)
  have hg2 := ((hg1.alloc _).alloc _).trans g2
  have hz2 := g2.size
  (try simp at hz2)
  have hzA2 : w.heap.size < w2.heap.size := by omega
  have hzB2 : w.heap.size + 1 < w2.heap.size := by omega
  have hzI2 : w1.heap.size < w2.heap.size := by omega
  clear c0 c1
  obtain ⟨c0, c1⟩ := F2.out.1
  obtain ⟨i0, i1, i2, i3, ifz⟩ := ItAt.cells I2.out
  obtain ⟨r0, r1, r2, r3, rfz⟩ := ItAt.cells F2.out.2
  go_wp2
  (try simp only [Exit.inBlock, Exit.then])
  refine bodyPost_ret (v := itV ⟨0, 0, 0, 1⟩) ?_ rfl ⟨rfl, ?_, ?_⟩
  · rw [results_cell1 rfl]
    go_simp
  · exact h2.set4 hne1 _ _ _ _
  · exact hg2.set4 (by omega) _ _ _ _
set_option maxRecDepth 20000 in
set_option maxHeartbeats 1000000 in
theorem item_star2 (b f : Nat) (hf : f < 5) (s : ByteArray) (hs : s.size ≤ 1000000) (l l1 l2 r : List UInt8) (n : Int) (w : World) (h : Live w b s l) (hp : pIs [42] l = some l1) (hp1 : pIs [47] l1 = some l2) (hp2 : cStep l2 = .ok (n, r)) :
    Calls Tryz.prog 52 #[rdV b f] w (RetL (itV ⟨0, 0, 0, n⟩) b s r w) := by
  have hs9 : s.size ≤ 9223372036854775807 := by omega
  have hlt := h.lt
  have hne : w.heap.size ≠ b := by omega
  have hne1 : w.heap.size + 1 ≠ b := by omega
  have H := Lib.hid h
  have HP := Lib.hid (hp)
  have HP1 := Lib.hid (hp1)
  have HS := Lib.hid (fun W (h : Live W b s l2) => step_ok b f s hs9 l2 r n W h hp2)
  clear h hp hp1 hp2
  go_enter Tryz.func52, Tryz.ntmps52
  go_wp2_with fail
  refine (is_yes hs9 (((H.out.alloc _).alloc _).alloc _) (rdB1 (c := 42) (cell_new (by simp) rfl)) (by decide) HP.out).mono ?_
  rintro e w1 ⟨rfl, h1, g1⟩
  have F1 := Lib.hid (((fr_new w b (f : Int) 87 60).alloc _).chg g1 hne hne1)
  have hg1 := ((((Chg.refl b w).alloc _).alloc _).alloc _).trans g1
  have hz1 := g1.size
  (try simp at hz1)
  have hzA1 : w.heap.size < w1.heap.size := by omega
  have hzB1 : w.heap.size + 1 < w1.heap.size := by omega
  obtain ⟨c0, c1⟩ := F1.out.1
  have hneI : w1.heap.size ≠ b := by omega
  go_wp2_with fail
  refine (is_yes hs9 ((h1.alloc _).alloc _) (rdB1 (c := 47) (cell_new (by simp) rfl)) (by decide) HP1.out).mono ?_
  rintro e w2 ⟨rfl, h2, g2⟩
  have F2 := Lib.hid (((F1.out.alloc _).alloc _).chg g2 hne hne1)
  have I2 := Lib.hid (Arr.chg (Arr.alloc (itAt_new w1 0 0 0 1 60) (Arr.lt (itAt_new w1 0 0 0 1 60) (by decide)) _) (by decide) g2 hneI)
  have hg2 := ((hg1.alloc _).alloc _).trans g2
  have hz2 := g2.size
  (try simp at hz2)
  have hzA2 : w.heap.size < w2.heap.size := by omega
  have hzB2 : w.heap.size + 1 < w2.heap.size := by omega
  have hzI2 : w1.heap.size < w2.heap.size := by omega
  clear c0 c1
  obtain ⟨c0, c1⟩ := F2.out.1
  obtain ⟨i0, i1, i2, i3, ifz⟩ := ItAt.cells I2.out
  go_wp2_with fail
  refine (HS.out _ h2).mono ?_
  rintro e w3 ⟨rfl, h3, g3⟩
  have F3 := Lib.hid (F2.out.chg g3 hne hne1)
  have I3 := Lib.hid (Arr.chg I2.out (by decide) g3 hneI)
  have hg3 := hg2.trans g3
  have hz3 := g3.size
  (try simp at hz3)
  have hzA3 : w.heap.size < w3.heap.size := by omega
  have hzB3 : w.heap.size + 1 < w3.heap.size := by omega
  have hzI3 : w1.heap.size < w3.heap.size := by omega
  clear c0 c1 i0 i1 i2 i3 ifz
  obtain ⟨c0, c1⟩ := F3.out.1
  obtain ⟨i0, i1, i2, i3, ifz⟩ := ItAt.cells I3.out
  obtain ⟨r0, r1, r2, r3, rfz⟩ := ItAt.cells F3.out.2
  go_wp2
  (try simp only [Exit.inBlock, Exit.then])
  refine bodyPost_ret (v := itV ⟨0, 0, 0, n⟩) ?_ rfl ⟨rfl, ?_, ?_⟩
  · rw [results_cell1 rfl]
    go_simp
  · exact (h3.set hneI (.int .i64 n)).set4 hne1 _ _ _ _
  · exact (hg3.setNew (by omega)).set4 (by omega) _ _ _ _
set_option maxRecDepth 20000 in
set_option maxHeartbeats 1000000 in
theorem item_star3 (b f : Nat) (hf : f < 5) (s : ByteArray) (hs : s.size ≤ 1000000) (l l1 l2 : List UInt8) (m : Nat) (q : Int) (w : World) (h : Live w b s l) (hp : pIs [42] l = some l1) (hp1 : pIs [47] l1 = some l2) (hp2 : cStep l2 = .error (m, q)) :
    Calls Tryz.prog 52 #[rdV b f] w (RetDIt b s (placeI s m) q w) := by
  have hs9 : s.size ≤ 9223372036854775807 := by omega
  have hlt := h.lt
  have hne : w.heap.size ≠ b := by omega
  have hne1 : w.heap.size + 1 ≠ b := by omega
  have H := Lib.hid h
  have HP := Lib.hid (hp)
  have HP1 := Lib.hid (hp1)
  have HS := Lib.hid (fun W (h : Live W b s l2) => step_err b f s hs9 l2 m q W h hp2)
  clear h hp hp1 hp2
  go_enter Tryz.func52, Tryz.ntmps52
  go_wp2_with fail
  refine (is_yes hs9 (((H.out.alloc _).alloc _).alloc _) (rdB1 (c := 42) (cell_new (by simp) rfl)) (by decide) HP.out).mono ?_
  rintro e w1 ⟨rfl, h1, g1⟩
  have F1 := Lib.hid (((fr_new w b (f : Int) 87 60).alloc _).chg g1 hne hne1)
  have hg1 := ((((Chg.refl b w).alloc _).alloc _).alloc _).trans g1
  have hz1 := g1.size
  (try simp at hz1)
  have hzA1 : w.heap.size < w1.heap.size := by omega
  have hzB1 : w.heap.size + 1 < w1.heap.size := by omega
  obtain ⟨c0, c1⟩ := F1.out.1
  have hneI : w1.heap.size ≠ b := by omega
  go_wp2_with fail
  refine (is_yes hs9 ((h1.alloc _).alloc _) (rdB1 (c := 47) (cell_new (by simp) rfl)) (by decide) HP1.out).mono ?_
  rintro e w2 ⟨rfl, h2, g2⟩
  have F2 := Lib.hid (((F1.out.alloc _).alloc _).chg g2 hne hne1)
  have I2 := Lib.hid (Arr.chg (Arr.alloc (itAt_new w1 0 0 0 1 60) (Arr.lt (itAt_new w1 0 0 0 1 60) (by decide)) _) (by decide) g2 hneI)
  have hg2 := ((hg1.alloc _).alloc _).trans g2
  have hz2 := g2.size
  (try simp at hz2)
  have hzA2 : w.heap.size < w2.heap.size := by omega
  have hzB2 : w.heap.size + 1 < w2.heap.size := by omega
  have hzI2 : w1.heap.size < w2.heap.size := by omega
  clear c0 c1
  obtain ⟨c0, c1⟩ := F2.out.1
  obtain ⟨i0, i1, i2, i3, ifz⟩ := ItAt.cells I2.out
  go_wp2_with fail
  refine (HS.out _ h2).mono ?_
  rintro e w3 ⟨y3, rfl, h3, g3⟩
  have F3 := Lib.hid (F2.out.chg g3 hne hne1)
  have I3 := Lib.hid (Arr.chg I2.out (by decide) g3 hneI)
  have hg3 := hg2.trans g3
  have hz3 := g3.size
  (try simp at hz3)
  have hzA3 : w.heap.size < w3.heap.size := by omega
  have hzB3 : w.heap.size + 1 < w3.heap.size := by omega
  have hzI3 : w1.heap.size < w3.heap.size := by omega
  clear c0 c1 i0 i1 i2 i3 ifz
  obtain ⟨c0, c1⟩ := F3.out.1
  obtain ⟨i0, i1, i2, i3, ifz⟩ := ItAt.cells I3.out
  obtain ⟨r0, r1, r2, r3, rfz⟩ := ItAt.cells F3.out.2
  go_wp2
  (try simp only [Exit.inBlock, Exit.then])
  refine bodyPost_ret (v := itV ⟨0, 0, 0, y3⟩) ?_ rfl ⟨⟨0, 0, 0, y3⟩, rfl, ?_, ?_⟩
  · rw [results_cell1 rfl]
    go_simp
  · exact (h3.set hneI (.int .i64 y3)).set4 hne1 _ _ _ _
  · exact (hg3.setNew (by omega)).set4 (by omega) _ _ _ _
set_option maxRecDepth 20000 in
set_option maxHeartbeats 1000000 in
theorem item_one (b f : Nat) (hf : f < 5) (s : ByteArray) (hs : s.size ≤ 1000000) (l l1 : List UInt8) (n : Int) (w : World) (h : Live w b s l) (hp : pIs [42] l = none) (hp1 : cNum f l = .ok (n, l1)) (hp2 : pIs [45] l1 = none) :
    Calls Tryz.prog 52 #[rdV b f] w (RetL (itV ⟨1, n, 0, 0⟩) b s l1 w) := by
  have hs9 : s.size ≤ 9223372036854775807 := by omega
  have hlt := h.lt
  have hne : w.heap.size ≠ b := by omega
  have hne1 : w.heap.size + 1 ≠ b := by omega
  have H := Lib.hid h
  have HP := Lib.hid (hp)
  have HN := Lib.hid (fun W (h : Live W b s l) => num_ok b f hf s hs l l1 n W h hp1)
  have HP2 := Lib.hid (hp2)
  clear h hp hp1 hp2
  go_enter Tryz.func52, Tryz.ntmps52
  go_wp2_with fail
  refine (is_no hs9 (((H.out.alloc _).alloc _).alloc _) (rdB1 (c := 42) (cell_new (by simp) rfl)) (by decide) HP.out).mono ?_
  rintro e w1 ⟨rfl, h1, g1⟩
  have F1 := Lib.hid (((fr_new w b (f : Int) 87 60).alloc _).chg g1 hne hne1)
  have hg1 := ((((Chg.refl b w).alloc _).alloc _).alloc _).trans g1
  have hz1 := g1.size
  (try simp at hz1)
  have hzA1 : w.heap.size < w1.heap.size := by omega
  have hzB1 : w.heap.size + 1 < w1.heap.size := by omega
  obtain ⟨c0, c1⟩ := F1.out.1
  go_wp2_with fail
  refine (HN.out _ h1).mono ?_
  rintro e w2 ⟨rfl, h2, g2⟩
  have F2 := Lib.hid (F1.out.chg g2 hne hne1)
  have hg2 := hg1.trans g2
  have hz2 := g2.size
  (try simp at hz2)
  have hzA2 : w.heap.size < w2.heap.size := by omega
  have hzB2 : w.heap.size + 1 < w2.heap.size := by omega
  clear c0 c1
  obtain ⟨c0, c1⟩ := F2.out.1
  have hneI : w2.heap.size ≠ b := by omega
  go_wp2_with fail
  refine (is_no hs9 ((h2.alloc _).alloc _) (rdB1 (c := 45) (cell_new (by simp) rfl)) (by decide) HP2.out).mono ?_
  rintro e w3 ⟨rfl, h3, g3⟩
  have F3 := Lib.hid (((F2.out.alloc _).alloc _).chg g3 hne hne1)
  have I3 := Lib.hid (Arr.chg (Arr.alloc (itAt_new w2 1 n 0 0 60) (Arr.lt (itAt_new w2 1 n 0 0 60) (by decide)) _) (by decide) g3 hneI)
  have hg3 := ((hg2.alloc _).alloc _).trans g3
  have hz3 := g3.size
  (try simp at hz3)
  have hzA3 : w.heap.size < w3.heap.size := by omega
  have hzB3 : w.heap.size + 1 < w3.heap.size := by omega
  have hzI3 : w2.heap.size < w3.heap.size := by omega
  clear c0 c1
  obtain ⟨c0, c1⟩ := F3.out.1
  obtain ⟨i0, i1, i2, i3, ifz⟩ := ItAt.cells I3.out
  obtain ⟨r0, r1, r2, r3, rfz⟩ := ItAt.cells F3.out.2
  go_wp2
  (try simp only [Exit.inBlock, Exit.then])
  refine bodyPost_ret (v := itV ⟨1, n, 0, 0⟩) ?_ rfl ⟨rfl, ?_, ?_⟩
  · rw [results_cell1 rfl]
    go_simp
  · exact h3.set4 hne1 _ _ _ _
  · exact hg3.set4 (by omega) _ _ _ _
set_option maxRecDepth 20000 in
set_option maxHeartbeats 1000000 in
theorem item_one_err (b f : Nat) (hf : f < 5) (s : ByteArray) (hs : s.size ≤ 1000000) (l : List UInt8) (m : Nat) (q : Int) (w : World) (h : Live w b s l) (hp : pIs [42] l = none) (hp1 : cNum f l = .error (m, q)) :
    Calls Tryz.prog 52 #[rdV b f] w (RetDIt b s (placeI s m) q w) := by
  have hs9 : s.size ≤ 9223372036854775807 := by omega
  have hlt := h.lt
  have hne : w.heap.size ≠ b := by omega
  have hne1 : w.heap.size + 1 ≠ b := by omega
  have H := Lib.hid h
  have HP := Lib.hid (hp)
  have HN := Lib.hid (fun W (h : Live W b s l) => num_err b f hf s hs l m q W h hp1)
  clear h hp hp1
  go_enter Tryz.func52, Tryz.ntmps52
  go_wp2_with fail
  refine (is_no hs9 (((H.out.alloc _).alloc _).alloc _) (rdB1 (c := 42) (cell_new (by simp) rfl)) (by decide) HP.out).mono ?_
  rintro e w1 ⟨rfl, h1, g1⟩
  have F1 := Lib.hid (((fr_new w b (f : Int) 87 60).alloc _).chg g1 hne hne1)
  have hg1 := ((((Chg.refl b w).alloc _).alloc _).alloc _).trans g1
  have hz1 := g1.size
  (try simp at hz1)
  have hzA1 : w.heap.size < w1.heap.size := by omega
  have hzB1 : w.heap.size + 1 < w1.heap.size := by omega
  obtain ⟨c0, c1⟩ := F1.out.1
  go_wp2_with fail
  refine (HN.out _ h1).mono ?_
  rintro e w2 ⟨y2, rfl, h2, g2⟩
  have F2 := Lib.hid (F1.out.chg g2 hne hne1)
  have hg2 := hg1.trans g2
  have hz2 := g2.size
  (try simp at hz2)
  have hzA2 : w.heap.size < w2.heap.size := by omega
  have hzB2 : w.heap.size + 1 < w2.heap.size := by omega
  clear c0 c1
  obtain ⟨c0, c1⟩ := F2.out.1
  have hneI : w2.heap.size ≠ b := by omega
  go_wp2_with fail
  refine (is_dead hs9 ((h2.alloc _).alloc _) (rdB1 (c := 45) (cell_new (by simp) rfl)) (by decide)).mono ?_
  rintro e w3 ⟨rfl, h3, g3⟩
  have F3 := Lib.hid (((F2.out.alloc _).alloc _).chg g3 hne hne1)
  have I3 := Lib.hid (Arr.chg (Arr.alloc (itAt_new w2 1 y2 0 0 60) (Arr.lt (itAt_new w2 1 y2 0 0 60) (by decide)) _) (by decide) g3 hneI)
  have hg3 := ((hg2.alloc _).alloc _).trans g3
  have hz3 := g3.size
  (try simp at hz3)
  have hzA3 : w.heap.size < w3.heap.size := by omega
  have hzB3 : w.heap.size + 1 < w3.heap.size := by omega
  have hzI3 : w2.heap.size < w3.heap.size := by omega
  clear c0 c1
  obtain ⟨c0, c1⟩ := F3.out.1
  obtain ⟨i0, i1, i2, i3, ifz⟩ := ItAt.cells I3.out
  obtain ⟨r0, r1, r2, r3, rfz⟩ := ItAt.cells F3.out.2
  go_wp2
  (try simp only [Exit.inBlock, Exit.then])
  refine bodyPost_ret (v := itV ⟨1, y2, 0, 0⟩) ?_ rfl ⟨⟨1, y2, 0, 0⟩, rfl, ?_, ?_⟩
  · rw [results_cell1 rfl]
    go_simp
  · exact h3.set4 hne1 _ _ _ _
  · exact hg3.set4 (by omega) _ _ _ _
set_option maxRecDepth 20000 in
set_option maxHeartbeats 1000000 in
theorem item_dead (b f : Nat) (hf : f < 5) (s : ByteArray) (hs : s.size ≤ 1000000) (a c : Int) (w : World) (h : Dead w b s a c)  :
    Calls Tryz.prog 52 #[rdV b f] w (RetDIt b s a c w) := by
  have hs9 : s.size ≤ 9223372036854775807 := by omega
  have hlt := h.lt
  have hne : w.heap.size ≠ b := by omega
  have hne1 : w.heap.size + 1 ≠ b := by omega
  have H := Lib.hid h
  have HN := Lib.hid (fun W (h : Dead W b s a c) => num_dead b f hf s hs a c W h)
  clear h 
  go_enter Tryz.func52, Tryz.ntmps52
  go_wp2_with fail
  refine (is_dead hs9 (((H.out.alloc _).alloc _).alloc _) (rdB1 (c := 42) (cell_new (by simp) rfl)) (by decide)).mono ?_
  rintro e w1 ⟨rfl, h1, g1⟩
  have F1 := Lib.hid (((fr_new w b (f : Int) 87 60).alloc _).chg g1 hne hne1)
  have hg1 := ((((Chg.refl b w).alloc _).alloc _).alloc _).trans g1
  have hz1 := g1.size
  (try simp at hz1)
  have hzA1 : w.heap.size < w1.heap.size := by omega
  have hzB1 : w.heap.size + 1 < w1.heap.size := by omega
  obtain ⟨c0, c1⟩ := F1.out.1
  go_wp2_with fail
  refine (HN.out _ h1).mono ?_
  rintro e w2 ⟨y2, rfl, h2, g2⟩
  have F2 := Lib.hid (F1.out.chg g2 hne hne1)
  have hg2 := hg1.trans g2
  have hz2 := g2.size
  (try simp at hz2)
  have hzA2 : w.heap.size < w2.heap.size := by omega
  have hzB2 : w.heap.size + 1 < w2.heap.size := by omega
  clear c0 c1
  obtain ⟨c0, c1⟩ := F2.out.1
  have hneI : w2.heap.size ≠ b := by omega
  go_wp2_with fail
  refine (is_dead hs9 ((h2.alloc _).alloc _) (rdB1 (c := 45) (cell_new (by simp) rfl)) (by decide)).mono ?_
  rintro e w3 ⟨rfl, h3, g3⟩
  have F3 := Lib.hid (((F2.out.alloc _).alloc _).chg g3 hne hne1)
  have I3 := Lib.hid (Arr.chg (Arr.alloc (itAt_new w2 1 y2 0 0 60) (Arr.lt (itAt_new w2 1 y2 0 0 60) (by decide)) _) (by decide) g3 hneI)
  have hg3 := ((hg2.alloc _).alloc _).trans g3
  have hz3 := g3.size
  (try simp at hz3)
  have hzA3 : w.heap.size < w3.heap.size := by omega
  have hzB3 : w.heap.size + 1 < w3.heap.size := by omega
  have hzI3 : w2.heap.size < w3.heap.size := by omega
  clear c0 c1
  obtain ⟨c0, c1⟩ := F3.out.1
  obtain ⟨i0, i1, i2, i3, ifz⟩ := ItAt.cells I3.out
  obtain ⟨r0, r1, r2, r3, rfz⟩ := ItAt.cells F3.out.2
  go_wp2
  (try simp only [Exit.inBlock, Exit.then])
  refine bodyPost_ret (v := itV ⟨1, y2, 0, 0⟩) ?_ rfl ⟨⟨1, y2, 0, 0⟩, rfl, ?_, ?_⟩
  · rw [results_cell1 rfl]
    go_simp
  · exact h3.set4 hne1 _ _ _ _
  · exact hg3.set4 (by omega) _ _ _ _
set_option maxRecDepth 20000 in
set_option maxHeartbeats 1000000 in
theorem item_rng1 (b f : Nat) (hf : f < 5) (s : ByteArray) (hs : s.size ≤ 1000000) (l l1 l2 l3 : List UInt8) (n m : Int) (w : World) (h : Live w b s l) (hp : pIs [42] l = none) (hp1 : cNum f l = .ok (n, l1)) (hp2 : pIs [45] l1 = some l2) (hp3 : cNum f l2 = .ok (m, l3)) (hle : ¬ m < n) (hp4 : pIs [47] l3 = none) :
    Calls Tryz.prog 52 #[rdV b f] w (RetL (itV ⟨2, n, m, 1⟩) b s l3 w) := by
  have hs9 : s.size ≤ 9223372036854775807 := by omega
  have hlt := h.lt
  have hne : w.heap.size ≠ b := by omega
  have hne1 : w.heap.size + 1 ≠ b := by omega
  have H := Lib.hid h
  have HP := Lib.hid (hp)
  have HN := Lib.hid (fun W (h : Live W b s l) => num_ok b f hf s hs l l1 n W h hp1)
  have HP2 := Lib.hid (hp2)
  have HM := Lib.hid (fun W (h : Live W b s l2) => num_ok b f hf s hs l2 l3 m W h hp3)
  have HP4 := Lib.hid (hp4)
  clear h hp hp1 hp2 hp3 hp4
  go_enter Tryz.func52, Tryz.ntmps52
  go_wp2_with fail
  refine (is_no hs9 (((H.out.alloc _).alloc _).alloc _) (rdB1 (c := 42) (cell_new (by simp) rfl)) (by decide) HP.out).mono ?_
  rintro e w1 ⟨rfl, h1, g1⟩
  have F1 := Lib.hid (((fr_new w b (f : Int) 87 60).alloc _).chg g1 hne hne1)
  have hg1 := ((((Chg.refl b w).alloc _).alloc _).alloc _).trans g1
  have hz1 := g1.size
  (try simp at hz1)
  have hzA1 : w.heap.size < w1.heap.size := by omega
  have hzB1 : w.heap.size + 1 < w1.heap.size := by omega
  obtain ⟨c0, c1⟩ := F1.out.1
  go_wp2_with fail
  refine (HN.out _ h1).mono ?_
  rintro e w2 ⟨rfl, h2, g2⟩
  have F2 := Lib.hid (F1.out.chg g2 hne hne1)
  have hg2 := hg1.trans g2
  have hz2 := g2.size
  (try simp at hz2)
  have hzA2 : w.heap.size < w2.heap.size := by omega
  have hzB2 : w.heap.size + 1 < w2.heap.size := by omega
  clear c0 c1
  obtain ⟨c0, c1⟩ := F2.out.1
  have hneI : w2.heap.size ≠ b := by omega
  go_wp2_with fail
  refine (is_yes hs9 ((h2.alloc _).alloc _) (rdB1 (c := 45) (cell_new (by simp) rfl)) (by decide) HP2.out).mono ?_
  rintro e w3 ⟨rfl, h3, g3⟩
  have F3 := Lib.hid (((F2.out.alloc _).alloc _).chg g3 hne hne1)
  have I3 := Lib.hid (Arr.chg (Arr.alloc (itAt_new w2 1 n 0 0 60) (Arr.lt (itAt_new w2 1 n 0 0 60) (by decide)) _) (by decide) g3 hneI)
  have hg3 := ((hg2.alloc _).alloc _).trans g3
  have hz3 := g3.size
  (try simp at hz3)
  have hzA3 : w.heap.size < w3.heap.size := by omega
  have hzB3 : w.heap.size + 1 < w3.heap.size := by omega
  have hzI3 : w2.heap.size < w3.heap.size := by omega
  clear c0 c1
  obtain ⟨c0, c1⟩ := F3.out.1
  obtain ⟨i0, i1, i2, i3, ifz⟩ := ItAt.cells I3.out
  go_wp2_with fail
  refine (at_live h3).mono ?_
  rintro e w4 ⟨rfl, h4, g4⟩
  have F4 := Lib.hid (F3.out.chg g4 hne hne1)
  have I4 := Lib.hid (Arr.chg I3.out (by decide) g4 hneI)
  have hg4 := hg3.trans g4
  have hz4 := g4.size
  (try simp at hz4)
  have hzA4 : w.heap.size < w4.heap.size := by omega
  have hzB4 : w.heap.size + 1 < w4.heap.size := by omega
  have hzI4 : w2.heap.size < w4.heap.size := by omega
  clear c0 c1 i0 i1 i2 i3 ifz
  obtain ⟨c0, c1⟩ := F4.out.1
  obtain ⟨i0, i1, i2, i3, ifz⟩ := ItAt.cells I4.out
  go_wp2_with fail
  refine (HM.out _ h4).mono ?_
  rintro e w5 ⟨rfl, h5, g5⟩
  have F5 := Lib.hid (F4.out.chg g5 hne hne1)
  have I5 := Lib.hid (Arr.chg I4.out (by decide) g5 hneI)
  have hg5 := hg4.trans g5
  have hz5 := g5.size
  (try simp at hz5)
  have hzA5 : w.heap.size < w5.heap.size := by omega
  have hzB5 : w.heap.size + 1 < w5.heap.size := by omega
  have hzI5 : w2.heap.size < w5.heap.size := by omega
  clear c0 c1 i0 i1 i2 i3 ifz
  obtain ⟨c0, c1⟩ := F5.out.1
  obtain ⟨i0, i1, i2, i3, ifz⟩ := ItAt.cells I5.out
  go_wp2_with fail
  refine (is_no hs9 ((((h5.set hneI (.int .i64 2)).set hneI (.int .i64 m)).set hneI (.int .i64 1)).alloc _) (rdB1 (c := 47) (cell_new (by simp) rfl)) (by decide) HP4.out).mono ?_
  rintro e w6 ⟨rfl, h6, g6⟩
  have F6 := Lib.hid (((((F5.out.set (by omega) (by omega) (.int .i64 2)).set (by omega) (by omega) (.int .i64 m)).set (by omega) (by omega) (.int .i64 1)).alloc _).chg g6 hne hne1)
  have I6 := Lib.hid (Arr.chg (Arr.alloc (itAt_set3 (itAt_set2 (itAt_set0 I5.out 2) m) 1) (Arr.lt (itAt_set3 (itAt_set2 (itAt_set0 I5.out 2) m) 1) (by decide)) _) (by decide) g6 hneI)
  have hg6 := ((((hg5.setNew (by omega)).setNew (by omega)).setNew (by omega)).alloc _).trans g6
  have hz6 := g6.size
  (try simp at hz6)
  have hzA6 : w.heap.size < w6.heap.size := by omega
  have hzB6 : w.heap.size + 1 < w6.heap.size := by omega
  have hzI6 : w2.heap.size < w6.heap.size := by omega
  clear c0 c1 i0 i1 i2 i3 ifz
  obtain ⟨c0, c1⟩ := F6.out.1
  obtain ⟨i0, i1, i2, i3, ifz⟩ := ItAt.cells I6.out
  obtain ⟨r0, r1, r2, r3, rfz⟩ := ItAt.cells F6.out.2
  go_wp2
  (try simp only [Exit.inBlock, Exit.then])
  refine bodyPost_ret (v := itV ⟨2, n, m, 1⟩) ?_ rfl ⟨rfl, ?_, ?_⟩
  · rw [results_cell1 rfl]
    go_simp
  · exact h6.set4 hne1 _ _ _ _
  · exact hg6.set4 (by omega) _ _ _ _
set_option maxRecDepth 20000 in
set_option maxHeartbeats 1000000 in
theorem item_rng2 (b f : Nat) (hf : f < 5) (s : ByteArray) (hs : s.size ≤ 1000000) (l l1 l2 l3 l4 r : List UInt8) (n m q : Int) (w : World) (h : Live w b s l) (hp : pIs [42] l = none) (hp1 : cNum f l = .ok (n, l1)) (hp2 : pIs [45] l1 = some l2) (hp3 : cNum f l2 = .ok (m, l3)) (hle : ¬ m < n) (hp4 : pIs [47] l3 = some l4) (hp5 : cStep l4 = .ok (q, r)) :
    Calls Tryz.prog 52 #[rdV b f] w (RetL (itV ⟨2, n, m, q⟩) b s r w) := by
  have hs9 : s.size ≤ 9223372036854775807 := by omega
  have hlt := h.lt
  have hne : w.heap.size ≠ b := by omega
  have hne1 : w.heap.size + 1 ≠ b := by omega
  have H := Lib.hid h
  have HP := Lib.hid (hp)
  have HN := Lib.hid (fun W (h : Live W b s l) => num_ok b f hf s hs l l1 n W h hp1)
  have HP2 := Lib.hid (hp2)
  have HM := Lib.hid (fun W (h : Live W b s l2) => num_ok b f hf s hs l2 l3 m W h hp3)
  have HP4 := Lib.hid (hp4)
  have HS := Lib.hid (fun W (h : Live W b s l4) => step_ok b f s hs9 l4 r q W h hp5)
  clear h hp hp1 hp2 hp3 hp4 hp5
  go_enter Tryz.func52, Tryz.ntmps52
  go_wp2_with fail
  refine (is_no hs9 (((H.out.alloc _).alloc _).alloc _) (rdB1 (c := 42) (cell_new (by simp) rfl)) (by decide) HP.out).mono ?_
  rintro e w1 ⟨rfl, h1, g1⟩
  have F1 := Lib.hid (((fr_new w b (f : Int) 87 60).alloc _).chg g1 hne hne1)
  have hg1 := ((((Chg.refl b w).alloc _).alloc _).alloc _).trans g1
  have hz1 := g1.size
  (try simp at hz1)
  have hzA1 : w.heap.size < w1.heap.size := by omega
  have hzB1 : w.heap.size + 1 < w1.heap.size := by omega
  obtain ⟨c0, c1⟩ := F1.out.1
  go_wp2_with fail
  refine (HN.out _ h1).mono ?_
  rintro e w2 ⟨rfl, h2, g2⟩
  have F2 := Lib.hid (F1.out.chg g2 hne hne1)
  have hg2 := hg1.trans g2
  have hz2 := g2.size
  (try simp at hz2)
  have hzA2 : w.heap.size < w2.heap.size := by omega
  have hzB2 : w.heap.size + 1 < w2.heap.size := by omega
  clear c0 c1
  obtain ⟨c0, c1⟩ := F2.out.1
  have hneI : w2.heap.size ≠ b := by omega
  go_wp2_with fail
  refine (is_yes hs9 ((h2.alloc _).alloc _) (rdB1 (c := 45) (cell_new (by simp) rfl)) (by decide) HP2.out).mono ?_
  rintro e w3 ⟨rfl, h3, g3⟩
  have F3 := Lib.hid (((F2.out.alloc _).alloc _).chg g3 hne hne1)
  have I3 := Lib.hid (Arr.chg (Arr.alloc (itAt_new w2 1 n 0 0 60) (Arr.lt (itAt_new w2 1 n 0 0 60) (by decide)) _) (by decide) g3 hneI)
  have hg3 := ((hg2.alloc _).alloc _).trans g3
  have hz3 := g3.size
  (try simp at hz3)
  have hzA3 : w.heap.size < w3.heap.size := by omega
  have hzB3 : w.heap.size + 1 < w3.heap.size := by omega
  have hzI3 : w2.heap.size < w3.heap.size := by omega
  clear c0 c1
  obtain ⟨c0, c1⟩ := F3.out.1
  obtain ⟨i0, i1, i2, i3, ifz⟩ := ItAt.cells I3.out
  go_wp2_with fail
  refine (at_live h3).mono ?_
  rintro e w4 ⟨rfl, h4, g4⟩
  have F4 := Lib.hid (F3.out.chg g4 hne hne1)
  have I4 := Lib.hid (Arr.chg I3.out (by decide) g4 hneI)
  have hg4 := hg3.trans g4
  have hz4 := g4.size
  (try simp at hz4)
  have hzA4 : w.heap.size < w4.heap.size := by omega
  have hzB4 : w.heap.size + 1 < w4.heap.size := by omega
  have hzI4 : w2.heap.size < w4.heap.size := by omega
  clear c0 c1 i0 i1 i2 i3 ifz
  obtain ⟨c0, c1⟩ := F4.out.1
  obtain ⟨i0, i1, i2, i3, ifz⟩ := ItAt.cells I4.out
  go_wp2_with fail
  refine (HM.out _ h4).mono ?_
  rintro e w5 ⟨rfl, h5, g5⟩
  have F5 := Lib.hid (F4.out.chg g5 hne hne1)
  have I5 := Lib.hid (Arr.chg I4.out (by decide) g5 hneI)
  have hg5 := hg4.trans g5
  have hz5 := g5.size
  (try simp at hz5)
  have hzA5 : w.heap.size < w5.heap.size := by omega
  have hzB5 : w.heap.size + 1 < w5.heap.size := by omega
  have hzI5 : w2.heap.size < w5.heap.size := by omega
  clear c0 c1 i0 i1 i2 i3 ifz
  obtain ⟨c0, c1⟩ := F5.out.1
  obtain ⟨i0, i1, i2, i3, ifz⟩ := ItAt.cells I5.out
  go_wp2_with fail
  refine (is_yes hs9 ((((h5.set hneI (.int .i64 2)).set hneI (.int .i64 m)).set hneI (.int .i64 1)).alloc _) (rdB1 (c := 47) (cell_new (by simp) rfl)) (by decide) HP4.out).mono ?_
  rintro e w6 ⟨rfl, h6, g6⟩
  have F6 := Lib.hid (((((F5.out.set (by omega) (by omega) (.int .i64 2)).set (by omega) (by omega) (.int .i64 m)).set (by omega) (by omega) (.int .i64 1)).alloc _).chg g6 hne hne1)
  have I6 := Lib.hid (Arr.chg (Arr.alloc (itAt_set3 (itAt_set2 (itAt_set0 I5.out 2) m) 1) (Arr.lt (itAt_set3 (itAt_set2 (itAt_set0 I5.out 2) m) 1) (by decide)) _) (by decide) g6 hneI)
  have hg6 := ((((hg5.setNew (by omega)).setNew (by omega)).setNew (by omega)).alloc _).trans g6
  have hz6 := g6.size
  (try simp at hz6)
  have hzA6 : w.heap.size < w6.heap.size := by omega
  have hzB6 : w.heap.size + 1 < w6.heap.size := by omega
  have hzI6 : w2.heap.size < w6.heap.size := by omega
  clear c0 c1 i0 i1 i2 i3 ifz
  obtain ⟨c0, c1⟩ := F6.out.1
  obtain ⟨i0, i1, i2, i3, ifz⟩ := ItAt.cells I6.out
  go_wp2_with fail
  refine (HS.out _ h6).mono ?_
  rintro e w7 ⟨rfl, h7, g7⟩
  have F7 := Lib.hid (F6.out.chg g7 hne hne1)
  have I7 := Lib.hid (Arr.chg I6.out (by decide) g7 hneI)
  have hg7 := hg6.trans g7
  have hz7 := g7.size
  (try simp at hz7)
  have hzA7 : w.heap.size < w7.heap.size := by omega
  have hzB7 : w.heap.size + 1 < w7.heap.size := by omega
  have hzI7 : w2.heap.size < w7.heap.size := by omega
  clear c0 c1 i0 i1 i2 i3 ifz
  obtain ⟨c0, c1⟩ := F7.out.1
  obtain ⟨i0, i1, i2, i3, ifz⟩ := ItAt.cells I7.out
  obtain ⟨r0, r1, r2, r3, rfz⟩ := ItAt.cells F7.out.2
  go_wp2
  (try simp only [Exit.inBlock, Exit.then])
  refine bodyPost_ret (v := itV ⟨2, n, m, q⟩) ?_ rfl ⟨rfl, ?_, ?_⟩
  · rw [results_cell1 rfl]
    go_simp
  · exact (h7.set hneI (.int .i64 q)).set4 hne1 _ _ _ _
  · exact (hg7.setNew (by omega)).set4 (by omega) _ _ _ _
set_option maxRecDepth 20000 in
set_option maxHeartbeats 1000000 in
theorem item_rng2_err (b f : Nat) (hf : f < 5) (s : ByteArray) (hs : s.size ≤ 1000000) (l l1 l2 l3 l4 : List UInt8) (n m : Int) (z : Nat) (q : Int) (w : World) (h : Live w b s l) (hp : pIs [42] l = none) (hp1 : cNum f l = .ok (n, l1)) (hp2 : pIs [45] l1 = some l2) (hp3 : cNum f l2 = .ok (m, l3)) (hle : ¬ m < n) (hp4 : pIs [47] l3 = some l4) (hp5 : cStep l4 = .error (z, q)) :
    Calls Tryz.prog 52 #[rdV b f] w (RetDIt b s (placeI s z) q w) := by
  have hs9 : s.size ≤ 9223372036854775807 := by omega
  have hlt := h.lt
  have hne : w.heap.size ≠ b := by omega
  have hne1 : w.heap.size + 1 ≠ b := by omega
  have H := Lib.hid h
  have HP := Lib.hid (hp)
  have HN := Lib.hid (fun W (h : Live W b s l) => num_ok b f hf s hs l l1 n W h hp1)
  have HP2 := Lib.hid (hp2)
  have HM := Lib.hid (fun W (h : Live W b s l2) => num_ok b f hf s hs l2 l3 m W h hp3)
  have HP4 := Lib.hid (hp4)
  have HS := Lib.hid (fun W (h : Live W b s l4) => step_err b f s hs9 l4 z q W h hp5)
  clear h hp hp1 hp2 hp3 hp4 hp5
  go_enter Tryz.func52, Tryz.ntmps52
  go_wp2_with fail
  refine (is_no hs9 (((H.out.alloc _).alloc _).alloc _) (rdB1 (c := 42) (cell_new (by simp) rfl)) (by decide) HP.out).mono ?_
  rintro e w1 ⟨rfl, h1, g1⟩
  have F1 := Lib.hid (((fr_new w b (f : Int) 87 60).alloc _).chg g1 hne hne1)
  have hg1 := ((((Chg.refl b w).alloc _).alloc _).alloc _).trans g1
  have hz1 := g1.size
  (try simp at hz1)
  have hzA1 : w.heap.size < w1.heap.size := by omega
  have hzB1 : w.heap.size + 1 < w1.heap.size := by omega
  obtain ⟨c0, c1⟩ := F1.out.1
  go_wp2_with fail
  refine (HN.out _ h1).mono ?_
  rintro e w2 ⟨rfl, h2, g2⟩
  have F2 := Lib.hid (F1.out.chg g2 hne hne1)
  have hg2 := hg1.trans g2
  have hz2 := g2.size
  (try simp at hz2)
  have hzA2 : w.heap.size < w2.heap.size := by omega
  have hzB2 : w.heap.size + 1 < w2.heap.size := by omega
  clear c0 c1
  obtain ⟨c0, c1⟩ := F2.out.1
  have hneI : w2.heap.size ≠ b := by omega
  go_wp2_with fail
  refine (is_yes hs9 ((h2.alloc _).alloc _) (rdB1 (c := 45) (cell_new (by simp) rfl)) (by decide) HP2.out).mono ?_
  rintro e w3 ⟨rfl, h3, g3⟩
  have F3 := Lib.hid (((F2.out.alloc _).alloc _).chg g3 hne hne1)
  have I3 := Lib.hid (Arr.chg (Arr.alloc (itAt_new w2 1 n 0 0 60) (Arr.lt (itAt_new w2 1 n 0 0 60) (by decide)) _) (by decide) g3 hneI)
  have hg3 := ((hg2.alloc _).alloc _).trans g3
  have hz3 := g3.size
  (try simp at hz3)
  have hzA3 : w.heap.size < w3.heap.size := by omega
  have hzB3 : w.heap.size + 1 < w3.heap.size := by omega
  have hzI3 : w2.heap.size < w3.heap.size := by omega
  clear c0 c1
  obtain ⟨c0, c1⟩ := F3.out.1
  obtain ⟨i0, i1, i2, i3, ifz⟩ := ItAt.cells I3.out
  go_wp2_with fail
  refine (at_live h3).mono ?_
  rintro e w4 ⟨rfl, h4, g4⟩
  have F4 := Lib.hid (F3.out.chg g4 hne hne1)
  have I4 := Lib.hid (Arr.chg I3.out (by decide) g4 hneI)
  have hg4 := hg3.trans g4
  have hz4 := g4.size
  (try simp at hz4)
  have hzA4 : w.heap.size < w4.heap.size := by omega
  have hzB4 : w.heap.size + 1 < w4.heap.size := by omega
  have hzI4 : w2.heap.size < w4.heap.size := by omega
  clear c0 c1 i0 i1 i2 i3 ifz
  obtain ⟨c0, c1⟩ := F4.out.1
  obtain ⟨i0, i1, i2, i3, ifz⟩ := ItAt.cells I4.out
  go_wp2_with fail
  refine (HM.out _ h4).mono ?_
  rintro e w5 ⟨rfl, h5, g5⟩
  have F5 := Lib.hid (F4.out.chg g5 hne hne1)
  have I5 := Lib.hid (Arr.chg I4.out (by decide) g5 hneI)
  have hg5 := hg4.trans g5
  have hz5 := g5.size
  (try simp at hz5)
  have hzA5 : w.heap.size < w5.heap.size := by omega
  have hzB5 : w.heap.size + 1 < w5.heap.size := by omega
  have hzI5 : w2.heap.size < w5.heap.size := by omega
  clear c0 c1 i0 i1 i2 i3 ifz
  obtain ⟨c0, c1⟩ := F5.out.1
  obtain ⟨i0, i1, i2, i3, ifz⟩ := ItAt.cells I5.out
  go_wp2_with fail
  refine (is_yes hs9 ((((h5.set hneI (.int .i64 2)).set hneI (.int .i64 m)).set hneI (.int .i64 1)).alloc _) (rdB1 (c := 47) (cell_new (by simp) rfl)) (by decide) HP4.out).mono ?_
  rintro e w6 ⟨rfl, h6, g6⟩
  have F6 := Lib.hid (((((F5.out.set (by omega) (by omega) (.int .i64 2)).set (by omega) (by omega) (.int .i64 m)).set (by omega) (by omega) (.int .i64 1)).alloc _).chg g6 hne hne1)
  have I6 := Lib.hid (Arr.chg (Arr.alloc (itAt_set3 (itAt_set2 (itAt_set0 I5.out 2) m) 1) (Arr.lt (itAt_set3 (itAt_set2 (itAt_set0 I5.out 2) m) 1) (by decide)) _) (by decide) g6 hneI)
  have hg6 := ((((hg5.setNew (by omega)).setNew (by omega)).setNew (by omega)).alloc _).trans g6
  have hz6 := g6.size
  (try simp at hz6)
  have hzA6 : w.heap.size < w6.heap.size := by omega
  have hzB6 : w.heap.size + 1 < w6.heap.size := by omega
  have hzI6 : w2.heap.size < w6.heap.size := by omega
  clear c0 c1 i0 i1 i2 i3 ifz
  obtain ⟨c0, c1⟩ := F6.out.1
  obtain ⟨i0, i1, i2, i3, ifz⟩ := ItAt.cells I6.out
  go_wp2_with fail
  refine (HS.out _ h6).mono ?_
  rintro e w7 ⟨y7, rfl, h7, g7⟩
  have F7 := Lib.hid (F6.out.chg g7 hne hne1)
  have I7 := Lib.hid (Arr.chg I6.out (by decide) g7 hneI)
  have hg7 := hg6.trans g7
  have hz7 := g7.size
  (try simp at hz7)
  have hzA7 : w.heap.size < w7.heap.size := by omega
  have hzB7 : w.heap.size + 1 < w7.heap.size := by omega
  have hzI7 : w2.heap.size < w7.heap.size := by omega
  clear c0 c1 i0 i1 i2 i3 ifz
  obtain ⟨c0, c1⟩ := F7.out.1
  obtain ⟨i0, i1, i2, i3, ifz⟩ := ItAt.cells I7.out
  obtain ⟨r0, r1, r2, r3, rfz⟩ := ItAt.cells F7.out.2
  go_wp2
  (try simp only [Exit.inBlock, Exit.then])
  refine bodyPost_ret (v := itV ⟨2, n, m, y7⟩) ?_ rfl ⟨⟨2, n, m, y7⟩, rfl, ?_, ?_⟩
  · rw [results_cell1 rfl]
    go_simp
  · exact (h7.set hneI (.int .i64 y7)).set4 hne1 _ _ _ _
  · exact (hg7.setNew (by omega)).set4 (by omega) _ _ _ _
set_option maxRecDepth 20000 in
set_option maxHeartbeats 1000000 in
theorem item_rng_less (b f : Nat) (hf : f < 5) (s : ByteArray) (hs : s.size ≤ 1000000) (l l1 l2 l3 : List UInt8) (n m : Int) (w : World) (h : Live w b s l) (hp : pIs [42] l = none) (hp1 : cNum f l = .ok (n, l1)) (hp2 : pIs [45] l1 = some l2) (hp3 : cNum f l2 = .ok (m, l3)) (hlt2 : m < n) :
    Calls Tryz.prog 52 #[rdV b f] w (RetDIt b s (placeI s l2.length) 4 w) := by
  have hs9 : s.size ≤ 9223372036854775807 := by omega
  have hlt := h.lt
  have hne : w.heap.size ≠ b := by omega
  have hne1 : w.heap.size + 1 ≠ b := by omega
  have H := Lib.hid h
  have HP := Lib.hid (hp)
  have HN := Lib.hid (fun W (h : Live W b s l) => num_ok b f hf s hs l l1 n W h hp1)
  have HP2 := Lib.hid (hp2)
  have HM := Lib.hid (fun W (h : Live W b s l2) => num_ok b f hf s hs l2 l3 m W h hp3)
  clear h hp hp1 hp2 hp3
  go_enter Tryz.func52, Tryz.ntmps52
  go_wp2_with fail
  refine (is_no hs9 (((H.out.alloc _).alloc _).alloc _) (rdB1 (c := 42) (cell_new (by simp) rfl)) (by decide) HP.out).mono ?_
  rintro e w1 ⟨rfl, h1, g1⟩
  have F1 := Lib.hid (((fr_new w b (f : Int) 87 60).alloc _).chg g1 hne hne1)
  have hg1 := ((((Chg.refl b w).alloc _).alloc _).alloc _).trans g1
  have hz1 := g1.size
  (try simp at hz1)
  have hzA1 : w.heap.size < w1.heap.size := by omega
  have hzB1 : w.heap.size + 1 < w1.heap.size := by omega
  obtain ⟨c0, c1⟩ := F1.out.1
  go_wp2_with fail
  refine (HN.out _ h1).mono ?_
  rintro e w2 ⟨rfl, h2, g2⟩
  have F2 := Lib.hid (F1.out.chg g2 hne hne1)
  have hg2 := hg1.trans g2
  have hz2 := g2.size
  (try simp at hz2)
  have hzA2 : w.heap.size < w2.heap.size := by omega
  have hzB2 : w.heap.size + 1 < w2.heap.size := by omega
  clear c0 c1
  obtain ⟨c0, c1⟩ := F2.out.1
  have hneI : w2.heap.size ≠ b := by omega
  go_wp2_with fail
  refine (is_yes hs9 ((h2.alloc _).alloc _) (rdB1 (c := 45) (cell_new (by simp) rfl)) (by decide) HP2.out).mono ?_
  rintro e w3 ⟨rfl, h3, g3⟩
  have F3 := Lib.hid (((F2.out.alloc _).alloc _).chg g3 hne hne1)
  have I3 := Lib.hid (Arr.chg (Arr.alloc (itAt_new w2 1 n 0 0 60) (Arr.lt (itAt_new w2 1 n 0 0 60) (by decide)) _) (by decide) g3 hneI)
  have hg3 := ((hg2.alloc _).alloc _).trans g3
  have hz3 := g3.size
  (try simp at hz3)
  have hzA3 : w.heap.size < w3.heap.size := by omega
  have hzB3 : w.heap.size + 1 < w3.heap.size := by omega
  have hzI3 : w2.heap.size < w3.heap.size := by omega
  clear c0 c1
  obtain ⟨c0, c1⟩ := F3.out.1
  obtain ⟨i0, i1, i2, i3, ifz⟩ := ItAt.cells I3.out
  go_wp2_with fail
  refine (at_live h3).mono ?_
  rintro e w4 ⟨rfl, h4, g4⟩
  have F4 := Lib.hid (F3.out.chg g4 hne hne1)
  have I4 := Lib.hid (Arr.chg I3.out (by decide) g4 hneI)
  have hg4 := hg3.trans g4
  have hz4 := g4.size
  (try simp at hz4)
  have hzA4 : w.heap.size < w4.heap.size := by omega
  have hzB4 : w.heap.size + 1 < w4.heap.size := by omega
  have hzI4 : w2.heap.size < w4.heap.size := by omega
  clear c0 c1 i0 i1 i2 i3 ifz
  obtain ⟨c0, c1⟩ := F4.out.1
  obtain ⟨i0, i1, i2, i3, ifz⟩ := ItAt.cells I4.out
  go_wp2_with fail
  refine (HM.out _ h4).mono ?_
  rintro e w5 ⟨rfl, h5, g5⟩
  have F5 := Lib.hid (F4.out.chg g5 hne hne1)
  have I5 := Lib.hid (Arr.chg I4.out (by decide) g5 hneI)
  have hg5 := hg4.trans g5
  have hz5 := g5.size
  (try simp at hz5)
  have hzA5 : w.heap.size < w5.heap.size := by omega
  have hzB5 : w.heap.size + 1 < w5.heap.size := by omega
  have hzI5 : w2.heap.size < w5.heap.size := by omega
  clear c0 c1 i0 i1 i2 i3 ifz
  obtain ⟨c0, c1⟩ := F5.out.1
  obtain ⟨i0, i1, i2, i3, ifz⟩ := ItAt.cells I5.out
  go_wp2_with fail
  refine (fail_live (placeI s l2.length) 4 (by decide) (((h5.set hneI (.int .i64 2)).set hneI (.int .i64 m)).set hneI (.int .i64 1))).mono ?_
  rintro e w6 ⟨rfl, h6, g6⟩
  have F6 := Lib.hid ((((F5.out.set (by omega) (by omega) (.int .i64 2)).set (by omega) (by omega) (.int .i64 m)).set (by omega) (by omega) (.int .i64 1)).chg g6 hne hne1)
  have I6 := Lib.hid (Arr.chg (itAt_set3 (itAt_set2 (itAt_set0 I5.out 2) m) 1) (by decide) g6 hneI)
  have hg6 := (((hg5.setNew (by omega)).setNew (by omega)).setNew (by omega)).trans g6
  have hz6 := g6.size
  (try simp at hz6)
  have hzA6 : w.heap.size < w6.heap.size := by omega
  have hzB6 : w.heap.size + 1 < w6.heap.size := by omega
  have hzI6 : w2.heap.size < w6.heap.size := by omega
  clear c0 c1 i0 i1 i2 i3 ifz
  obtain ⟨c0, c1⟩ := F6.out.1
  obtain ⟨i0, i1, i2, i3, ifz⟩ := ItAt.cells I6.out
  go_wp2_with fail
  refine (is_dead hs9 (h6.alloc _) (rdB1 (c := 47) (cell_new (by simp) rfl)) (by decide)).mono ?_
  rintro e w7 ⟨rfl, h7, g7⟩
  have F7 := Lib.hid ((F6.out.alloc _).chg g7 hne hne1)
  have I7 := Lib.hid (Arr.chg (Arr.alloc I6.out (Arr.lt I6.out (by decide)) _) (by decide) g7 hneI)
  have hg7 := (hg6.alloc _).trans g7
  have hz7 := g7.size
  (try simp at hz7)
  have hzA7 : w.heap.size < w7.heap.size := by omega
  have hzB7 : w.heap.size + 1 < w7.heap.size := by omega
  have hzI7 : w2.heap.size < w7.heap.size := by omega
  clear c0 c1 i0 i1 i2 i3 ifz
  obtain ⟨c0, c1⟩ := F7.out.1
  obtain ⟨i0, i1, i2, i3, ifz⟩ := ItAt.cells I7.out
  obtain ⟨r0, r1, r2, r3, rfz⟩ := ItAt.cells F7.out.2
  go_wp2
  (try simp only [Exit.inBlock, Exit.then])
  refine bodyPost_ret (v := itV ⟨2, n, m, 1⟩) ?_ rfl ⟨⟨2, n, m, 1⟩, rfl, ?_, ?_⟩
  · rw [results_cell1 rfl]
    go_simp
  · exact h7.set4 hne1 _ _ _ _
  · exact hg7.set4 (by omega) _ _ _ _
set_option maxRecDepth 20000 in
set_option maxHeartbeats 1000000 in
theorem item_rng_err (b f : Nat) (hf : f < 5) (s : ByteArray) (hs : s.size ≤ 1000000) (l l1 l2 : List UInt8) (n : Int) (z : Nat) (q : Int) (w : World) (h : Live w b s l) (hp : pIs [42] l = none) (hp1 : cNum f l = .ok (n, l1)) (hp2 : pIs [45] l1 = some l2) (hp3 : cNum f l2 = .error (z, q)) :
    Calls Tryz.prog 52 #[rdV b f] w (RetDIt b s (placeI s z) q w) := by
  have hs9 : s.size ≤ 9223372036854775807 := by omega
  have hlt := h.lt
  have hne : w.heap.size ≠ b := by omega
  have hne1 : w.heap.size + 1 ≠ b := by omega
  have H := Lib.hid h
  have HP := Lib.hid (hp)
  have HN := Lib.hid (fun W (h : Live W b s l) => num_ok b f hf s hs l l1 n W h hp1)
  have HP2 := Lib.hid (hp2)
  have HM := Lib.hid (fun W (h : Live W b s l2) => num_err b f hf s hs l2 z q W h hp3)
  clear h hp hp1 hp2 hp3
  go_enter Tryz.func52, Tryz.ntmps52
  go_wp2_with fail
  refine (is_no hs9 (((H.out.alloc _).alloc _).alloc _) (rdB1 (c := 42) (cell_new (by simp) rfl)) (by decide) HP.out).mono ?_
  rintro e w1 ⟨rfl, h1, g1⟩
  have F1 := Lib.hid (((fr_new w b (f : Int) 87 60).alloc _).chg g1 hne hne1)
  have hg1 := ((((Chg.refl b w).alloc _).alloc _).alloc _).trans g1
  have hz1 := g1.size
  (try simp at hz1)
  have hzA1 : w.heap.size < w1.heap.size := by omega
  have hzB1 : w.heap.size + 1 < w1.heap.size := by omega
  obtain ⟨c0, c1⟩ := F1.out.1
  go_wp2_with fail
  refine (HN.out _ h1).mono ?_
  rintro e w2 ⟨rfl, h2, g2⟩
  have F2 := Lib.hid (F1.out.chg g2 hne hne1)
  have hg2 := hg1.trans g2
  have hz2 := g2.size
  (try simp at hz2)
  have hzA2 : w.heap.size < w2.heap.size := by omega
  have hzB2 : w.heap.size + 1 < w2.heap.size := by omega
  clear c0 c1
  obtain ⟨c0, c1⟩ := F2.out.1
  have hneI : w2.heap.size ≠ b := by omega
  go_wp2_with fail
  refine (is_yes hs9 ((h2.alloc _).alloc _) (rdB1 (c := 45) (cell_new (by simp) rfl)) (by decide) HP2.out).mono ?_
  rintro e w3 ⟨rfl, h3, g3⟩
  have F3 := Lib.hid (((F2.out.alloc _).alloc _).chg g3 hne hne1)
  have I3 := Lib.hid (Arr.chg (Arr.alloc (itAt_new w2 1 n 0 0 60) (Arr.lt (itAt_new w2 1 n 0 0 60) (by decide)) _) (by decide) g3 hneI)
  have hg3 := ((hg2.alloc _).alloc _).trans g3
  have hz3 := g3.size
  (try simp at hz3)
  have hzA3 : w.heap.size < w3.heap.size := by omega
  have hzB3 : w.heap.size + 1 < w3.heap.size := by omega
  have hzI3 : w2.heap.size < w3.heap.size := by omega
  clear c0 c1
  obtain ⟨c0, c1⟩ := F3.out.1
  obtain ⟨i0, i1, i2, i3, ifz⟩ := ItAt.cells I3.out
  go_wp2_with fail
  refine (at_live h3).mono ?_
  rintro e w4 ⟨rfl, h4, g4⟩
  have F4 := Lib.hid (F3.out.chg g4 hne hne1)
  have I4 := Lib.hid (Arr.chg I3.out (by decide) g4 hneI)
  have hg4 := hg3.trans g4
  have hz4 := g4.size
  (try simp at hz4)
  have hzA4 : w.heap.size < w4.heap.size := by omega
  have hzB4 : w.heap.size + 1 < w4.heap.size := by omega
  have hzI4 : w2.heap.size < w4.heap.size := by omega
  clear c0 c1 i0 i1 i2 i3 ifz
  obtain ⟨c0, c1⟩ := F4.out.1
  obtain ⟨i0, i1, i2, i3, ifz⟩ := ItAt.cells I4.out
  go_wp2_with fail
  refine (HM.out _ h4).mono ?_
  rintro e w5 ⟨y5, rfl, h5, g5⟩
  have F5 := Lib.hid (F4.out.chg g5 hne hne1)
  have I5 := Lib.hid (Arr.chg I4.out (by decide) g5 hneI)
  have hg5 := hg4.trans g5
  have hz5 := g5.size
  (try simp at hz5)
  have hzA5 : w.heap.size < w5.heap.size := by omega
  have hzB5 : w.heap.size + 1 < w5.heap.size := by omega
  have hzI5 : w2.heap.size < w5.heap.size := by omega
  clear c0 c1 i0 i1 i2 i3 ifz
  obtain ⟨c0, c1⟩ := F5.out.1
  obtain ⟨i0, i1, i2, i3, ifz⟩ := ItAt.cells I5.out
  by_cases hy : y5 < n
  · skip
    go_wp2_with fail
    refine (fail_dead (placeI s l2.length) 4 (((h5.set hneI (.int .i64 2)).set hneI (.int .i64 y5)).set hneI (.int .i64 1))).mono ?_
    rintro e w6 ⟨rfl, h6, g6⟩
    have F6 := Lib.hid ((((F5.out.set (by omega) (by omega) (.int .i64 2)).set (by omega) (by omega) (.int .i64 y5)).set (by omega) (by omega) (.int .i64 1)).chg g6 hne hne1)
    have I6 := Lib.hid (Arr.chg (itAt_set3 (itAt_set2 (itAt_set0 I5.out 2) y5) 1) (by decide) g6 hneI)
    have hg6 := (((hg5.setNew (by omega)).setNew (by omega)).setNew (by omega)).trans g6
    have hz6 := g6.size
    (try simp at hz6)
    have hzA6 : w.heap.size < w6.heap.size := by omega
    have hzB6 : w.heap.size + 1 < w6.heap.size := by omega
    have hzI6 : w2.heap.size < w6.heap.size := by omega
    clear c0 c1 i0 i1 i2 i3 ifz
    obtain ⟨c0, c1⟩ := F6.out.1
    obtain ⟨i0, i1, i2, i3, ifz⟩ := ItAt.cells I6.out
    go_wp2_with fail
    refine (is_dead hs9 (h6.alloc _) (rdB1 (c := 47) (cell_new (by simp) rfl)) (by decide)).mono ?_
    rintro e w7 ⟨rfl, h7, g7⟩
    have F7 := Lib.hid ((F6.out.alloc _).chg g7 hne hne1)
    have I7 := Lib.hid (Arr.chg (Arr.alloc I6.out (Arr.lt I6.out (by decide)) _) (by decide) g7 hneI)
    have hg7 := (hg6.alloc _).trans g7
    have hz7 := g7.size
    (try simp at hz7)
    have hzA7 : w.heap.size < w7.heap.size := by omega
    have hzB7 : w.heap.size + 1 < w7.heap.size := by omega
    have hzI7 : w2.heap.size < w7.heap.size := by omega
    clear c0 c1 i0 i1 i2 i3 ifz
    obtain ⟨c0, c1⟩ := F7.out.1
    obtain ⟨i0, i1, i2, i3, ifz⟩ := ItAt.cells I7.out
    obtain ⟨r0, r1, r2, r3, rfz⟩ := ItAt.cells F7.out.2
    go_wp2
    (try simp only [Exit.inBlock, Exit.then])
    refine bodyPost_ret (v := itV ⟨2, n, y5, 1⟩) ?_ rfl ⟨⟨2, n, y5, 1⟩, rfl, ?_, ?_⟩
    · rw [results_cell1 rfl]
      go_simp
    · exact h7.set4 hne1 _ _ _ _
    · exact hg7.set4 (by omega) _ _ _ _
  · skip
    go_wp2_with fail
    refine (is_dead hs9 ((((h5.set hneI (.int .i64 2)).set hneI (.int .i64 y5)).set hneI (.int .i64 1)).alloc _) (rdB1 (c := 47) (cell_new (by simp) rfl)) (by decide)).mono ?_
    rintro e w6 ⟨rfl, h6, g6⟩
    have F6 := Lib.hid (((((F5.out.set (by omega) (by omega) (.int .i64 2)).set (by omega) (by omega) (.int .i64 y5)).set (by omega) (by omega) (.int .i64 1)).alloc _).chg g6 hne hne1)
    have I6 := Lib.hid (Arr.chg (Arr.alloc (itAt_set3 (itAt_set2 (itAt_set0 I5.out 2) y5) 1) (Arr.lt (itAt_set3 (itAt_set2 (itAt_set0 I5.out 2) y5) 1) (by decide)) _) (by decide) g6 hneI)
    have hg6 := ((((hg5.setNew (by omega)).setNew (by omega)).setNew (by omega)).alloc _).trans g6
    have hz6 := g6.size
    (try simp at hz6)
    have hzA6 : w.heap.size < w6.heap.size := by omega
    have hzB6 : w.heap.size + 1 < w6.heap.size := by omega
    have hzI6 : w2.heap.size < w6.heap.size := by omega
    clear c0 c1 i0 i1 i2 i3 ifz
    obtain ⟨c0, c1⟩ := F6.out.1
    obtain ⟨i0, i1, i2, i3, ifz⟩ := ItAt.cells I6.out
    obtain ⟨r0, r1, r2, r3, rfz⟩ := ItAt.cells F6.out.2
    go_wp2
    (try simp only [Exit.inBlock, Exit.then])
    refine bodyPost_ret (v := itV ⟨2, n, y5, 1⟩) ?_ rfl ⟨⟨2, n, y5, 1⟩, rfl, ?_, ?_⟩
    · rw [results_cell1 rfl]
      go_simp
    · exact h6.set4 hne1 _ _ _ _
    · exact hg6.set4 (by omega) _ _ _ _
end Go.Proofs.YtochhmkdhdadhaaGreatDoor
