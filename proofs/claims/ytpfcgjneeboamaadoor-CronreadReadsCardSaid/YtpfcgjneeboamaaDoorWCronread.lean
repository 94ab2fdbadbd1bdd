/- The walks of package cronread: numbers, steps. -/
import Derived.Test.YtpfcgjneeboamaaDoorWRead
import Derived.Test.YtpfcgjneeboamaaDoorWCron
import Derived.Test.YtpfcgjneeboamaaDoorShelf
namespace Go.Proofs.YtpfcgjneeboamaaDoor
open Go.RowKit
set_option linter.unusedSimpArgs false
set_option linter.unusedVariables false

/-- A reader of a field, in memory: its reader, and the field's number. -/
def Box (w : World) (B b : Nat) (f : Int) : Prop := w.cell? ⟨B, 0, none⟩ = some (.pointer (some ⟨b, 0, none⟩)) ∧ w.cell? ⟨B, 1, none⟩ = some (.int .i64 f)
section
variable {w w' : World} {B b : Nat} {f : Int}
theorem Box.lt (h : Box w B b f) : B < w.heap.size := World.block_lt_of_cell? w _ h.1
theorem Box.chg (h : Box w B b f) (hg : Chg b w w') (hne : B ≠ b) : Box w' B b f := ⟨hg.cell hne h.1, hg.cell hne h.2⟩
theorem Box.below (h : Box w B b f) (hb : Below w.heap.size w w') : Box w' B b f := ⟨(hb.cell (p := ⟨B, 0, none⟩) h.lt).trans h.1, (hb.cell (p := ⟨B, 1, none⟩) h.lt).trans h.2⟩
theorem Box.alloc (h : Box w B b f) (o : Obj) : Box (w.alloc o) B b f := h.below ((Below.refl _ _).alloc (Nat.le_refl _) _)
theorem Box.set (h : Box w B b f) {C o : Nat} (hne : C ≠ B) (v : Value) : Box (w.setCell ⟨C, o, none⟩ v) B b f :=
  ⟨by rw [World.cell?_setCell_other _ _ _ _ (by intro e; injection e with e1; exact hne e1)]; exact h.1, by rw [World.cell?_setCell_other _ _ _ _ (by intro e; injection e with e1; exact hne e1)]; exact h.2⟩
end
theorem box_new (w : World) (b : Nat) (f : Int) (t : TypeId) : Box (w.alloc (.cells #[.pointer (some ⟨b, 0, none⟩), .int .i64 f] t)) w.heap.size b f := ⟨cell_new rfl rfl, cell_new rfl rfl⟩
abbrev rdV (b : Nat) (f : Int) : Value := .agg #[.pointer (some ⟨b, 0, none⟩), .int .i64 f]
/-- It hands back an int; something is wrong. -/
def RetDInt (b : Nat) (s : ByteArray) (a c : Int) (w : World) (x : Ending) (w' : World) : Prop := ∃ n : Int, RetD (.int .i64 n) b s a c w x w'

set_option maxRecDepth 20000 in
set_option maxHeartbeats 1000000 in
theorem step_ok (b : Nat) (f : Int) (s : ByteArray) (hs : s.size ≤ 9223372036854775807) (l r : List UInt8) (n : Int) (w : World) (h : Live w b s l) (hp : cStep l = .ok (n, r)) :
    Calls Tryd.prog 31 #[rdV b f] w (RetL (.int .i64 n) b s r w) := by
  have hq : pNum 3 l = .ok (n, r) ∧ n ≠ 0 := by
    unfold cStep at hp
    split at hp
    · split at hp
      · cases hp
      · cases hp; exact ⟨by assumption, by assumption⟩
    · cases hp
  have hn0 : (n == 0) = false := by simpa using hq.2
  have hlt := h.lt
  have hne : w.heap.size ≠ b := by omega
  have HA := Lib.hid (at_live (h.alloc (.cells #[.pointer (some ⟨b, 0, none⟩), .int .i64 f] 43)))
  have HN := Lib.hid (fun W (h : Live W b s l) => number_ok hs (most := 3) (by decide) h hq.1)
  clear hq h
  go_enter Tryd.func31, Tryd.ntmps31
  go_wp2_with fail
  refine HA.out.mono ?_
  rintro e w1 ⟨rfl, h1, g1⟩
  have hB := (box_new w b f 43).chg g1 hne
  obtain ⟨c0, c1⟩ := hB
  go_wp2_with fail
  refine (HN.out _ h1).mono ?_
  rintro e w2 ⟨rfl, h2, g2⟩
  go_wp2
  go_ret
  exact ⟨rfl, h2, (((Chg.refl b w).alloc _).trans g1).trans g2⟩

theorem cStep_err {l : List UInt8} {m : Nat} {q : Int} (h : cStep l = .error (m, q)) : pNum 3 l = .error (m, q) ∨ ∃ r, pNum 3 l = .ok (0, r) ∧ m = l.length ∧ q = 4 := by
  unfold cStep at h
  split at h
  · rename_i n r hp
    split at h
    · rename_i h0
      subst h0
      cases h
      exact .inr ⟨r, hp, rfl, rfl⟩
    · cases h
  · rename_i e hp
    cases h
    exact .inl hp
set_option maxRecDepth 20000 in
set_option maxHeartbeats 1000000 in
theorem step_err (b : Nat) (f : Int) (s : ByteArray) (hs : s.size ≤ 9223372036854775807) (l : List UInt8) (m : Nat) (q : Int) (w : World) (h : Live w b s l) (hp : cStep l = .error (m, q)) :
    Calls Tryd.prog 31 #[rdV b f] w (RetDInt b s (placeI s m) q w) := by
  have hlt := h.lt
  have hne : w.heap.size ≠ b := by omega
  have HA := Lib.hid (at_live (h.alloc (.cells #[.pointer (some ⟨b, 0, none⟩), .int .i64 f] 43)))
  rcases cStep_err hp with hq | ⟨r, hq, rfl, rfl⟩
  · have HN := Lib.hid (fun W (h : Live W b s l) => number_err hs (most := 3) (by decide) h hq)
    clear hq h hp
    go_enter Tryd.func31, Tryd.ntmps31
    go_wp2_with fail
    refine HA.out.mono ?_
    rintro e w1 ⟨rfl, h1, g1⟩
    have hB := (box_new w b f 43).chg g1 hne
    obtain ⟨c0, c1⟩ := hB
    go_wp2_with fail
    refine (HN.out _ h1).mono ?_
    rintro e w2 ⟨rfl, h2, g2⟩
    go_wp2
    go_ret
    exact ⟨_, rfl, h2, (((Chg.refl b w).alloc _).trans g1).trans g2⟩
  · have HN := Lib.hid (fun W (h : Live W b s l) => number_ok hs (most := 3) (by decide) h hq)
    have HF := Lib.hid (fun W (h : Live W b s r) => fail_live (placeI s l.length) 4 (by decide) h)
    clear hq h hp
    go_enter Tryd.func31, Tryd.ntmps31
    go_wp2_with fail
    refine HA.out.mono ?_
    rintro e w1 ⟨rfl, h1, g1⟩
    have hB := (box_new w b f 43).chg g1 hne
    have HB := Lib.hid hB
    obtain ⟨c0, c1⟩ := hB
    go_wp2_with fail
    refine (HN.out _ h1).mono ?_
    rintro e w2 ⟨rfl, h2, g2⟩
    clear c0 c1
    obtain ⟨c0, c1⟩ := HB.out.chg g2 hne
    go_wp2_with fail
    refine (HF.out _ h2).mono ?_
    rintro e w3 ⟨rfl, h3, g3⟩
    go_wp2
    go_ret
    exact ⟨_, rfl, h3, ((((Chg.refl b w).alloc _).trans g1).trans g2).trans g3⟩
theorem at_pure {w : World} {b : Nat} {s : ByteArray} {l : List UInt8} (h : Live w b s l) : Calls Tryd.prog 12 #[.pointer (some ⟨b, 0, none⟩)] w (RetQ (.int .i64 (placeI s l.length)) w) := by
  obtain ⟨k, hk, rfl, hr⟩ := h
  have hp : placeI s (s.data.toList.drop k).length = (k : Int) := by
    unfold placeI; rw [List.length_drop, len_data]; omega
  rw [hp]
  exact at_any b s k 0 0 w hr
theorem at_puredead {w : World} {b : Nat} {s : ByteArray} {a c : Int} (h : Dead w b s a c) : ∃ p : Int, 0 ≤ p ∧ p ≤ s.size ∧ ∀ W, Below w.heap.size w W → Calls Tryd.prog 12 #[.pointer (some ⟨b, 0, none⟩)] W (RetQ (.int .i64 p) W) := by
  obtain ⟨he, k, hk, hr⟩ := h
  exact ⟨k, by omega, by omega, fun W hW => at_any b s k a c W (hr.kept hW hr.lt)⟩
set_option maxRecDepth 20000 in
set_option maxHeartbeats 1000000 in
theorem step_dead (b : Nat) (f : Int) (s : ByteArray) (hs : s.size ≤ 9223372036854775807) (a c : Int) (w : World) (h : Dead w b s a c) :
    Calls Tryd.prog 31 #[rdV b f] w (RetDInt b s a c w) := by
  have hlt := h.lt
  have hne : w.heap.size ≠ b := by omega
  obtain ⟨p, hp0, hp1, hA⟩ := at_puredead h
  have HA := Lib.hid hA
  have HN := Lib.hid (fun W (hW : Below w.heap.size w W) => number_dead hs 3 (h.below hW))
  clear h hA
  go_enter Tryd.func31, Tryd.ntmps31
  go_wp2_with fail
  refine (HA.out _ (by (repeat' (first | (with_reducible exact Below.refl _ _) | (with_reducible assumption) | (with_reducible refine below_drewN ?_ _) | (with_reducible refine Below.alloc ?_ ?_ _) | (with_reducible refine Below.drew ?_) | (with_reducible refine Below.setCell ?_ ?_ _) | go_size)))).mono ?_
  rintro e w1 ⟨rfl, rfl⟩
  go_wp2_with fail
  refine (HN.out _ (by (repeat' (first | (with_reducible exact Below.refl _ _) | (with_reducible assumption) | (with_reducible refine below_drewN ?_ _) | (with_reducible refine Below.alloc ?_ ?_ _) | (with_reducible refine Below.drew ?_) | (with_reducible refine Below.setCell ?_ ?_ _) | go_size)))).mono ?_
  rintro e w2 ⟨rfl, h2, g2⟩
  go_wp2
  go_ret
  exact ⟨_, rfl, h2, ((Chg.refl b w).alloc _).trans g2⟩

/-- A slice that holds the names of a field's numbers. -/
def NamesAt (f : Nat) (A : Option Addr) (n : Nat) (w : World) : Prop :=
  A = none ∧ n = 0 ∧ cNames f = [] ∨ ∃ B, A = some ⟨B, 0, none⟩ ∧ n = (cNames f).length ∧ cNames f ≠ [] ∧ ∀ j, j < (cNames f).length → w.cell? ⟨B, 0 + j, none⟩ = some (.string (((cNames f).map strB).getD j ByteArray.empty))
def RetNames (f : Nat) (w : World) (x : Ending) (w' : World) : Prop := ∃ A n, x = .returned (.slice A n n) ∧ NamesAt f A n w' ∧ Below w.heap.size w w' ∧ ∀ B o, A = some ⟨B, o, none⟩ → w.heap.size ≤ B
theorem NamesAt.below {f n : Nat} {A : Option Addr} {w w' : World} (h : NamesAt f A n w) (hb : Below w.heap.size w w') : NamesAt f A n w' := by
  rcases h with h | ⟨B, h1, h2, h3, h4⟩
  · exact .inl h
  · exact .inr ⟨B, h1, h2, h3, fun j hj => (hb.cell (p := ⟨B, _, none⟩) (World.block_lt_of_cell? w _ (h4 j hj))).trans (h4 j hj)⟩
theorem NamesAt.chg {f n b : Nat} {A : Option Addr} {w w' : World} (h : NamesAt f A n w) (hg : Chg b w w') (hne : ∀ B o, A = some ⟨B, o, none⟩ → B ≠ b) : NamesAt f A n w' := by
  rcases h with h | ⟨B, h1, h2, h3, h4⟩
  · exact .inl h
  · exact .inr ⟨B, h1, h2, h3, fun j hj => hg.cell (hne B 0 h1) (h4 j hj)⟩
theorem cells_at (w : World) (C : Array Value) (t : TypeId) (zs : List ByteArray) (h : C = (zs.map Value.string).toArray) (j : Nat) (hj : j < zs.length) : (w.alloc (.cells C t)).cell? ⟨w.heap.size, 0 + j, none⟩ = some (.string (zs.getD j ByteArray.empty)) := by
  subst h
  refine cell_new rfl ?_
  simp [hj]
theorem names_any (f : Nat) (w : World) : Calls Tryd.prog 41 #[.int .i64 (f : Int)] w (RetNames f w) := by
  by_cases h3 : f = 3
  · subst h3
    go_enter Tryd.func41, Tryd.ntmps41
    go_wp2
    go_ret
    refine ⟨_, _, rfl, .inr ⟨w.heap.size, rfl, rfl, by decide, fun j hj => ?_⟩, (Below.refl _ w).alloc (Nat.le_refl _) _, fun B o h => by cases h; exact Nat.le_refl _⟩
    exact cells_at w _ _ ((cNames 3).map strB) rfl j (by simpa using hj)
  · by_cases h4 : f = 4
    · subst h4
      go_enter Tryd.func41, Tryd.ntmps41
      go_wp2
      go_ret
      refine ⟨_, _, rfl, .inr ⟨w.heap.size, rfl, rfl, by decide, fun j hj => ?_⟩, (Below.refl _ w).alloc (Nat.le_refl _) _, fun B o h => by cases h; exact Nat.le_refl _⟩
      exact cells_at w _ _ ((cNames 4).map strB) rfl j (by simpa using hj)
    · have e3 : ((f : Int) == 3) = false := by simp; omega
      have e4 : ((f : Int) == 4) = false := by simp; omega
      have hc : cNames f = [] := by unfold cNames; rw [if_neg h3, if_neg h4]
      have HC := Lib.hid hc
      clear h3 h4 hc
      go_enter Tryd.func41, Tryd.ntmps41
      go_wp2
      go_ret
      exact ⟨_, _, rfl, .inl ⟨rfl, rfl, HC.out⟩, Below.refl _ _, fun B o h => by cases h⟩
def letterI (c : Int) : Bool := decide ((97 ≤ c ∧ c ≤ 122) ∨ (65 ≤ c ∧ c ≤ 90))
theorem letterI_peek (l : List UInt8) : letterI (pPeek l) = headB letterP l := by
  cases l with
  | nil => rfl
  | cons x l =>
    show decide _ = letterP x
    unfold letterP pPeek
    rw [Bool.eq_iff_iff]
    simp only [decide_eq_true_eq]
    omega
theorem letter_any (c : Int) (w : World) : Calls Tryd.prog 42 #[.int .u8 c] w (RetQ (.bool (letterI c)) w) := by
  generalize hq : letterI c = q
  have HQ := Lib.hid hq
  clear hq
  go_enter Tryd.func42, Tryd.ntmps42
  go_wp2
  all_goals go_ret
  all_goals (refine ⟨ret_bool ?_, rfl⟩; rw [← HQ.out]; ((try simp only [beq_iff_eq, beq_eq_false_iff_ne, bne_iff_ne, ne_eq, letterI, decide_eq_true_eq, decide_eq_false_iff_not, Bool.and_eq_true, Bool.or_eq_true, Bool.not_eq_true', Bool.not_eq_false', Bool.and_eq_false_iff, Bool.or_eq_false_iff] at *)
                                                        rw [Bool.eq_iff_iff]
                                                        (try simp only [letterI, decide_eq_true_eq, beq_iff_eq, bne_iff_ne, ne_eq, Bool.and_eq_true, Bool.or_eq_true, Bool.not_eq_true', Bool.not_eq_false', beq_eq_false_iff_ne, decide_eq_false_iff_not, iff_true, true_iff, Bool.false_eq_true, false_iff, iff_false, reduceCtorEq])
                                                        omega))
theorem small_eq (l : List UInt8) : Lib.toLowerA l = lowerL l := by
  unfold Lib.toLowerA lowerL
  apply List.map_congr_left
  intro c _
  unfold Lib.lowerB lowerB Lib.isUpperB
  have e : ((65 ≤ c && c ≤ 90) = true) = (65 ≤ c.toNat ∧ c.toNat ≤ 90) := by simp [UInt8.le_iff_toNat_le]
  simp only [e]
theorem strB_inj {x y : List UInt8} (h : strB x = strB y) : x = y := by rw [← strB_data x, h, strB_data]
theorem idxFrom_eq (x : List UInt8) : ∀ (zs : List (List UInt8)) (i : Nat), Lib.idxFromS (zs.map strB) (strB x) i = (match zs.idxOf? x with | some j => ((i + j : Nat) : Int) | none => -1)
  | [], i => rfl
  | z :: zs, i => by
    rw [List.map_cons, Lib.idxFromS, List.idxOf?_cons]
    by_cases h : z = x
    · subst h; simp
    · have h2 : strB z ≠ strB x := fun e => h (strB_inj e)
      rw [if_neg h2, idxFrom_eq x zs (i + 1), if_neg (by simpa using h)]
      cases zs.idxOf? x with
      | none => rfl
      | some j => simp only [Option.map_some]; congr 1; omega
theorem idx_eq (zs : List (List UInt8)) (x : List UInt8) : Lib.idxOfS (zs.map strB) (strB x) = wIdx x zs := by
  unfold Lib.idxOfS wIdx
  rw [idxFrom_eq]
  cases zs.idxOf? x with
  | none => rfl
  | some j => simp only [Nat.zero_add]
end Go.Proofs.YtpfcgjneeboamaaDoor
