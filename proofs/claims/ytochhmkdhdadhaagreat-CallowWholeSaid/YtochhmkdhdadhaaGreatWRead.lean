/- A reader that goes on, and one at which something is wrong: the methods of package lex by what is left of the text. -/
import Derived.Test.YtochhmkdhdadhaaGreatRPlain
import Derived.Test.YtochhmkdhdadhaaGreatWArr
namespace Go.Proofs.YtochhmkdhdadhaaGreat
open Go.RowKit
set_option linter.unusedSimpArgs false
set_option linter.unusedVariables false

/-- Nothing is wrong yet, and l is left. -/
def Live (w : World) (b : Nat) (s : ByteArray) (l : List UInt8) : Prop := ∃ k, k ≤ s.size ∧ l = s.data.toList.drop k ∧ Rdr w b s k 0 0
/-- Something is wrong: e, at a. -/
def Dead (w : World) (b : Nat) (s : ByteArray) (a e : Int) : Prop := e ≠ 0 ∧ ∃ k, k ≤ s.size ∧ Rdr w b s k a e
section
variable {w w' : World} {b : Nat} {s : ByteArray} {l : List UInt8} {a e : Int}
theorem Live.below (h : Live w b s l) (hb : Below w.heap.size w w') : Live w' b s l := by
  obtain ⟨k, hk, hl, hr⟩ := h
  exact ⟨k, hk, hl, hr.kept hb hr.lt⟩
theorem Dead.below (h : Dead w b s a e) (hb : Below w.heap.size w w') : Dead w' b s a e := by
  obtain ⟨he, k, hk, hr⟩ := h
  exact ⟨he, k, hk, hr.kept hb hr.lt⟩
theorem Live.alloc (h : Live w b s l) (o : Obj) : Live (w.alloc o) b s l := h.below ((Below.refl _ _).alloc (Nat.le_refl _) _)
theorem Dead.alloc (h : Dead w b s a e) (o : Obj) : Dead (w.alloc o) b s a e := h.below ((Below.refl _ _).alloc (Nat.le_refl _) _)
theorem Live.set (h : Live w b s l) {B o : Nat} (hB : B ≠ b) (v : Value) : Live (w.setCell ⟨B, o, none⟩ v) b s l := by
  obtain ⟨k, hk, hl, hr⟩ := h
  exact ⟨k, hk, hl, (Below.heap_setCell _ _ _ _ (fun e => hB (by simp [e]))).trans hr⟩
theorem Dead.set (h : Dead w b s a e) {B o : Nat} (hB : B ≠ b) (v : Value) : Dead (w.setCell ⟨B, o, none⟩ v) b s a e := by
  obtain ⟨he, k, hk, hr⟩ := h
  exact ⟨he, k, hk, (Below.heap_setCell _ _ _ _ (fun e => hB (by simp [e]))).trans hr⟩
theorem Live.drewN (h : Live w b s l) (q : Nat) : Live (w.drewN q) b s l := h
theorem Dead.drewN (h : Dead w b s a e) (q : Nat) : Dead (w.drewN q) b s a e := h
theorem Live.lt (h : Live w b s l) : b < w.heap.size := by obtain ⟨k, hk, hl, hr⟩ := h; exact hr.lt
theorem Dead.lt (h : Dead w b s a e) : b < w.heap.size := by obtain ⟨he, k, hk, hr⟩ := h; exact hr.lt
theorem Live.suf (h : Live w b s l) : l <:+ s.data.toList := by obtain ⟨k, hk, hl, hr⟩ := h; rw [hl]; exact List.drop_suffix _ _
theorem len_data (s : ByteArray) : s.data.toList.length = s.size := Array.length_toList
theorem Live.len (h : Live w b s l) : l.length ≤ s.size := by have := h.suf.length_le; rwa [len_data] at this
/-- A cell of another block is as it was. -/
theorem Chg.cell {w w' : World} {b B o : Nat} {v : Value} (h : Chg b w w') (hB : B ≠ b) (hc : w.cell? ⟨B, o, none⟩ = some v) : w'.cell? ⟨B, o, none⟩ = some v :=
  (World.cell?_of_block (h.block B (World.block_lt_of_cell? w _ hc) (fun e => hB (by injection e)))).trans hc
theorem Chg.frozen {w w' : World} {b B o : Nat} (h : Chg b w w') (hB : B ≠ b) (hlt : B < w.heap.size) (hc : w.frozen? ⟨B, o, none⟩ = false) : w'.frozen? ⟨B, o, none⟩ = false := by
  have := h.block B hlt (fun e => hB (by injection e))
  unfold World.frozen? at *
  rw [this]; exact hc
theorem Chg.setNew {w w' : World} {b B o : Nat} {v : Value} (h : Chg b w w') (hB : w.heap.size ≤ B) : Chg b w (w'.setCell ⟨B, o, none⟩ v) :=
  ⟨h.os, h.tape, h.output, by simpa [World.setCell] using h.size, fun k hk hn => (Below.heap_setCell _ _ _ _ (fun e => by simp at e; omega)).trans (h.block k hk hn)⟩
end
/-- It hands back v; nothing is wrong yet; l is left. -/
def RetL (v : Value) (b : Nat) (s : ByteArray) (l : List UInt8) (w : World) (x : Ending) (w' : World) : Prop := x = .returned v ∧ Live w' b s l ∧ Chg b w w'
/-- It hands back v; something is wrong. -/
def RetD (v : Value) (b : Nat) (s : ByteArray) (a e : Int) (w : World) (x : Ending) (w' : World) : Prop := x = .returned v ∧ Dead w' b s a e ∧ Chg b w w'
def placeI (s : ByteArray) (m : Nat) : Int := ((s.size - m : Nat) : Int)

theorem rdB1 {w : World} {B : Nat} {c : UInt8} (h : w.cell? ⟨B, 0, none⟩ = some (.int .u8 (c.toNat : Int))) : RdBytes w (some ⟨B, 0, none⟩) 1 [c] :=
  ⟨rfl, fun _ => ⟨B, 0, rfl, World.block_lt_of_cell? w _ h, fun i x hi j v hj => by
    rcases i with _ | i
    · obtain rfl : c = x := by simpa using hi
      rcases j with _ | j
      · obtain rfl : Value.int .u8 (c.toNat : Int) = v := by simpa [byteEnc] using hj
        simpa using h
      · simp [byteEnc] at hj
    · simp at hi⟩⟩
theorem drop_cons (s : ByteArray) (k : Nat) (h : k < s.size) : s.data.toList.drop k = s[k] :: s.data.toList.drop (k + 1) := by
  rw [List.drop_eq_getElem_cons (by rw [len_data]; exact h)]
  rfl
theorem drop_end (s : ByteArray) : s.data.toList.drop s.size = [] := by
  rw [List.drop_eq_nil_iff, len_data]; exact Nat.le_refl _
theorem doneB_dead {s : ByteArray} {k : Nat} {e : Int} (he : e ≠ 0) : doneB s k e = true := doneB_err he

section
variable {w : World} {b : Nat} {s : ByteArray} {l : List UInt8} {a c : Int}
def pPeek : List UInt8 → Int
  | [] => 0
  | x :: _ => (x.toNat : Int)
theorem peek_live (h : Live w b s l) : Calls Tryz.prog 74 #[.pointer (some ⟨b, 0, none⟩)] w (RetL (.int .u8 (pPeek l)) b s l w) := by
  obtain ⟨k, hk, rfl, hr⟩ := h
  have hp : pPeek (s.data.toList.drop k) = peekN s k 0 := by
    by_cases hlt : k < s.size
    · rw [drop_cons s k hlt, peekN_at hlt]; rfl
    · obtain rfl : k = s.size := by omega
      rw [drop_end, peekN_done (by simp [doneB])]; rfl
  rw [hp]
  refine (peek_any b s k 0 0 w hr hk).mono ?_
  rintro e w1 ⟨rfl, q, rfl⟩
  exact ⟨rfl, ⟨k, hk, rfl, hr⟩, (Chg.refl _ _).drewN _⟩
theorem peek_dead (h : Dead w b s a c) : Calls Tryz.prog 74 #[.pointer (some ⟨b, 0, none⟩)] w (RetD (.int .u8 0) b s a c w) := by
  obtain ⟨he, k, hk, hr⟩ := h
  have := peek_any b s k a c w hr hk
  rw [peekN_done (doneB_dead he)] at this
  refine this.mono ?_
  rintro e w1 ⟨rfl, q, rfl⟩
  exact ⟨rfl, ⟨he, k, hk, hr⟩, (Chg.refl _ _).drewN _⟩
theorem done_live (h : Live w b s l) : Calls Tryz.prog 108 #[.pointer (some ⟨b, 0, none⟩)] w (RetL (.bool (decide (l = []))) b s l w) := by
  obtain ⟨k, hk, rfl, hr⟩ := h
  have hp : decide (s.data.toList.drop k = []) = doneB s k 0 := by
    rw [doneB_ok]
    by_cases hlt : k < s.size
    · rw [drop_cons s k hlt, decide_eq_false (by simp), decide_eq_false (by omega)]
    · obtain rfl : k = s.size := by omega
      rw [drop_end, decide_eq_true rfl, decide_eq_true rfl]
  rw [hp]
  refine (done_any b s k 0 0 w hr).mono ?_
  rintro e w1 ⟨rfl, q, rfl⟩
  exact ⟨rfl, ⟨k, hk, rfl, hr⟩, (Chg.refl _ _).drewN _⟩
theorem done_dead (h : Dead w b s a c) : Calls Tryz.prog 108 #[.pointer (some ⟨b, 0, none⟩)] w (RetD (.bool true) b s a c w) := by
  obtain ⟨he, k, hk, hr⟩ := h
  have := done_any b s k a c w hr
  rw [doneB_dead he] at this
  refine this.mono ?_
  rintro e w1 ⟨rfl, q, rfl⟩
  exact ⟨rfl, ⟨he, k, hk, hr⟩, (Chg.refl _ _).drewN _⟩
theorem at_live (h : Live w b s l) : Calls Tryz.prog 82 #[.pointer (some ⟨b, 0, none⟩)] w (RetL (.int .i64 (placeI s l.length)) b s l w) := by
  obtain ⟨k, hk, rfl, hr⟩ := h
  have hp : placeI s (s.data.toList.drop k).length = (k : Int) := by
    unfold placeI; rw [List.length_drop, len_data]; omega
  rw [hp]
  refine (at_any b s k 0 0 w hr).mono ?_
  rintro e w1 ⟨rfl, rfl⟩
  exact ⟨rfl, ⟨k, hk, rfl, hr⟩, Chg.refl _ _⟩
/-- It hands back a place; something is wrong. -/
def RetDAt (b : Nat) (s : ByteArray) (a c : Int) (w : World) (x : Ending) (w' : World) : Prop := ∃ k : Nat, k ≤ s.size ∧ x = .returned (.int .i64 (k : Int)) ∧ Dead w' b s a c ∧ Chg b w w'
theorem at_dead (h : Dead w b s a c) : Calls Tryz.prog 82 #[.pointer (some ⟨b, 0, none⟩)] w (RetDAt b s a c w) := by
  obtain ⟨he, k, hk, hr⟩ := h
  refine (at_any b s k a c w hr).mono ?_
  rintro e w1 ⟨rfl, rfl⟩
  exact ⟨k, hk, rfl, ⟨he, k, hk, hr⟩, Chg.refl _ _⟩
theorem fail_live (p q : Int) (hq : q ≠ 0) (h : Live w b s l) : Calls Tryz.prog 72 #[.pointer (some ⟨b, 0, none⟩), .int .i64 p, .int .i64 q] w (RetD (.tuple #[]) b s p q w) := by
  obtain ⟨k, hk, rfl, hr⟩ := h
  have := fail_any b s k 0 0 p q w hr
  rw [show failBad 0 0 p q = p from by simp [failBad, hq], show failE 0 q = q from by simp [failE]] at this
  refine this.mono ?_
  rintro e w1 ⟨rfl, h1, g1⟩
  exact ⟨rfl, ⟨hq, k, hk, h1⟩, g1⟩
theorem fail_dead (p q : Int) (h : Dead w b s a c) : Calls Tryz.prog 72 #[.pointer (some ⟨b, 0, none⟩), .int .i64 p, .int .i64 q] w (RetD (.tuple #[]) b s a c w) := by
  obtain ⟨he, k, hk, hr⟩ := h
  have := fail_any b s k a c p q w hr
  rw [show failBad a c p q = a from by simp [failBad, he], show failE c q = c from by simp [failE, he]] at this
  refine this.mono ?_
  rintro e w1 ⟨rfl, h1, g1⟩
  exact ⟨rfl, ⟨he, k, hk, h1⟩, g1⟩
variable (hs : s.size ≤ 9223372036854775807)
include hs
theorem is_yes {A : Option Addr} {n cp : Nat} {cs : List UInt8} {r : List UInt8} (h : Live w b s l) (hA : RdBytes w A n cs) (hn : n ≤ 9223372036854775807) (hp : pIs cs l = some r) :
    Calls Tryz.prog 109 #[.pointer (some ⟨b, 0, none⟩), .slice A n cp] w (RetL (.bool true) b s r w) := by
  obtain ⟨k, hk, rfl, hr⟩ := h
  have hlt : k < s.size := by
    rcases Nat.lt_or_ge k s.size with h1 | h1
    · exact h1
    · obtain rfl : k = s.size := by omega
      rw [drop_end] at hp; cases hp
  rw [drop_cons s k hlt] at hp
  obtain ⟨c0, h1, h2⟩ := pIs_some hp
  obtain ⟨rfl, rfl⟩ := List.cons.inj h1
  have hb : isB s k 0 cs = true := by rw [isB_at hlt]; exact h2
  have := is_any b s k 0 0 A n cp cs w hr hs hk hA hn
  rw [hb, isK, hb, if_pos rfl] at this
  refine this.mono ?_
  rintro e w1 ⟨rfl, h3, g3⟩
  exact ⟨rfl, ⟨k + 1, hlt, rfl, h3⟩, g3⟩
theorem is_no {A : Option Addr} {n cp : Nat} {cs : List UInt8} (h : Live w b s l) (hA : RdBytes w A n cs) (hn : n ≤ 9223372036854775807) (hp : pIs cs l = none) :
    Calls Tryz.prog 109 #[.pointer (some ⟨b, 0, none⟩), .slice A n cp] w (RetL (.bool false) b s l w) := by
  obtain ⟨k, hk, rfl, hr⟩ := h
  have hb : isB s k 0 cs = false := by
    by_cases hlt : k < s.size
    · rw [isB_at hlt]
      rw [drop_cons s k hlt] at hp
      unfold pIs at hp
      split at hp
      · rename_i h1; cases h1
      · rename_i h1
        obtain ⟨rfl, rfl⟩ := List.cons.inj h1
        split at hp
        · cases hp
        · rename_i h2; simpa using h2
    · exact isB_done (by simp [doneB]; omega)
  have := is_any b s k 0 0 A n cp cs w hr hs hk hA hn
  rw [hb, isK, hb, if_neg (by decide)] at this
  refine this.mono ?_
  rintro e w1 ⟨rfl, h3, g3⟩
  exact ⟨rfl, ⟨k, hk, rfl, h3⟩, g3⟩
theorem is_dead {A : Option Addr} {n cp : Nat} {cs : List UInt8} (h : Dead w b s a c) (hA : RdBytes w A n cs) (hn : n ≤ 9223372036854775807) :
    Calls Tryz.prog 109 #[.pointer (some ⟨b, 0, none⟩), .slice A n cp] w (RetD (.bool false) b s a c w) := by
  obtain ⟨he, k, hk, hr⟩ := h
  have hb : isB s k c cs = false := isB_done (doneB_dead he)
  have := is_any b s k a c A n cp cs w hr hs hk hA hn
  rw [hb, isK, hb, if_neg (by decide)] at this
  refine this.mono ?_
  rintro e w1 ⟨rfl, h3, g3⟩
  exact ⟨rfl, ⟨he, k, hk, h3⟩, g3⟩
theorem must_yes {A : Option Addr} {n cp : Nat} {cs : List UInt8} {r : List UInt8} (h : Live w b s l) (hA : RdBytes w A n cs) (hn : n ≤ 9223372036854775807) (hp : pIs cs l = some r) :
    Calls Tryz.prog 112 #[.pointer (some ⟨b, 0, none⟩), .slice A n cp] w (RetL (.int .u8 (pPeek l)) b s r w) := by
  obtain ⟨k, hk, rfl, hr⟩ := h
  have hlt : k < s.size := by
    rcases Nat.lt_or_ge k s.size with h1 | h1
    · exact h1
    · obtain rfl : k = s.size := by omega
      rw [drop_end] at hp; cases hp
  rw [drop_cons s k hlt] at hp ⊢
  obtain ⟨c0, h1, h2⟩ := pIs_some hp
  obtain ⟨rfl, rfl⟩ := List.cons.inj h1
  have hb : isB s k 0 cs = true := by rw [isB_at hlt]; exact h2
  have := must_any b s k 0 0 A n cp cs w hr hs hk hA hn
  rw [hb, isK, hb] at this
  simp only [if_true] at this
  rw [peekN_at hlt] at this
  refine this.mono ?_
  rintro e w1 ⟨rfl, h3, g3⟩
  exact ⟨rfl, ⟨k + 1, hlt, rfl, h3⟩, g3⟩
theorem must_no {A : Option Addr} {n cp : Nat} {cs : List UInt8} (h : Live w b s l) (hA : RdBytes w A n cs) (hn : n ≤ 9223372036854775807) (hp : pIs cs l = none) :
    Calls Tryz.prog 112 #[.pointer (some ⟨b, 0, none⟩), .slice A n cp] w (RetD (.int .u8 0) b s (placeI s l.length) (pLack l) w) := by
  obtain ⟨k, hk, rfl, hr⟩ := h
  have hb : isB s k 0 cs = false := by
    by_cases hlt : k < s.size
    · rw [isB_at hlt]
      rw [drop_cons s k hlt] at hp
      unfold pIs at hp
      split at hp
      · rename_i h1; cases h1
      · rename_i h1
        obtain ⟨rfl, rfl⟩ := List.cons.inj h1
        split at hp
        · cases hp
        · rename_i h2; simpa using h2
    · exact isB_done (by simp [doneB]; omega)
  have := must_any b s k 0 0 A n cp cs w hr hs hk hA hn
  rw [hb, isK, hb] at this
  simp only [Bool.false_eq_true, if_false] at this
  have hl : lackE s k = pLack (s.data.toList.drop k) := by
    unfold lackE pLack
    by_cases hlt : k < s.size
    · rw [if_neg (by omega), drop_cons s k hlt, if_neg (by simp)]
    · obtain rfl : k = s.size := by omega
      rw [if_pos rfl, drop_end, if_pos rfl]
  have hne := pLack_ne (s.data.toList.drop k)
  have hpl : placeI s (s.data.toList.drop k).length = (k : Int) := by
    unfold placeI; rw [List.length_drop, len_data]; omega
  rw [hpl]
  rw [hl, show failBad 0 0 k (pLack (s.data.toList.drop k)) = k from by simp [failBad, hne], show failE 0 (pLack (s.data.toList.drop k)) = pLack (s.data.toList.drop k) from by simp [failE]] at this
  refine this.mono ?_
  rintro e w1 ⟨rfl, h3, g3⟩
  exact ⟨rfl, ⟨hne, k, hk, h3⟩, g3⟩
theorem must_dead {A : Option Addr} {n cp : Nat} {cs : List UInt8} (h : Dead w b s a c) (hA : RdBytes w A n cs) (hn : n ≤ 9223372036854775807) :
    Calls Tryz.prog 112 #[.pointer (some ⟨b, 0, none⟩), .slice A n cp] w (RetD (.int .u8 0) b s a c w) := by
  obtain ⟨he, k, hk, hr⟩ := h
  have hb : isB s k c cs = false := isB_done (doneB_dead he)
  have := must_any b s k a c A n cp cs w hr hs hk hA hn
  rw [hb, isK, hb] at this
  simp only [Bool.false_eq_true, if_false] at this
  rw [show failBad a c k (lackE s k) = a from by simp [failBad, he], show failE c (lackE s k) = c from by simp [failE, he]] at this
  refine this.mono ?_
  rintro e w1 ⟨rfl, h3, g3⟩
  exact ⟨rfl, ⟨he, k, hk, h3⟩, g3⟩
omit hs in
theorem some_live (p : UInt8 → Bool) (k : Nat) (hk : k ≤ s.size) : s.data.toList.drop (someK p s k 0) = (s.data.toList.drop k).dropWhile p ∧ (s.extract k (someK p s k 0)).data.toList = (s.data.toList.drop k).takeWhile p := by
  have h1 : ∀ (l : List UInt8), l.drop (l.takeWhile p).length = l.dropWhile p := by
    intro l
    have := List.takeWhile_append_dropWhile (p := p) (l := l)
    generalize l.takeWhile p = t at *
    generalize l.dropWhile p = d at *
    subst this; simp
  have h2 : ∀ (l : List UInt8), l.take (l.takeWhile p).length = l.takeWhile p := fun l => (List.prefix_iff_eq_take.1 (List.takeWhile_prefix p)).symm
  have hK : someK p s k 0 = k + ((s.data.toList.drop k).takeWhile p).length := by
    unfold someK
    rw [doneB_ok]
    split
    · rename_i h
      simp at h; subst h
      rw [drop_end]; simp
    · rfl
  rw [hK]
  refine ⟨?_, ?_⟩
  · rw [← h1, List.drop_drop]
  · rw [extract_list, show k + ((s.data.toList.drop k).takeWhile p).length - k = ((s.data.toList.drop k).takeWhile p).length from by omega, h2]
omit hs in
theorem some_dead (p : UInt8 → Bool) (k : Nat) {e : Int} (he : e ≠ 0) : someK p s k e = k := by unfold someK; rw [doneB_dead he, if_pos rfl]
theorem word_live (h : Live w b s l) : Calls Tryz.prog 141 #[.pointer (some ⟨b, 0, none⟩)] w (RetL (.string (strB (l.takeWhile letterP))) b s (l.dropWhile letterP) w) := by
  obtain ⟨k, hk, rfl, hr⟩ := h
  obtain ⟨h1, h2⟩ := some_live letterP k hk
  have hle := someK_le letterP s k 0 hk
  have := word_any b s k 0 0 w hr hs hk
  rw [strB_of h2] at this
  refine this.mono ?_
  rintro e w1 ⟨rfl, h4, g4⟩
  exact ⟨rfl, ⟨_, hle.2, h1.symm, h4⟩, g4⟩
theorem word_dead (h : Dead w b s a c) : Calls Tryz.prog 141 #[.pointer (some ⟨b, 0, none⟩)] w (RetD (.string ⟨#[]⟩) b s a c w) := by
  obtain ⟨he, k, hk, hr⟩ := h
  have := word_any b s k a c w hr hs hk
  rw [some_dead letterP k he, extract_none] at this
  refine this.mono ?_
  rintro e w1 ⟨rfl, h4, g4⟩
  exact ⟨rfl, ⟨he, k, hk, h4⟩, g4⟩
theorem number_ok {most : Nat} {n : Int} {r : List UInt8} (hm : most ≤ 18) (h : Live w b s l) (hp : pNum most l = .ok (n, r)) :
    Calls Tryz.prog 183 #[.pointer (some ⟨b, 0, none⟩), .int .i64 (most : Int)] w (RetL (.tuple #[.int .i64 n, .bool true]) b s r w) := by
  obtain ⟨k, hk, rfl, hr⟩ := h
  obtain ⟨h1, h2⟩ := some_live digitP k hk
  have hle := someK_le digitP s k 0 hk
  have hrl : runL digitP s k 0 = (s.data.toList.drop k).takeWhile digitP := by rw [← h2, extract_list]; rfl
  have hlen : ((s.data.toList.drop k).takeWhile digitP).length = someK digitP s k 0 - k := by
    rw [← h2, len_data]; simp; omega
  unfold pNum at hp
  split at hp
  · cases hp
  · rename_i h3
    split at hp
    · cases hp
    · rename_i h4
      cases hp
      have hne : ((s.data.toList.drop k).takeWhile digitP).length ≠ 0 := fun h => h3 (List.length_eq_zero_iff.1 h)
      have hb : numB s k 0 (most : Int) = true := decide_eq_true ⟨by omega, by omega, by omega⟩
      have := number_any b s k 0 0 (most : Int) w hr hs hk
      rw [hb] at this
      simp only [if_true] at this
      rw [hrl] at this
      refine this.mono ?_
      rintro e w1 ⟨rfl, h5, g5⟩
      exact ⟨rfl, ⟨_, hle.2, h1.symm, h5⟩, g5⟩
theorem number_err {most m : Nat} {q : Int} (hm : most ≤ 18) (h : Live w b s l) (hp : pNum most l = .error (m, q)) :
    Calls Tryz.prog 183 #[.pointer (some ⟨b, 0, none⟩), .int .i64 (most : Int)] w (RetD (.tuple #[.int .i64 0, .bool false]) b s (placeI s m) q w) := by
  obtain ⟨k, hk, rfl, hr⟩ := h
  obtain ⟨h1, h2⟩ := some_live digitP k hk
  have hle := someK_le digitP s k 0 hk
  have hlen : ((s.data.toList.drop k).takeWhile digitP).length = someK digitP s k 0 - k := by
    rw [← h2, len_data]; simp; omega
  have hl : lackE s k = pLack (s.data.toList.drop k) := by
    unfold lackE pLack
    by_cases hlt : k < s.size
    · rw [if_neg (by omega), drop_cons s k hlt, if_neg (by simp)]
    · obtain rfl : k = s.size := by omega
      rw [if_pos rfl, drop_end, if_pos rfl]
  have hpl : placeI s (s.data.toList.drop k).length = (k : Int) := by
    unfold placeI; rw [List.length_drop, len_data]; omega
  have key : numB s k 0 (most : Int) = false ∧ q = numErr s k 0 ∧ m = (s.data.toList.drop k).length ∧ q ≠ 0 := by
    unfold pNum at hp
    split at hp
    · rename_i h3
      cases hp
      have : someK digitP s k 0 = k := by rw [h3] at hlen; simp at hlen; omega
      exact ⟨by simp [numB, this], by unfold numErr; rw [if_pos this, hl], rfl, pLack_ne _⟩
    · rename_i h3
      split at hp
      · cases hp
        have hne : ((s.data.toList.drop k).takeWhile digitP).length ≠ 0 := fun h => h3 (List.length_eq_zero_iff.1 h)
        exact ⟨decide_eq_false (by omega), by unfold numErr; rw [if_neg (by omega)], rfl, by decide⟩
      · cases hp
  obtain ⟨hb, rfl, rfl, hne⟩ := key
  have := number_any b s k 0 0 (most : Int) w hr hs hk
  rw [hb] at this
  simp only [Bool.false_eq_true, if_false] at this
  rw [show failBad 0 0 k (numErr s k 0) = k from by simp [failBad, hne], show failE 0 (numErr s k 0) = numErr s k 0 from by simp [failE]] at this
  rw [hpl]
  refine this.mono ?_
  rintro e w1 ⟨rfl, h5, g5⟩
  exact ⟨rfl, ⟨hne, k, hk, h5⟩, g5⟩
theorem number_dead (most : Int) (h : Dead w b s a c) :
    Calls Tryz.prog 183 #[.pointer (some ⟨b, 0, none⟩), .int .i64 most] w (RetD (.tuple #[.int .i64 0, .bool false]) b s a c w) := by
  obtain ⟨he, k, hk, hr⟩ := h
  have hb : numB s k c most = false := by simp [numB, some_dead digitP k he]
  have := number_any b s k a c most w hr hs hk
  rw [hb] at this
  simp only [Bool.false_eq_true, if_false] at this
  rw [show ∀ q, failBad a c k q = a from fun q => by simp [failBad, he], show ∀ q, failE c q = c from fun q => by simp [failE, he]] at this
  refine this.mono ?_
  rintro e w1 ⟨rfl, h5, g5⟩
  exact ⟨rfl, ⟨he, k, hk, h5⟩, g5⟩
omit hs in
theorem wrong_live (h : Live w b s l) : Calls Tryz.prog 46 #[.pointer (some ⟨b, 0, none⟩)] w (RetL (.tuple #[.int .i64 0, .int .i64 0]) b s l w) := by
  obtain ⟨k, hk, rfl, hr⟩ := h
  refine (wrong_any b s k 0 0 w hr).mono ?_
  rintro e w1 ⟨rfl, q, rfl⟩
  exact ⟨rfl, ⟨k, hk, rfl, hr⟩, (Chg.refl _ _).drewN _⟩
omit hs in
theorem wrong_dead (h : Dead w b s a c) : Calls Tryz.prog 46 #[.pointer (some ⟨b, 0, none⟩)] w (RetD (.tuple #[.int .i64 a, .int .i64 c]) b s a c w) := by
  obtain ⟨he, k, hk, hr⟩ := h
  refine (wrong_any b s k a c w hr).mono ?_
  rintro e w1 ⟨rfl, q, rfl⟩
  exact ⟨rfl, ⟨he, k, hk, hr⟩, (Chg.refl _ _).drewN _⟩
/-- A new reader, at which nothing is wrong. -/
def RetNewL (s : ByteArray) (w : World) (x : Ending) (w' : World) : Prop := ∃ b, w.heap.size ≤ b ∧ x = .returned (.pointer (some ⟨b, 0, none⟩)) ∧ Live w' b s s.data.toList ∧ Below w.heap.size w w'
def RetNewD (s : ByteArray) (a c : Int) (w : World) (x : Ending) (w' : World) : Prop := ∃ b, w.heap.size ≤ b ∧ x = .returned (.pointer (some ⟨b, 0, none⟩)) ∧ Dead w' b s a c ∧ Below w.heap.size w w'
theorem new_ok (hl : s.size ≤ 8192) (w : World) : Calls Tryz.prog 44 #[.string s] w (RetNewL s w) := by
  refine (new_any s w hs).mono ?_
  rintro e w1 ⟨b, hb, rfl, hr, hbl⟩
  have e1 : newBad s = 0 := if_neg (by omega)
  have e2 : newE s = 0 := if_neg (by omega)
  rw [e1, e2] at hr
  exact ⟨b, hb, rfl, ⟨0, Nat.zero_le _, rfl, hr⟩, hbl⟩
theorem new_long (hl : 8192 < s.size) (w : World) : Calls Tryz.prog 44 #[.string s] w (RetNewD s 8192 5 w) := by
  refine (new_any s w hs).mono ?_
  rintro e w1 ⟨b, hb, rfl, hr, hbl⟩
  have e1 : newBad s = 8192 := if_pos hl
  have e2 : newE s = 5 := if_pos hl
  rw [e1, e2] at hr
  exact ⟨b, hb, rfl, ⟨by decide, 0, Nat.zero_le _, hr⟩, hbl⟩
end
end Go.Proofs.YtochhmkdhdadhaaGreat
