/- From one state of a reader to another one: places stay in the text: plain. -/
import Derived.Test.YtochhmkdhdadhaaGreatWRead
/- The reader's methods, each by one contract: what is left of the text, what is wrong, and where. -/
namespace Go.Proofs.YtochhmkdhdadhaaGreat
open Go.RowKit
set_option linter.unusedSimpArgs false
set_option linter.unusedVariables false

/-- How a reader stands: what is left of the text; what is wrong, and where. -/
structure PS where
  l : List UInt8
  a : Int
  e : Int
/-- A reader in memory that stands so. -/
def RdP (w : World) (b : Nat) (s : ByteArray) (σ : PS) : Prop := ∃ k, k ≤ s.size ∧ σ.l = s.data.toList.drop k ∧ Rdr w b s k σ.a σ.e
/-- It hands back v; the reader stands so; nothing else has turned. -/
def RetP (v : Value) (b : Nat) (s : ByteArray) (σ : PS) (w : World) (x : Ending) (w' : World) : Prop := x = .returned v ∧ RdP w' b s σ ∧ Chg b w w'
section
variable {w w' : World} {b : Nat} {s : ByteArray} {σ : PS}
theorem RdP.below (h : RdP w b s σ) (hb : Below w.heap.size w w') : RdP w' b s σ := by
  obtain ⟨k, hk, hl, hr⟩ := h
  exact ⟨k, hk, hl, hr.kept hb hr.lt⟩
theorem RdP.alloc (h : RdP w b s σ) (o : Obj) : RdP (w.alloc o) b s σ := h.below ((Below.refl _ _).alloc (Nat.le_refl _) _)
theorem RdP.set (h : RdP w b s σ) {B o : Nat} (hB : B ≠ b) (v : Value) : RdP (w.setCell ⟨B, o, none⟩ v) b s σ := by
  obtain ⟨k, hk, hl, hr⟩ := h
  exact ⟨k, hk, hl, (Below.heap_setCell _ _ _ _ (fun e => hB (by simp [e]))).trans hr⟩
theorem RdP.drewN (h : RdP w b s σ) (q : Nat) : RdP (w.drewN q) b s σ := h
theorem RdP.drew (h : RdP w b s σ) : RdP w.drew b s σ := h
theorem RdP.lt (h : RdP w b s σ) : b < w.heap.size := by obtain ⟨k, hk, hl, hr⟩ := h; exact hr.lt
theorem RdP.len (h : RdP w b s σ) : σ.l.length ≤ s.size := by obtain ⟨k, hk, hl, hr⟩ := h; rw [hl, List.length_drop, len_data]; omega
theorem RdP.grown {row : Option Nat} (h : RdP w b s σ) (hg : w.grownBy w' row) (hrow : row ≠ some b) : RdP w' b s σ := by
  obtain ⟨k, hk, hl, hr⟩ := h
  exact ⟨k, hk, hl, (hg.block b hr.lt (Ne.symm hrow)).trans hr⟩
/-- All cells but the reader's read as before. -/
theorem gcell (hg : Chg b w w') : (∀ B o, B < w.heap.size → B ≠ b → w'.cell? ⟨B, o, none⟩ = w.cell? ⟨B, o, none⟩) ∧ (∀ B o, B < w.heap.size → B ≠ b → w'.frozen? ⟨B, o, none⟩ = w.frozen? ⟨B, o, none⟩) :=
  ⟨fun B o h hn => World.cell?_of_block (hg.block B h (fun e => hn (by injection e))), fun B o h hn => by
    have := hg.block B h (fun e => hn (by injection e))
    unfold World.frozen?
    rw [this]⟩
end

/-- Where it stands. -/
def atP (N : Nat) (σ : PS) : Int := ((N - σ.l.length : Nat) : Int)
def doneP (σ : PS) : Bool := decide (σ.e ≠ 0 ∨ σ.l = [])
def peekP (σ : PS) : Int := if σ.e = 0 then pPeek σ.l else 0
def failP (p q : Int) (σ : PS) : PS := if σ.e = 0 then ⟨σ.l, if q = 0 then σ.a else p, q⟩ else σ
def isP (cs : List UInt8) (σ : PS) : PS × Bool := if σ.e = 0 then (match pIs cs σ.l with | some r => (⟨r, σ.a, 0⟩, true) | none => (σ, false)) else (σ, false)
def lackP (N : Nat) (σ : PS) : PS := failP (atP N σ) (pLack σ.l) σ
def mustP (N : Nat) (cs : List UInt8) (σ : PS) : PS × Int := if (isP cs σ).2 then ((isP cs σ).1, peekP σ) else (lackP N σ, 0)
def someP (p : UInt8 → Bool) (σ : PS) : PS × List UInt8 := if σ.e = 0 then (⟨σ.l.dropWhile p, σ.a, 0⟩, σ.l.takeWhile p) else (σ, [])
/-- What a number is wrong by; 0: it is none that is wrong. -/
def numE (most : Nat) (l : List UInt8) : Int := if l.takeWhile digitP = [] then pLack l else if most < (l.takeWhile digitP).length then 4 else 0
def numP (N most : Nat) (σ : PS) : PS × Int × Bool :=
  if σ.e = 0 then if numE most σ.l = 0 then (⟨σ.l.dropWhile digitP, σ.a, 0⟩, numOf (σ.l.takeWhile digitP), true) else (⟨σ.l, atP N σ, numE most σ.l⟩, 0, false) else (σ, 0, false)
def endP (N : Nat) (σ : PS) : PS := if doneP σ then σ else failP (atP N σ) 3 σ
/-- A text that must stand there. -/
def textP (t : List UInt8) (σ : PS) : PS × Bool := if σ.e = 0 ∧ t ≠ [] ∧ t <+: σ.l then (⟨σ.l.drop t.length, σ.a, 0⟩, true) else (σ, false)

theorem ps_eta {σ : PS} (h : σ.e = 0) : (⟨σ.l, σ.a, 0⟩ : PS) = σ := by cases σ; simp only at h; subst h; rfl
section
variable {w : World} {b : Nat} {s : ByteArray} {σ : PS}
theorem RdP.of_live (h : RdP w b s σ) (he : σ.e = 0) : ∃ k, k ≤ s.size ∧ σ.l = s.data.toList.drop k ∧ Rdr w b s k σ.a 0 := by
  obtain ⟨k, hk, hl, hr⟩ := h; rw [he] at hr; exact ⟨k, hk, hl, hr⟩
theorem done_drop (s : ByteArray) (k : Nat) (hk : k ≤ s.size) (e : Int) : doneB s k e = decide (e ≠ 0 ∨ s.data.toList.drop k = []) := by
  unfold doneB
  have : (k = s.size) ↔ (s.data.toList.drop k = []) := by
    rw [List.drop_eq_nil_iff, len_data]; omega
  simp only [this]
theorem done_ps (h : RdP w b s σ) : Calls Tryz.prog 108 #[.pointer (some ⟨b, 0, none⟩)] w (RetN (.bool (doneP σ)) w) := by
  obtain ⟨k, hk, hl, hr⟩ := h
  have := done_any b s k _ _ w hr
  rw [done_drop s k hk, ← hl] at this
  exact this
theorem atP_eq {k : Nat} (hk : k ≤ s.size) (hl : σ.l = s.data.toList.drop k) : atP s.size σ = (k : Int) := by
  unfold atP; rw [hl, List.length_drop, len_data]; omega
theorem at_ps (h : RdP w b s σ) : Calls Tryz.prog 82 #[.pointer (some ⟨b, 0, none⟩)] w (RetQ (.int .i64 (atP s.size σ)) w) := by
  obtain ⟨k, hk, hl, hr⟩ := h
  rw [atP_eq hk hl]
  exact at_any b s k _ _ w hr
theorem peek_ps (h : RdP w b s σ) : Calls Tryz.prog 74 #[.pointer (some ⟨b, 0, none⟩)] w (RetN (.int .u8 (peekP σ)) w) := by
  obtain ⟨k, hk, hl, hr⟩ := h
  have := peek_any b s k _ _ w hr hk
  have hp : peekN s k σ.e = peekP σ := by
    unfold peekP
    rw [hl]
    by_cases he : σ.e = 0
    · rw [if_pos he, he]
      by_cases hlt : k < s.size
      · rw [drop_cons s k hlt, peekN_at hlt]; rfl
      · obtain rfl : k = s.size := by omega
        rw [drop_end, peekN_done (by simp [doneB])]; rfl
    · rw [if_neg he, peekN_done (doneB_err he)]
  rw [hp] at this
  exact this
theorem wrong_ps (h : RdP w b s σ) : Calls Tryz.prog 46 #[.pointer (some ⟨b, 0, none⟩)] w (RetN (.tuple #[.int .i64 σ.a, .int .i64 σ.e]) w) := by
  obtain ⟨k, hk, hl, hr⟩ := h
  exact wrong_any b s k _ _ w hr
theorem RetN.toP {v : Value} {e : Ending} {w' : World} (h : RdP w b s σ) (g : RetN v w e w') : RetP v b s σ w e w' := by
  obtain ⟨rfl, n, rfl⟩ := g
  exact ⟨rfl, h.drewN n, (Chg.refl _ _).drewN n⟩
theorem done_pp (h : RdP w b s σ) : Calls Tryz.prog 108 #[.pointer (some ⟨b, 0, none⟩)] w (RetP (.bool (doneP σ)) b s σ w) := (done_ps h).mono fun _ _ g => RetN.toP h g
theorem peek_pp (h : RdP w b s σ) : Calls Tryz.prog 74 #[.pointer (some ⟨b, 0, none⟩)] w (RetP (.int .u8 (peekP σ)) b s σ w) := (peek_ps h).mono fun _ _ g => RetN.toP h g
theorem wrong_pp (h : RdP w b s σ) : Calls Tryz.prog 46 #[.pointer (some ⟨b, 0, none⟩)] w (RetP (.tuple #[.int .i64 σ.a, .int .i64 σ.e]) b s σ w) := (wrong_ps h).mono fun _ _ g => RetN.toP h g
theorem fail_ps (p q : Int) (h : RdP w b s σ) : Calls Tryz.prog 72 #[.pointer (some ⟨b, 0, none⟩), .int .i64 p, .int .i64 q] w (RetP (.tuple #[]) b s (failP p q σ) w) := by
  obtain ⟨k, hk, hl, hr⟩ := h
  refine (fail_any b s k _ _ p q w hr).mono ?_
  rintro e w1 ⟨rfl, h1, g1⟩
  refine ⟨rfl, ⟨k, hk, ?_, ?_⟩, g1⟩
  · unfold failP; split <;> exact hl
  · unfold failP
    unfold failBad failE at h1
    by_cases he : σ.e = 0
    · rw [if_pos he]
      by_cases hq : q = 0
      · rw [if_neg (by simp [hq]), if_pos he] at h1
        simp only [hq, if_true]; rw [hq] at h1; exact h1
      · rw [if_pos ⟨he, hq⟩, if_pos he] at h1
        simp only [if_neg hq]; exact h1
    · rw [if_neg he]
      rw [if_neg (by simp [he]), if_neg he] at h1
      exact h1
theorem lackE_eq {k : Nat} (hk : k ≤ s.size) : lackE s k = pLack (s.data.toList.drop k) := by
  unfold lackE pLack
  by_cases hlt : k < s.size
  · rw [if_neg (by omega), drop_cons s k hlt, if_neg (by simp)]
  · obtain rfl : k = s.size := by omega
    rw [if_pos rfl, drop_end, if_pos rfl]
theorem pIs_cons (cs : List UInt8) (c : UInt8) (l : List UInt8) : pIs cs (c :: l) = if cs.elem c = true then some l else none := rfl
theorem isB_drop {k : Nat} (hk : k ≤ s.size) (cs : List UInt8) : isB s k 0 cs = (pIs cs (s.data.toList.drop k)).isSome ∧ ∀ r, pIs cs (s.data.toList.drop k) = some r → k < s.size ∧ r = s.data.toList.drop (k + 1) := by
  by_cases hlt : k < s.size
  · rw [isB_at hlt, drop_cons s k hlt]
    rw [pIs_cons]
    by_cases hc : cs.elem s[k] = true
    · rw [if_pos hc, hc]
      refine ⟨rfl, fun r hr => ?_⟩
      cases hr
      exact ⟨hlt, rfl⟩
    · rw [if_neg hc]
      refine ⟨by simpa using hc, fun r hr => by cases hr⟩
  · obtain rfl : k = s.size := by omega
    rw [isB_done (by simp [doneB]), drop_end]
    simp [pIs]
variable (hs : s.size ≤ 9223372036854775807)
include hs
theorem is_ps {A : Option Addr} {n cp : Nat} {cs : List UInt8} (h : RdP w b s σ) (hA : RdBytes w A n cs) (hn : n ≤ 9223372036854775807) :
    Calls Tryz.prog 109 #[.pointer (some ⟨b, 0, none⟩), .slice A n cp] w (RetP (.bool (isP cs σ).2) b s (isP cs σ).1 w) := by
  obtain ⟨k, hk, hl, hr⟩ := h
  have := is_any b s k _ _ A n cp cs w hr hs hk hA hn
  unfold isP
  by_cases he : σ.e = 0
  · rw [if_pos he, hl]
    rw [he] at this
    obtain ⟨hb, hx⟩ := isB_drop hk cs
    unfold isK at this
    rw [hb] at this
    cases hq : pIs cs (s.data.toList.drop k) with
    | none =>
      rw [hq] at this
      refine this.mono ?_
      rintro e w1 ⟨rfl, h3, g3⟩
      exact ⟨rfl, ⟨k, hk, hl, by rw [he]; exact h3⟩, g3⟩
    | some r =>
      rw [hq] at this
      refine this.mono ?_
      rintro e w1 ⟨rfl, h3, g3⟩
      obtain ⟨h4, rfl⟩ := hx r hq
      exact ⟨rfl, ⟨k + 1, h4, rfl, h3⟩, g3⟩
  · rw [if_neg he]
    have hb : isB s k σ.e cs = false := isB_done (doneB_err he)
    rw [isK, hb] at this
    refine this.mono ?_
    rintro e w1 ⟨rfl, h3, g3⟩
    exact ⟨rfl, ⟨k, hk, hl, h3⟩, g3⟩
theorem must_ps {A : Option Addr} {n cp : Nat} {cs : List UInt8} (h : RdP w b s σ) (hA : RdBytes w A n cs) (hn : n ≤ 9223372036854775807) :
    Calls Tryz.prog 112 #[.pointer (some ⟨b, 0, none⟩), .slice A n cp] w (RetP (.int .u8 (mustP s.size cs σ).2) b s (mustP s.size cs σ).1 w) := by
  obtain ⟨k, hk, hl, hr⟩ := h
  have hat := atP_eq hk hl
  have := must_any b s k _ _ A n cp cs w hr hs hk hA hn
  unfold mustP isP
  by_cases he : σ.e = 0
  · simp only [if_pos he]
    rw [hl]
    rw [he] at this
    obtain ⟨hb, hx⟩ := isB_drop hk cs
    unfold isK at this
    rw [hb] at this
    cases hq : pIs cs (s.data.toList.drop k) with
    | none =>
      rw [hq] at this
      simp only [Option.isSome_none, Bool.false_eq_true, if_false] at this ⊢
      refine this.mono ?_
      rintro e w1 ⟨rfl, h3, g3⟩
      refine ⟨rfl, ⟨k, hk, ?_, ?_⟩, g3⟩
      · unfold lackP failP; rw [if_pos he]; exact hl
      · unfold lackP failP
        rw [if_pos he, hat, hl]
        have hne := pLack_ne (s.data.toList.drop k)
        rw [lackE_eq hk] at h3
        unfold failBad failE at h3
        rw [if_pos ⟨rfl, hne⟩, if_pos rfl] at h3
        simp only [if_neg hne]
        exact h3
    | some r =>
      obtain ⟨h4, rfl⟩ := hx r hq
      rw [hq] at this
      simp only [Option.isSome_some, if_true] at this ⊢
      have hpk : peekN s k 0 = peekP σ := by
        unfold peekP; rw [if_pos he, hl, peekN_at h4, drop_cons s k h4]; rfl
      rw [hpk] at this
      refine this.mono ?_
      rintro e w1 ⟨rfl, h3, g3⟩
      exact ⟨rfl, ⟨k + 1, h4, rfl, h3⟩, g3⟩
  · simp only [if_neg he, Bool.false_eq_true, if_false]
    have hb : isB s k σ.e cs = false := isB_done (doneB_err he)
    rw [isK, hb] at this
    simp only [Bool.false_eq_true, if_false] at this
    refine this.mono ?_
    rintro e w1 ⟨rfl, h3, g3⟩
    unfold failBad failE at h3
    rw [if_neg (by simp [he]), if_neg he] at h3
    refine ⟨rfl, ⟨k, hk, ?_, ?_⟩, g3⟩
    · unfold lackP failP; rw [if_neg he]; exact hl
    · unfold lackP failP; rw [if_neg he]; exact h3
omit hs in
theorem someP_k {p : UInt8 → Bool} {k : Nat} (hk : k ≤ s.size) (hl : σ.l = s.data.toList.drop k) : someK p s k σ.e ≤ s.size ∧ (someP p σ).1.l = s.data.toList.drop (someK p s k σ.e) ∧ (someP p σ).2 = (s.extract k (someK p s k σ.e)).data.toList ∧ (someP p σ).1.a = σ.a ∧ (someP p σ).1.e = σ.e := by
  refine ⟨(someK_le p s k σ.e hk).2, ?_⟩
  unfold someP
  by_cases he : σ.e = 0
  · obtain ⟨h1, h2⟩ := some_live p k hk
    rw [if_pos he, he, hl]
    exact ⟨h1.symm, h2.symm, rfl, rfl⟩
  · rw [if_neg he, some_dead p k he, extract_none]
    exact ⟨hl, rfl, rfl, rfl⟩
theorem word_ps (h : RdP w b s σ) : Calls Tryz.prog 141 #[.pointer (some ⟨b, 0, none⟩)] w (RetP (.string (strB (someP letterP σ).2)) b s (someP letterP σ).1 w) := by
  obtain ⟨k, hk, hl, hr⟩ := h
  obtain ⟨h1, h2, h3, h4, h5⟩ := someP_k (p := letterP) hk hl
  refine (word_any b s k _ _ w hr hs hk).mono ?_
  rintro e w1 ⟨rfl, h6, g6⟩
  exact ⟨by rw [← strB_of h3.symm], ⟨_, h1, h2, by rw [h4, h5]; exact h6⟩, g6⟩
theorem number_ps {most : Nat} (hm : most ≤ 18) (h : RdP w b s σ) :
    Calls Tryz.prog 183 #[.pointer (some ⟨b, 0, none⟩), .int .i64 (most : Int)] w (RetP (.tuple #[.int .i64 (numP s.size most σ).2.1, .bool (numP s.size most σ).2.2]) b s (numP s.size most σ).1 w) := by
  obtain ⟨k, hk, hl, hr⟩ := h
  have hat := atP_eq hk hl
  obtain ⟨h1, h2, h3, h4, h5⟩ := someP_k (p := digitP) hk hl
  have := number_any b s k _ _ (most : Int) w hr hs hk
  unfold numP
  by_cases he : σ.e = 0
  · rw [if_pos he]
    rw [he] at this h1 h2 h3
    have hT : σ.l.takeWhile digitP = (someP digitP σ).2 := by unfold someP; rw [if_pos he]
    have hD : σ.l.dropWhile digitP = (someP digitP σ).1.l := by unfold someP; rw [if_pos he]
    have hrl : runL digitP s k 0 = σ.l.takeWhile digitP := by rw [hT, h3, extract_list]; rfl
    have hle := (someK_le digitP s k 0 hk).1
    have hlen : (σ.l.takeWhile digitP).length = someK digitP s k 0 - k := by
      rw [hT, h3, len_data]; simp; omega
    have hemp : σ.l.takeWhile digitP = [] ↔ someK digitP s k 0 = k := by
      rw [← List.length_eq_zero_iff, hlen]; omega
    have hcond : numB s k 0 (most : Int) = decide (numE most σ.l = 0) := by
      unfold numB numE
      rw [Bool.eq_iff_iff, decide_eq_true_eq, decide_eq_true_eq]
      by_cases h0 : σ.l.takeWhile digitP = []
      · rw [if_pos h0]
        have := hemp.1 h0
        have hne := pLack_ne σ.l
        constructor
        · intro h; exact absurd this h.1
        · intro h; exact absurd h hne
      · rw [if_neg h0]
        have h0' : ¬ someK digitP s k 0 = k := fun h => h0 (hemp.2 h)
        by_cases h7 : most < (σ.l.takeWhile digitP).length
        · rw [if_pos h7]
          constructor
          · intro h; omega
          · intro h; exact absurd h (by decide)
        · rw [if_neg h7]
          exact ⟨fun _ => rfl, fun _ => ⟨h0', by omega, by omega⟩⟩
    by_cases hz : numE most σ.l = 0
    · rw [if_pos hz]
      rw [hcond, decide_eq_true hz] at this
      simp only [if_true] at this
      rw [hrl] at this
      refine this.mono ?_
      rintro e w1 ⟨rfl, h6, g6⟩
      exact ⟨rfl, ⟨_, h1, by rw [← h2]; exact hD, h6⟩, g6⟩
    · rw [if_neg hz]
      rw [hcond, decide_eq_false hz] at this
      simp only [Bool.false_eq_true, if_false] at this
      have hE : numErr s k 0 = numE most σ.l := by
        unfold numErr numE
        rw [lackE_eq hk, ← hl]
        by_cases h0 : σ.l.takeWhile digitP = []
        · rw [if_pos h0, if_pos (hemp.1 h0)]
        · rw [if_neg h0, if_neg (fun h => h0 (hemp.2 h))]
          by_cases h7 : most < (σ.l.takeWhile digitP).length
          · rw [if_pos h7]
          · exact absurd (by unfold numE; rw [if_neg h0, if_neg h7]) hz
      rw [hE] at this
      refine this.mono ?_
      rintro e w1 ⟨rfl, h6, g6⟩
      unfold failBad failE at h6
      rw [if_pos ⟨rfl, hz⟩, if_pos rfl] at h6
      exact ⟨rfl, ⟨k, hk, hl, by rw [hat]; exact h6⟩, g6⟩
  · rw [if_neg he]
    have hb : numB s k σ.e (most : Int) = false := by simp [numB, some_dead digitP k he]
    rw [hb] at this
    simp only [Bool.false_eq_true, if_false] at this
    refine this.mono ?_
    rintro e w1 ⟨rfl, h6, g6⟩
    unfold failBad failE at h6
    rw [if_neg (by simp [he]), if_neg he] at h6
    exact ⟨rfl, ⟨k, hk, hl, h6⟩, g6⟩
omit hs in
/-- A new reader: its block is new. -/
def newP (s : ByteArray) : PS := ⟨s.data.toList, newBad s, newE s⟩
def RetNewP (s : ByteArray) (w : World) (x : Ending) (w' : World) : Prop := ∃ b, w.heap.size ≤ b ∧ x = .returned (.pointer (some ⟨b, 0, none⟩)) ∧ RdP w' b s (newP s) ∧ Below w.heap.size w w'
theorem new_ps (w : World) : Calls Tryz.prog 44 #[.string s] w (RetNewP s w) := by
  refine (new_any s w hs).mono ?_
  rintro e w1 ⟨b, hb, rfl, hr, hbl⟩
  exact ⟨b, hb, rfl, ⟨0, Nat.zero_le _, rfl, hr⟩, hbl⟩
end
end Go.Proofs.YtochhmkdhdadhaaGreat

namespace Go.Proofs.YtochhmkdhdadhaaGreat
open Go.RowKit
set_option linter.unusedSimpArgs false
set_option linter.unusedVariables false

/-- From σ to τ: a place that lay in the text still does; where nothing is wrong behind, nothing was ahead, and P. -/
structure Goes (N : Nat) (σ τ : PS) (P : Prop) : Prop where
  ok : (σ.e = 0 ∨ 0 ≤ σ.a ∧ σ.a ≤ N) → (τ.e = 0 ∨ 0 ≤ τ.a ∧ τ.a ≤ N)
  z : τ.e = 0 → σ.e = 0 ∧ P
section
variable {N : Nat} {σ τ υ : PS} {P Q : Prop}
theorem Goes.trans (h : Goes N σ τ P) (g : Goes N τ υ Q) : Goes N σ υ (P ∧ Q) :=
  ⟨fun x => g.ok (h.ok x), fun x => ⟨(h.z (g.z x).1).1, (h.z (g.z x).1).2, (g.z x).2⟩⟩
theorem Goes.mono (h : Goes N σ τ P) (g : P → Q) : Goes N σ τ Q := ⟨h.ok, fun x => ⟨(h.z x).1, g (h.z x).2⟩⟩
theorem Goes.refl (N : Nat) (σ : PS) : Goes N σ σ True := ⟨id, fun x => ⟨x, trivial⟩⟩
theorem Goes.never (h : Goes N σ τ False) : Goes N σ τ Q := h.mono False.elim
theorem at_le (N : Nat) (σ : PS) : 0 ≤ atP N σ ∧ atP N σ ≤ N := by unfold atP; omega
theorem goes_fail (p q : Int) (hq : q ≠ 0) (hp : 0 ≤ p ∧ p ≤ N) : Goes N σ (failP p q σ) False := by
  unfold failP
  by_cases he : σ.e = 0
  · rw [if_pos he, if_neg hq]
    exact ⟨fun _ => .inr hp, fun x => absurd x hq⟩
  · rw [if_neg he]
    exact ⟨id, fun x => absurd x he⟩
theorem goes_failAt (τ : PS) (q : Int) (hq : q ≠ 0) : Goes N σ (failP (atP N τ) q σ) False := goes_fail _ _ hq (at_le N τ)
theorem goes_is (cs : List UInt8) : Goes N σ (isP cs σ).1 True := by
  unfold isP
  by_cases he : σ.e = 0
  · rw [if_pos he]
    split
    · exact ⟨fun _ => .inl rfl, fun _ => ⟨he, trivial⟩⟩
    · exact Goes.refl _ _
  · rw [if_neg he]; exact Goes.refl _ _
theorem is_yes_e {cs : List UInt8} (h : (isP cs σ).2 = true) : σ.e = 0 ∧ (isP cs σ).1.e = 0 := by
  unfold isP at *
  by_cases he : σ.e = 0
  · rw [if_pos he] at *
    split at h
    · exact ⟨he, rfl⟩
    · cases h
  · rw [if_neg he] at h; cases h
theorem goes_must (cs : List UInt8) : Goes N σ (mustP N cs σ).1 True := by
  unfold mustP
  split
  · exact goes_is cs
  · unfold lackP; exact (goes_failAt σ _ (pLack_ne _)).never
theorem goes_some (p : UInt8 → Bool) : Goes N σ (someP p σ).1 True := by
  unfold someP
  by_cases he : σ.e = 0
  · rw [if_pos he]; exact ⟨fun _ => .inl rfl, fun _ => ⟨he, trivial⟩⟩
  · rw [if_neg he]; exact Goes.refl _ _
theorem numE_zero {most : Nat} {l : List UInt8} (h : numE most l = 0) : l.takeWhile digitP ≠ [] ∧ (l.takeWhile digitP).length ≤ most := by
  unfold numE at h
  split at h
  · exact absurd h (pLack_ne l)
  · split at h
    · exact absurd h (by decide)
    · exact ⟨by assumption, by omega⟩
theorem goes_num (most : Nat) : Goes N σ (numP N most σ).1 ((numP N most σ).2.2 = true ∧ 0 ≤ (numP N most σ).2.1 ∧ (numP N most σ).2.1 < 10 ^ most) := by
  unfold numP
  by_cases he : σ.e = 0
  · rw [if_pos he]
    by_cases hz : numE most σ.l = 0
    · rw [if_pos hz]
      have hb := numOf_lt _ (all_take digitP σ.l)
      exact ⟨fun _ => .inl rfl, fun _ => ⟨he, rfl, hb.1, Int.lt_of_lt_of_le hb.2 (pow_mono (numE_zero hz).2)⟩⟩
    · rw [if_neg hz]
      exact ⟨fun _ => .inr (at_le N σ), fun x => absurd x hz⟩
  · rw [if_neg he]; exact ⟨id, fun x => absurd x he⟩
theorem goes_text (t : List UInt8) : Goes N σ (textP t σ).1 True := by
  unfold textP
  split
  · rename_i h; exact ⟨fun _ => .inl rfl, fun _ => ⟨h.1, trivial⟩⟩
  · exact Goes.refl _ _
theorem ite_goes {c : Prop} [Decidable c] {x y : PS} {P Q : Prop} (h1 : c → Goes N σ x P) (h2 : ¬ c → Goes N σ y P) : Goes N σ (if c then x else y) P := by
  split
  · exact h1 (by assumption)
  · exact h2 (by assumption)
end
end Go.Proofs.YtochhmkdhdadhaaGreat
