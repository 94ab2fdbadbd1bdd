/- There and back: what is written of a line is read as that line: plain. -/
import Derived.Test.YtochhmkdhdadhaaGreatDoorRPlain
import Derived.Test.YtochhmkdhdadhaaGreatDoorRText
namespace Go.Proofs.YtochhmkdhdadhaaGreatDoor
open Go.RowKit
set_option linter.unusedSimpArgs false
set_option linter.unusedVariables false

theorem dec_digits (u : Nat) : (∀ c ∈ Lib.decDigits u, digitP c = true) ∧ numOf (Lib.decDigits u) = u ∧ Lib.decDigits u ≠ [] ∧ ∀ k, u < 10 ^ (k + 1) → (Lib.decDigits u).length ≤ k + 1 := by
  induction u using Nat.strongRecOn with
  | _ u ih =>
    rw [Lib.decDigits]
    by_cases h : u < 10
    · rw [dif_pos h]
      have e : (UInt8.ofNat (48 + u)).toNat = 48 + u := by simp; omega
      refine ⟨?_, ?_, by simp, fun k _ => by simp⟩
      · intro c hc
        simp only [List.mem_singleton] at hc
        subst hc
        unfold digitP
        rw [e]; simp; omega
      · simp only [numOf, List.foldl_cons, List.foldl_nil, e]; omega
    · rw [dif_neg h]
      obtain ⟨h1, h2, h3, h4⟩ := ih (u / 10) (by omega)
      have e : (UInt8.ofNat (48 + u % 10)).toNat = 48 + u % 10 := by simp; omega
      refine ⟨?_, ?_, by simp, ?_⟩
      · intro c hc
        rcases List.mem_append.1 hc with hc | hc
        · exact h1 c hc
        · simp only [List.mem_singleton] at hc
          subst hc
          unfold digitP
          rw [e]; simp; omega
      · have e3 : ∀ (l : List UInt8) (c : UInt8), numOf (l ++ [c]) = 10 * numOf l + ((c.toNat : Int) - 48) := by intro l c; simp [numOf, List.foldl_append]
        rw [e3, h2, e]; omega
      · intro k hk
        rcases k with _ | k
        · simp at hk; omega
        · have := h4 k (by rw [Nat.pow_succ] at hk; omega)
          simp; omega
/-- Nothing of what stands behind is of the kind. -/
def NoHead (p : UInt8 → Bool) (l : List UInt8) : Prop := headB p l = false
theorem take_app {p : UInt8 → Bool} {d l : List UInt8} (h : ∀ c ∈ d, p c = true) (hl : headB p l = false) : (d ++ l).takeWhile p = d ∧ (d ++ l).dropWhile p = l := by
  induction d with
  | nil =>
    cases l with
    | nil => simp
    | cons c l =>
      have : p c = false := hl
      simp [this]
  | cons a d ih =>
    have h1 := ih (fun c hc => h c (List.mem_cons_of_mem _ hc))
    have h2 := h a (by simp)
    simp [h2, h1]
theorem pNum_dec (most u : Nat) (l : List UInt8) (hu : u < 10 ^ most) (hm : 1 ≤ most) (hl : headB digitP l = false) : pNum most (Lib.decDigits u ++ l) = .ok ((u : Int), l) := by
  obtain ⟨h1, h2, h3, h4⟩ := dec_digits u
  obtain ⟨e1, e2⟩ := take_app h1 hl
  unfold pNum
  rw [e1, e2, if_neg h3, h2]
  have := h4 (most - 1) (by rw [show most - 1 + 1 = most from by omega]; exact hu)
  rw [if_neg (by omega)]
theorem itoa_nat (u : Nat) : Lib.itoa (u : Int) = Lib.decDigits u := by
  unfold Lib.itoa
  rw [if_neg (by omega), Int.toNat_natCast]
theorem dec_head (u : Nat) (l : List UInt8) (p : UInt8 → Bool) (hp : ∀ c, digitP c = true → p c = false) : headB p (Lib.decDigits u ++ l) = false := by
  obtain ⟨h1, _, h3, _⟩ := dec_digits u
  cases h : Lib.decDigits u with
  | nil => exact absurd h h3
  | cons c d => exact hp c (h1 c (by rw [h]; simp))
theorem digit_letter (c : UInt8) (h : digitP c = true) : letterP c = false := by
  simp only [digitP, letterP, decide_eq_true_eq, decide_eq_false_iff_not] at *
  omega
theorem cNum_itoa (f : Nat) (hf : f < 5) (n : Int) (l : List UInt8) (h : cLo f ≤ n ∧ n ≤ cHi f) (hl : headB digitP l = false) : cNum f (Lib.itoa n ++ l) = .ok (n, l) := by
  have hb : 0 ≤ cLo f ∧ cHi f ≤ 59 := by
    obtain rfl | rfl | rfl | rfl | rfl : f = 0 ∨ f = 1 ∨ f = 2 ∨ f = 3 ∨ f = 4 := by omega
    all_goals decide
  obtain ⟨u, rfl⟩ := Int.eq_ofNat_of_zero_le (show 0 ≤ n by omega)
  unfold cNum
  rw [itoa_nat, if_neg (by rw [dec_head u l letterP digit_letter]; simp), pNum_dec 2 u l (by omega) (by decide) hl]
  dsimp only
  rw [if_neg (by omega)]
theorem cStep_itoa (n : Int) (l : List UInt8) (h : 1 ≤ n ∧ n ≤ 999) (hl : headB digitP l = false) : cStep (Lib.itoa n ++ l) = .ok (n, l) := by
  obtain ⟨u, rfl⟩ := Int.eq_ofNat_of_zero_le (show 0 ≤ n by omega)
  unfold cStep
  rw [itoa_nat, pNum_dec 3 u l (by omega) (by decide) hl]
  dsimp only
  rw [if_neg (by omega)]
theorem pIs_no {c : UInt8} {l : List UInt8} (h : headB (· == c) l = false) : pIs [c] l = none := by
  cases l with
  | nil => rfl
  | cons a l =>
    have h : (a == c) = false := h
    show (if [c].elem a = true then some l else none) = none
    rw [if_neg (by simpa using h)]
theorem pIs_yes (c : UInt8) (l : List UInt8) : pIs [c] (c :: l) = some l := by
  show (if [c].elem c = true then some l else none) = some l
  rw [if_pos (by simp)]
/-- What ends an item: a comma, a blank, the end. -/
def iendP (c : UInt8) : Bool := c == 44 || c == 32
def Ends (l : List UInt8) : Prop := l = [] ∨ headB iendP l = true
theorem Ends.no {l : List UInt8} (h : Ends l) {p : UInt8 → Bool} (h1 : p 44 = false) (h2 : p 32 = false) : headB p l = false := by
  rcases h with rfl | h
  · rfl
  · cases l with
    | nil => rfl
    | cons c l =>
      have h : iendP c = true := h
      simp only [iendP, Bool.or_eq_true, beq_iff_eq] at h
      rcases h with rfl | rfl
      · exact h1
      · exact h2
theorem cBy_stT (i : It) (n : Int) (l : List UInt8) (hi : i.s = 1) (h : 1 ≤ n ∧ n ≤ 999) (hl : Ends l) : cBy i (stT n ++ l) = .ok ({ i with s := n }, l) := by
  unfold cBy stT
  by_cases h1 : n = 1
  · subst h1
    rw [if_pos rfl, List.nil_append, pIs_no (hl.no (by decide) (by decide))]
    cases i
    simp at hi
    subst hi
    rfl
  · rw [if_neg h1, List.cons_append, pIs_yes]
    dsimp only
    rw [cStep_itoa n l h (hl.no (by decide) (by decide))]
theorem cItem_back (f : Nat) (hf : f < 5) (i : It) (l : List UInt8) (h3 : i.k ≠ 3) (h : MayP i (cLo f) (cHi f)) (hl : Ends l) : cItem f (itemT i ++ l) = .ok (i, l) := by
  obtain ⟨k, a, b, s⟩ := i
  obtain ⟨_, _, _, h⟩ := h
  simp only at h h3
  unfold cItem itemT
  have nodig : ∀ (c : UInt8), digitP c = true → (c == 42) = false := by
    intro c hc
    simp only [digitP, decide_eq_true_eq] at hc
    rw [beq_eq_false_iff_ne]; rintro rfl; simp at hc
  rcases h with ⟨rfl, rfl, rfl, h⟩ | ⟨rfl, h1, h2, rfl, rfl⟩ | ⟨rfl, h1, h2, h4, h5, h6, h⟩ | ⟨rfl, _⟩
  · simp only [if_true, List.cons_append]
    rw [pIs_yes]
    dsimp only
    rw [cBy_stT _ s l rfl h hl]
  · have hb : 0 ≤ a := by have := (cBounds f hf).1; omega
    obtain ⟨u, rfl⟩ := Int.eq_ofNat_of_zero_le hb
    dsimp only
    rw [if_neg (by decide), if_pos rfl]
    rw [pIs_no (by rw [itoa_nat]; exact dec_head u l _ nodig)]
    dsimp only
    rw [cNum_itoa f hf _ l ⟨h1, h2⟩ (hl.no (by decide) (by decide))]
    dsimp only
    rw [pIs_no (hl.no (by decide) (by decide))]
  · have hb : 0 ≤ a := by have := (cBounds f hf).1; omega
    obtain ⟨u, rfl⟩ := Int.eq_ofNat_of_zero_le hb
    have hb2 : 0 ≤ b := by omega
    obtain ⟨v, rfl⟩ := Int.eq_ofNat_of_zero_le hb2
    dsimp only
    rw [if_neg (by decide), if_neg (by decide), if_pos rfl]
    rw [List.append_assoc, List.cons_append, List.append_assoc, pIs_no (by rw [itoa_nat]; exact dec_head u _ _ nodig)]
    dsimp only
    rw [cNum_itoa f hf _ _ ⟨h1, h2⟩ (by show digitP 45 = false; decide)]
    dsimp only
    rw [pIs_yes]
    dsimp only
    rw [cNum_itoa f hf _ _ ⟨h4, h5⟩ (by
      unfold stT
      split
      · exact hl.no (by decide) (by decide)
      · show digitP 47 = false; decide)]
    dsimp only
    rw [if_neg (by omega), cBy_stT _ s l rfl h hl]
  · exact absurd rfl h3
theorem cItems_back (f : Nat) (hf : f < 5) : ∀ (is : List It) (q : Nat) (l : List UInt8), is ≠ [] → is.length ≤ q + 1 → (∀ i ∈ is, i.k ≠ 3 ∧ MayP i (cLo f) (cHi f)) → (l = [] ∨ headB (· == 32) l = true) → cItems f q (fieldT is ++ l) = .ok (is, l)
  | [], _, _, h, _, _, _ => absurd rfl h
  | i :: is, q, l, _, hq, hi, hl => by
    have hE : Ends l := by
      rcases hl with h | h
      · exact .inl h
      · right
        cases l with
        | nil => cases h
        | cons c l =>
          have h : (c == 32) = true := h
          show iendP c = true
          simp [iendP] at h ⊢
          exact .inr h
    have h0 := hi i (by simp)
    have hn : headB (· == 44) l = false := by
      rcases hl with rfl | h
      · rfl
      · cases l with
        | nil => rfl
        | cons c l =>
          have h : (c == 32) = true := h
          simp at h; subst h; rfl
    rw [cItems, fieldT_cons, List.append_assoc]
    cases is with
    | nil =>
      rw [if_pos rfl, List.nil_append, cItem_back f hf i l h0.1 h0.2 hE]
      dsimp only
      rw [pIs_no hn]
    | cons j is =>
      rw [if_neg (by simp), List.cons_append, cItem_back f hf i _ h0.1 h0.2 (.inr (by rfl))]
      dsimp only
      rw [pIs_yes]
      dsimp only
      rcases q with _ | q
      · simp at hq
      · dsimp only
        rw [cItems_back f hf (j :: is) q l (by simp) (by simp at hq ⊢; omega) (fun i h => hi i (List.mem_cons_of_mem _ h)) hl]
theorem fieldT_ne {is : List It} {f : Nat} (hf : f < 5) (h : is ≠ []) (hi : ∀ i ∈ is, i.k ≠ 3 ∧ MayP i (cLo f) (cHi f)) (l : List UInt8) : headB (fun c => blankP c || c == 64) (fieldT is ++ l) = false ∧ fieldT is ≠ [] := by
  cases is with
  | nil => exact absurd rfl h
  | cons i is =>
    rw [fieldT_cons]
    have h0 := hi i (by simp)
    have nodig : ∀ (c : UInt8), digitP c = true → (blankP c || c == 64) = false := by
      intro c hc
      simp only [digitP, decide_eq_true_eq] at hc
      simp only [blankP, Bool.or_eq_false_iff, decide_eq_false_iff_not, beq_eq_false_iff_ne]
      refine ⟨?_, ?_⟩
      · rintro (rfl | rfl) <;> simp at hc
      · rintro rfl; simp at hc
    have key : ∀ m, headB (fun c => blankP c || c == 64) (itemT i ++ m) = false ∧ itemT i ≠ [] := by
      intro m
      obtain ⟨k, a, b, s⟩ := i
      obtain ⟨_, _, _, h1⟩ := h0.2
      have h3 := h0.1
      simp only at h1 h3
      unfold itemT
      have hbf := (cBounds f hf).1
      rcases h1 with ⟨rfl, _⟩ | ⟨rfl, h1, _⟩ | ⟨rfl, h1, _⟩ | ⟨rfl, _⟩
      · rw [if_pos rfl]; exact ⟨by rfl, by simp⟩
      · dsimp only
        rw [if_neg (by decide), if_pos rfl]
        obtain ⟨u, rfl⟩ := Int.eq_ofNat_of_zero_le (show 0 ≤ a by omega)
        rw [itoa_nat]
        exact ⟨dec_head u _ _ nodig, (dec_digits u).2.2.1⟩
      · dsimp only
        rw [if_neg (by decide), if_neg (by decide), if_pos rfl]
        obtain ⟨u, rfl⟩ := Int.eq_ofNat_of_zero_le (show 0 ≤ a by omega)
        rw [itoa_nat, List.append_assoc]
        exact ⟨dec_head u _ _ nodig, by simp [(dec_digits u).2.2.1]⟩
      · exact absurd rfl h3
    refine ⟨?_, ?_⟩
    · rw [List.append_assoc]; exact (key _).1
    · have := (key []).2
      simp [this]
theorem fault_parts {f : Nat} {is : List It} (h : faultI f is = 0) : is ≠ [] ∧ is.length ≤ 64 ∧ ∀ i ∈ is, i.k ≠ 3 ∧ MayP i (cLo f) (cHi f) := by
  unfold faultI at h
  split at h
  · cases h
  · split at h
    · cases h
    · split at h
      · cases h
      · rename_i h1 h2 h3
        refine ⟨by rintro rfl; exact h1 rfl, by omega, fun i hi => ?_⟩
        rw [Bool.not_eq_true, List.any_eq_false] at h3
        have := h3 i hi
        simp only [Bool.or_eq_true, Bool.not_eq_true', beq_iff_eq, not_or, Bool.not_eq_false] at this
        exact ⟨this.1, of_decide_eq_true this.2⟩
theorem cFields_back : ∀ (q f : Nat) (r : List (List It)), f + q ≤ 5 → r.length = q → (∀ j is, r[j]? = some is → faultI (f + j) is = 0) → cFields q f (lineT r) = .ok (r, [])
  | 0, f, r, _, hr, _ => by
    obtain rfl : r = [] := List.length_eq_zero_iff.1 hr
    rfl
  | q + 1, f, [], _, hr, _ => by simp at hr
  | q + 1, f, is :: r, hq, hr, hz => by
    have hz0 := fault_parts (hz 0 is rfl)
    rw [Nat.add_zero] at hz0
    rw [cFields, lineT_cons]
    cases r with
    | nil =>
      obtain rfl : q = 0 := by simpa using hr.symm
      rw [if_pos rfl, cItems_back f (by omega) is 63 [] hz0.1 (by omega) hz0.2.2 (.inl rfl)]
      rfl
    | cons js r =>
      have hq0 : q ≠ 0 := by rintro rfl; simp at hr
      rw [if_neg (by simp), cItems_back f (by omega) is 63 _ hz0.1 (by omega) hz0.2.2 (.inr rfl)]
      dsimp only
      rw [if_neg hq0]
      have hz1 := fault_parts (hz 1 js rfl)
      have hne : headB blankP (lineT (js :: r)) = false := by
        rw [lineT_cons]
        have := (fieldT_ne (show f + 1 < 5 by omega) hz1.1 hz1.2.2 (if r = [] then [] else 32 :: lineT r)).1
        cases hc : fieldT js ++ (if r = [] then [] else 32 :: lineT r) with
        | nil => rfl
        | cons c m =>
          rw [hc] at this
          have this : (blankP c || c == 64) = false := this
          rw [Bool.or_eq_false_iff] at this
          exact this.1
      have hb : cBetween (32 :: lineT (js :: r)) = .ok ((), lineT (js :: r)) := by
        unfold cBetween
        have h2 : (32 :: lineT (js :: r)).takeWhile blankP ≠ [] := by
          rw [List.takeWhile_cons, if_pos (by decide)]; simp
        rw [if_neg h2, List.dropWhile_cons, if_pos (by decide)]
        have := (take_app (p := blankP) (d := []) (l := lineT (js :: r)) (by simp) hne).2
        rw [List.nil_append] at this
        rw [this]
      rw [hb]
      dsimp only
      rw [cFields_back q (f + 1) (js :: r) (by omega) (by simpa using hr) (fun j x hx => by
        have := hz (j + 1) x (by simpa using hx)
        rwa [show f + (j + 1) = f + 1 + j from by omega] at this)]
theorem cRead_back (r : List (List It)) (hr : r.length = 5) (hz : ∀ j is, r[j]? = some is → faultI j is = 0) (hl : (lineT r).length ≤ 8192) : cRead (lineT r) = .ok (r, []) := by
  have hh : headB (fun c => blankP c || c == 64) (lineT r) = false := by
    cases r with
    | nil => simp at hr
    | cons is r =>
      have hz0 := fault_parts (hz 0 is rfl)
      rw [lineT_cons]
      exact (fieldT_ne (show 0 < 5 by omega) hz0.1 hz0.2.2 _).1
  have h1 : headB blankP (lineT r) = false ∧ headB (· == 64) (lineT r) = false := by
    cases hc : lineT r with
    | nil => exact ⟨rfl, rfl⟩
    | cons c m =>
      rw [hc] at hh
      have hh : (blankP c || c == 64) = false := hh
      rw [Bool.or_eq_false_iff] at hh
      exact hh
  have h2 : (lineT r).dropWhile blankP = lineT r := by
    have := (take_app (p := blankP) (d := []) (l := lineT r) (by simp) h1.1).2
    rwa [List.nil_append] at this
  unfold cRead
  rw [if_neg (by omega), h2, if_neg (by rw [h1.2]; simp)]
  unfold cTail
  rw [cFields_back 5 0 r (by omega) hr (fun j is h => by rw [Nat.zero_add]; exact hz j is h)]
  rfl
end Go.Proofs.YtochhmkdhdadhaaGreatDoor
