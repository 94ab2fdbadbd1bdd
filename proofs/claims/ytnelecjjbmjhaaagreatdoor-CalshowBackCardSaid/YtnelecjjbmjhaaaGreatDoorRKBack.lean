/- There and back: what is written of an event is read as that event: plain. -/
import Derived.Test.YtnelecjjbmjhaaaGreatDoorRCalMay
import Derived.Test.YtnelecjjbmjhaaaGreatDoorRBack
import Derived.Test.YtnelecjjbmjhaaaGreatDoorWCsD
namespace Go.Proofs.YtnelecjjbmjhaaaGreatDoor
open Go.RowKit
set_option linter.unusedSimpArgs false
set_option linter.unusedVariables false

/-- The reader ahead of l, nothing wrong. -/
abbrev at0 (l : List UInt8) (a : Int) : PS := ⟨l, a, 0⟩
section
variable {N : Nat} {a : Int} {l : List UInt8}
theorem is_at (c : UInt8) (l : List UInt8) (a : Int) : isP [c] (at0 (c :: l) a) = (at0 l a, true) := by
  unfold isP; rw [if_pos rfl, pIs_yes]
theorem is_not {c : UInt8} (h : headB (· == c) l = false) : isP [c] (at0 l a) = (at0 l a, false) := by
  unfold isP; rw [if_pos rfl, pIs_no h]
theorem must_at {cs : List UInt8} {c : UInt8} (h : cs.elem c = true) (l : List UInt8) : mustP N cs (at0 (c :: l) a) = (at0 l a, (c.toNat : Int)) := by
  have h1 : isP cs (at0 (c :: l) a) = (at0 l a, true) := by
    unfold isP; rw [if_pos rfl, pIs_cons, if_pos h]
  unfold mustP
  rw [h1]
  rfl
theorem text_at (l : List UInt8) (a : Int) : textP dots (at0 (46 :: 46 :: l) a) = (at0 l a, true) := by
  unfold textP
  rw [if_pos ⟨rfl, by decide, ⟨l, rfl⟩⟩]
  rfl
theorem text_not (h : headB (· == 46) l = false) : textP dots (at0 l a) = (at0 l a, false) := by
  unfold textP
  rw [if_neg]
  rintro ⟨_, _, t, ht⟩
  have ht : dots ++ t = l := ht
  rw [← ht] at h
  cases h
theorem rep_digit (m : Nat) (d : List UInt8) (h : ∀ c ∈ d, digitP c = true) : (∀ c ∈ List.replicate m (48 : UInt8) ++ d, digitP c = true) ∧ numOf (List.replicate m (48 : UInt8) ++ d) = numOf d := by
  refine ⟨?_, ?_⟩
  · intro c hc
    rcases List.mem_append.1 hc with hc | hc
    · rw [(List.mem_replicate.1 hc).2]; decide
    · exact h c hc
  · induction m with
    | zero => rfl
    | succ m ih =>
      rw [List.replicate_succ, List.cons_append]
      rw [← ih]
      rfl
theorem num_pad {most m u : Nat} (hm : m ≤ most) (h1 : 1 ≤ most) (hu : u < 10 ^ most) (hl : headB digitP l = false) : numP N most (at0 (padT m (u : Int) ++ l) a) = (at0 l a, (u : Int), true) := by
  obtain ⟨d1, d2, d3, d4⟩ := dec_digits u
  have h4 := d4 (most - 1) (by rw [show most - 1 + 1 = most by omega]; exact hu)
  have e : padT m (u : Int) = List.replicate (m - (Lib.decDigits u).length) 48 ++ Lib.decDigits u := by
    rw [padT_short (by omega), itoa_nat]
  obtain ⟨r1, r2⟩ := rep_digit (m - (Lib.decDigits u).length) _ d1
  rw [← e] at r1 r2
  obtain ⟨t1, t2⟩ := take_app r1 hl
  have hne : padT m (u : Int) ≠ [] := by rw [e]; simp [d3]
  have hlen : (padT m (u : Int)).length ≤ most := by rw [e, List.length_append, List.length_replicate]; omega
  have hz : numE most (padT m (u : Int) ++ l) = 0 := by
    unfold numE
    rw [t1, if_neg hne, if_neg (by omega)]
  unfold numP
  rw [if_pos rfl]
  simp only [hz, if_true, t1, t2, r2, d2]
theorem num_dec {most u : Nat} (h1 : 1 ≤ most) (hu : u < 10 ^ most) (hl : headB digitP l = false) : numP N most (at0 (Lib.itoa (u : Int) ++ l) a) = (at0 l a, (u : Int), true) := by
  have := num_pad (N := N) (a := a) (l := l) (m := 0) (Nat.zero_le _) h1 hu hl
  rwa [padT_long (Nat.zero_le _)] at this
/-- What may stand behind an item. -/
def Stop (l : List UInt8) : Prop := headB (fun c => digitP c || c == 46 || c == 47) l = false
theorem Stop.dig (h : Stop l) : headB digitP l = false := by
  cases l with
  | nil => rfl
  | cons c l => have h : (digitP c || c == 46 || c == 47) = false := h; simp at h; exact h.1.1
theorem Stop.dot (h : Stop l) : headB (· == 46) l = false := by
  cases l with
  | nil => rfl
  | cons c l => have h : (digitP c || c == 46 || c == 47) = false := h; show (c == 46) = false; simp at h ⊢; exact h.1.2
theorem Stop.sl (h : Stop l) : headB (· == 47) l = false := by
  cases l with
  | nil => rfl
  | cons c l => have h : (digitP c || c == 46 || c == 47) = false := h; show (c == 47) = false; simp at h ⊢; exact h.2
theorem numT_pad {f : Int} (h : f ≠ 0) (n : Int) : numT f n = padT (digT f) n := if_neg h
theorem knum_back {f : Int} (h1 : 1 ≤ f) (h6 : f ≤ 6) {n : Int} (hn : kLo f ≤ n ∧ n ≤ kHi f) (hl : headB digitP l = false) : knumP N f (at0 (numT f n ++ l) a) = (at0 l a, n) := by
  have hb := kBounds f (by omega) h6
  obtain ⟨u, rfl⟩ := Int.eq_ofNat_of_zero_le (show 0 ≤ n by omega)
  have hd : digs f = digT f := rfl
  have hu : u < 10 ^ digs f := by
    obtain rfl | rfl | rfl | rfl | rfl | rfl : f = 1 ∨ f = 2 ∨ f = 3 ∨ f = 4 ∨ f = 5 ∨ f = 6 := by omega
    all_goals (simp [kLo, kHi] at hn; simp [digs]; omega)
  have h := num_pad (N := N) (a := a) (l := l) (Nat.le_of_eq hd.symm) (by unfold digs; split <;> decide) hu hl
  unfold knumP
  rw [numT_pad (by omega), h]
  dsimp only
  rw [if_neg (by omega)]
theorem sub_not {f : Int} (h : headB (· == 46) l = false) : subP N f (at0 l a) = at0 l a := by
  unfold subP
  rw [if_neg]
  rintro ⟨_, h2, _⟩
  cases l with
  | nil => cases h2
  | cons c l =>
    have h : (c == 46) = false := h
    have h2 : ((c.toNat : Int)) = 46 := h2
    rw [beq_eq_false_iff_ne] at h
    apply h
    apply UInt8.toNat_inj.1
    have : (46 : UInt8).toNat = 46 := rfl
    omega
theorem sub_dots {f : Int} : subP N f (at0 (46 :: 46 :: l) a) = at0 (46 :: 46 :: l) a := by
  unfold subP
  rw [if_neg]
  rintro ⟨_, _, h⟩
  exact h ⟨l, rfl⟩
theorem dig47 : digitP 47 = false := by decide
theorem dig46 : digitP 46 = false := by decide
theorem kitem_back {f : Int} (h1 : 1 ≤ f) (h6 : f ≤ 6) {i : It} (h0 : i.k ≠ 0) (h : MayP i (kLo f) (kHi f)) (hl : Stop l) : kitemP N f (at0 (citT f i ++ l) a) = (at0 l a, i) := by
  obtain ⟨k, x, y, s⟩ := i
  obtain ⟨_, _, _, h⟩ := h
  dsimp only at h h0
  have step : ∀ (t : Int), 1 ≤ t → t ≤ 999 → numP N 3 (at0 (Lib.itoa t ++ l) a) = (at0 l a, t, true) := by
    intro t ht1 ht2
    obtain ⟨u, rfl⟩ := Int.eq_ofNat_of_zero_le (show 0 ≤ t by omega)
    exact num_dec (by decide) (by omega) hl.dig
  rcases h with ⟨rfl, _⟩ | ⟨rfl, p1, p2, rfl, rfl⟩ | ⟨rfl, p1, p2, p3, p4, p5, p6⟩ | ⟨rfl, p1, p2, rfl, p6⟩
  · exact absurd rfl h0
  · have e : citT f ⟨1, x, 0, 0⟩ = numT f x := rfl
    unfold kitemP kheadP
    rw [e, knum_back h1 h6 ⟨p1, p2⟩ hl.dig]
    dsimp only
    rw [sub_not hl.dot, text_not hl.dot]
    simp only [Bool.false_eq_true, if_false]
    rw [is_not hl.sl]
    simp only [Bool.false_eq_true, if_false]
  · have e : citT f ⟨2, x, y, s⟩ = numT f x ++ [46, 46] ++ numT f y ++ (if s = 1 then [] else 47 :: Lib.itoa s) := rfl
    unfold kitemP kheadP
    rw [e]
    simp only [List.append_assoc]
    rw [knum_back h1 h6 ⟨p1, p2⟩ (by exact dig46)]
    dsimp only
    rw [show ([46, 46] ++ (numT f y ++ ((if s = 1 then [] else 47 :: Lib.itoa s) ++ l)) : List UInt8) = 46 :: 46 :: (numT f y ++ ((if s = 1 then [] else 47 :: Lib.itoa s) ++ l)) from rfl]
    rw [sub_dots, text_at]
    simp only [if_true]
    by_cases hs : s = 1
    · subst hs
      rw [if_pos rfl, List.nil_append, knum_back h1 h6 ⟨p3, p4⟩ hl.dig]
      dsimp only
      rw [if_neg (show ¬ y < x by omega), sub_not hl.dot, is_not hl.sl]
      simp only [Bool.false_eq_true, if_false]
    · rw [if_neg hs, List.cons_append, knum_back h1 h6 ⟨p3, p4⟩ (by exact dig47)]
      dsimp only
      rw [if_neg (show ¬ y < x by omega), sub_not (by rfl), is_at]
      simp only [if_true]
      rw [step s (by omega) (by omega)]
      dsimp only
      rw [if_neg (by omega)]
      try rw [if_neg (by decide)]
  · have e : citT f ⟨3, x, 0, s⟩ = numT f x ++ 47 :: Lib.itoa s := rfl
    unfold kitemP kheadP
    rw [e, List.append_assoc, List.cons_append, knum_back h1 h6 ⟨p1, p2⟩ (by exact dig47)]
    dsimp only
    rw [sub_not (by rfl), text_not (by rfl)]
    simp only [Bool.false_eq_true, if_false]
    rw [is_at]
    simp only [if_true]
    rw [step s (by omega) (by omega)]
    dsimp only
    rw [if_neg (by omega)]
theorem wkNm_letters (k : Nat) : ∀ c ∈ wkNm k, letterP c = true := by
  intro c hc
  unfold wkNm at hc
  repeat' split at hc
  all_goals (simp at hc; rcases hc with rfl | rfl | rfl <;> decide)
theorem wkOf_nm {k : Nat} (hk : k < 7) : wkOf (wkNm k) = (k : Int) + 1 ∧ wkNm k ≠ [] := by
  obtain rfl | rfl | rfl | rfl | rfl | rfl | rfl : k = 0 ∨ k = 1 ∨ k = 2 ∨ k = 3 ∨ k = 4 ∨ k = 5 ∨ k = 6 := by omega
  all_goals exact ⟨by kernel_rfl, by decide⟩
theorem wk_back {n : Int} (h1 : 1 ≤ n) (h7 : n ≤ 7) (hl : headB letterP l = false) : wkP N (at0 (numT 0 n ++ l) a) = (at0 l a, n) := by
  obtain ⟨k, hk, rfl⟩ : ∃ k : Nat, k < 7 ∧ n = (k : Int) + 1 := ⟨n.toNat - 1, by omega, by omega⟩
  have e : numT 0 ((k : Int) + 1) = wkNm k := by show wdT _ = _; exact wdT_at hk
  obtain ⟨o1, o2⟩ := wkOf_nm hk
  obtain ⟨t1, t2⟩ := take_app (wkNm_letters k) hl
  have hs : someP letterP (at0 (wkNm k ++ l) a) = (at0 l a, wkNm k) := by
    unfold someP
    rw [if_pos rfl]
    simp only [t1, t2]
  unfold wkP
  rw [e, hs]
  dsimp only
  rw [if_neg o2, o1, if_neg (by omega)]
/-- What may stand behind an item of weekdays. -/
def StopW (l : List UInt8) : Prop := headB letterP l = false ∧ headB (· == 46) l = false
theorem days_back {m : Int} {i : It} (h : MayP i 1 7) (hk : kOdd 0 m i = false) (hl : StopW l) : daysP N (at0 (citT 0 i ++ l) a) = (at0 l a, i) := by
  obtain ⟨k, x, y, s⟩ := i
  obtain ⟨_, _, _, h⟩ := h
  unfold kOdd at hk
  rw [if_pos rfl, decide_eq_false_iff_not] at hk
  dsimp only at h hk
  rcases h with ⟨rfl, _⟩ | ⟨rfl, p1, p2, rfl, rfl⟩ | ⟨rfl, p1, p2, p3, p4, p5, p6⟩ | ⟨rfl, _⟩
  · exact absurd (.inl rfl) hk
  · have e : citT 0 ⟨1, x, 0, 0⟩ = numT 0 x := rfl
    unfold daysP
    rw [e, wk_back p1 p2 hl.1]
    dsimp only
    rw [text_not hl.2]
    simp only [Bool.false_eq_true, if_false]
  · obtain rfl : s = 1 := by omega
    have e : citT 0 ⟨2, x, y, 1⟩ = numT 0 x ++ [46, 46] ++ numT 0 y ++ [] := rfl
    unfold daysP
    rw [e, List.append_nil]
    simp only [List.append_assoc]
    rw [wk_back p1 p2 (by rfl)]
    dsimp only
    rw [show ([46, 46] ++ (numT 0 y ++ l) : List UInt8) = 46 :: 46 :: (numT 0 y ++ l) from rfl, text_at]
    simp only [if_true]
    rw [wk_back p3 p4 hl.1]
    dsimp only
    rw [if_neg (by omega)]
  · exact absurd (.inr (.inl rfl)) hk
theorem cfT_cons (f : Int) (i : It) (l : List It) : cfT f (i :: l) = citT f i ++ (if l = [] then [] else 44 :: cfT f l) := by
  unfold cfT
  rw [List.map_cons, Lib.join_cons]
  cases l with
  | nil => rfl
  | cons j l =>
    rw [if_neg (by simp), List.map_cons, Lib.join_cons]
    simp [Lib.joinTail]
theorem klist_back (f : Int) (one : PS → PS × It) (S : List UInt8 → Prop) (h44 : ∀ m, S (44 :: m)) : ∀ (is : List It) (q : Nat) (l : List UInt8), is ≠ [] → is.length ≤ q + 1 → (∀ i ∈ is, ∀ m, S m → one (at0 (citT f i ++ m) a) = (at0 m a, i)) → S l → headB (· == 44) l = false → klistP N one q (at0 (cfT f is ++ l) a) = (at0 l a, is)
  | [], _, _, h, _, _, _, _ => absurd rfl h
  | [i], q, l, _, hq, hi, hl, hn => by
    have e : cfT f [i] ++ l = citT f i ++ l := by rw [cfT_cons, if_pos rfl, List.append_nil]
    have h1 := hi i (by simp) l hl
    rw [e]
    cases q with
    | zero => unfold klistP; rw [h1]; dsimp only; rw [is_not hn]; dsimp only; rw [if_neg (by decide)]
    | succ q => unfold klistP; rw [h1]; dsimp only; rw [is_not hn]; dsimp only; rw [if_neg (by decide)]
  | i :: j :: is, q, l, _, hq, hi, hl, hn => by
    have e : cfT f (i :: j :: is) ++ l = citT f i ++ 44 :: (cfT f (j :: is) ++ l) := by rw [cfT_cons, if_neg (by simp), List.append_assoc, List.cons_append]
    have h1 := hi i (by simp) (44 :: (cfT f (j :: is) ++ l)) (h44 _)
    rw [e]
    cases q with
    | zero => simp at hq
    | succ q =>
      have ih := klist_back f one S h44 (j :: is) q l (by simp) (by simp at hq ⊢; omega) (fun i h => hi i (List.mem_cons_of_mem _ h)) hl hn
      unfold klistP
      rw [h1]
      dsimp only
      rw [is_at]
      dsimp only
      rw [if_pos rfl, ih]
end
theorem kfault_parts {f : Int} {l : List It} (h : kfault f l = 0) : (l = [] → f = 0) ∧ l.length ≤ kMost f ∧ ∀ i ∈ l, kOdd f (l.length : Int) i = false ∧ MayP i (kLo f) (kHi f) := by
  unfold kfault at h
  by_cases h0 : l.length = 0
  · rw [if_pos h0] at h
    obtain rfl : l = [] := List.length_eq_zero_iff.1 h0
    refine ⟨fun _ => ?_, Nat.zero_le _, fun i hi => absurd hi (by simp)⟩
    by_cases hf : f = 0
    · exact hf
    · rw [if_neg hf] at h; cases h
  · rw [if_neg h0] at h
    by_cases h1 : kMost f < l.length
    · rw [if_pos h1] at h; cases h
    · rw [if_neg h1] at h
      refine ⟨fun e => absurd (by rw [e]; rfl) h0, by omega, fun i hi => ?_⟩
      by_cases h2 : l.any (fun i => kOdd f (l.length : Int) i || !mayIt i (kLo f) (kHi f)) = true
      · rw [if_pos h2] at h; cases h
      · rw [Bool.not_eq_true, List.any_eq_false] at h2
        have := h2 i hi
        simp only [Bool.or_eq_true, Bool.not_eq_true', not_or, Bool.not_eq_true, Bool.not_eq_false] at this
        exact ⟨this.1, of_decide_eq_true this.2⟩
/-- The signs of a field's text. -/
def cfCh (c : UInt8) : Bool := c == 42 || c == 44 || c == 46 || c == 47 || digitP c
theorem padT_ch {m : Nat} {n : Int} (h : 0 ≤ n) : (∀ c ∈ padT m n, digitP c = true) ∧ padT m n ≠ [] := by
  obtain ⟨u, rfl⟩ := Int.eq_ofNat_of_zero_le h
  obtain ⟨d1, d2, d3, d4⟩ := dec_digits u
  rw [padT_short (by omega), itoa_nat]
  exact ⟨(rep_digit _ _ d1).1, by simp [d3]⟩
theorem numT_ch {f n : Int} (hf : f ≠ 0) (h : 0 ≤ n) : (∀ c ∈ numT f n, digitP c = true) ∧ numT f n ≠ [] := by
  rw [numT_pad hf]; exact padT_ch h
theorem itoa_ch {n : Int} (h : 0 ≤ n) : ∀ c ∈ Lib.itoa n, digitP c = true := by
  obtain ⟨u, rfl⟩ := Int.eq_ofNat_of_zero_le h
  rw [itoa_nat]; exact (dec_digits u).1
theorem dig_ch {c : UInt8} (h : digitP c = true) : cfCh c = true := by unfold cfCh; rw [h]; simp
theorem citT_ch {f : Int} (h1 : 1 ≤ f) (h6 : f ≤ 6) {i : It} (h : MayP i (kLo f) (kHi f)) : (∀ c ∈ citT f i, cfCh c = true) ∧ citT f i ≠ [] ∧ (i.k ≠ 0 → ∀ m, headB digitP (citT f i ++ m) = true) := by
  have hb := kBounds f (by omega) h6
  obtain ⟨k, x, y, s⟩ := i
  obtain ⟨_, _, _, h⟩ := h
  dsimp only at h
  have hd : ∀ (d m : List UInt8), d ≠ [] → (∀ c ∈ d, digitP c = true) → headB digitP (d ++ m) = true := by
    intro d m h1 h2
    cases d with
    | nil => exact absurd rfl h1
    | cons c d => exact h2 c (by simp)
  rcases h with ⟨rfl, _⟩ | ⟨rfl, p1, p2, rfl, rfl⟩ | ⟨rfl, p1, p2, p3, p4, p5, p6⟩ | ⟨rfl, p1, p2, rfl, p6⟩
  · have e : citT f ⟨0, x, y, s⟩ = [42] := rfl
    rw [e]
    exact ⟨by simp; decide, by simp, fun h => absurd rfl h⟩
  · have e : citT f ⟨1, x, 0, 0⟩ = numT f x := rfl
    obtain ⟨c1, c2⟩ := numT_ch (f := f) (n := x) (by omega) (by omega)
    rw [e]
    exact ⟨fun c hc => dig_ch (c1 c hc), c2, fun _ m => hd _ m c2 c1⟩
  · have e : citT f ⟨2, x, y, s⟩ = numT f x ++ [46, 46] ++ numT f y ++ (if s = 1 then [] else 47 :: Lib.itoa s) := rfl
    obtain ⟨c1, c2⟩ := numT_ch (f := f) (n := x) (by omega) (by omega)
    obtain ⟨d1, d2⟩ := numT_ch (f := f) (n := y) (by omega) (by omega)
    have g1 := itoa_ch (n := s) (by omega)
    rw [e]
    refine ⟨?_, by simp, fun _ m => by simp only [List.append_assoc]; exact hd _ _ c2 c1⟩
    intro c hc
    simp only [List.mem_append, List.mem_cons, List.not_mem_nil, or_false] at hc
    rcases hc with ((hc | hc | hc) | hc) | hc
    · exact dig_ch (c1 c hc)
    · subst hc; decide
    · subst hc; decide
    · exact dig_ch (d1 c hc)
    · split at hc
      · simp at hc
      · rcases List.mem_cons.1 hc with hc | hc
        · subst hc; decide
        · exact dig_ch (g1 c hc)
  · have e : citT f ⟨3, x, 0, s⟩ = numT f x ++ 47 :: Lib.itoa s := rfl
    obtain ⟨c1, c2⟩ := numT_ch (f := f) (n := x) (by omega) (by omega)
    have g1 := itoa_ch (n := s) (by omega)
    rw [e]
    refine ⟨?_, by simp, fun _ m => by simp only [List.append_assoc]; exact hd _ _ c2 c1⟩
    intro c hc
    simp only [List.mem_append, List.mem_cons] at hc
    rcases hc with hc | hc | hc
    · exact dig_ch (c1 c hc)
    · subst hc; decide
    · exact dig_ch (g1 c hc)
theorem cfT_ch {f : Int} (h1 : 1 ≤ f) (h6 : f ≤ 6) : ∀ {l : List It}, (∀ i ∈ l, MayP i (kLo f) (kHi f)) → ∀ c ∈ cfT f l, cfCh c = true
  | [], _ => by intro c hc; simp [cfT, Lib.join, List.intercalate] at hc
  | i :: l, h => by
    have h0 := citT_ch h1 h6 (h i (by simp))
    have ih := cfT_ch h1 h6 (l := l) (fun j hj => h j (List.mem_cons_of_mem _ hj))
    rw [cfT_cons]
    intro c hc
    rcases List.mem_append.1 hc with hc | hc
    · exact h0.1 c hc
    · split at hc
      · simp at hc
      · rcases List.mem_cons.1 hc with hc | hc
        · subst hc; decide
        · exact ih c hc
/-- A field's text is not empty, and begins with a digit or a star. -/
theorem cfT_head {f : Int} (h1 : 1 ≤ f) (h6 : f ≤ 6) {is : List It} (hn : is ≠ []) (h : ∀ i ∈ is, MayP i (kLo f) (kHi f)) (l : List UInt8) : ∃ c m, cfT f is ++ l = c :: m ∧ (c = 42 ∨ digitP c = true) := by
  cases is with
  | nil => exact absurd rfl hn
  | cons i is =>
    have h0 := citT_ch h1 h6 (h i (by simp))
    rw [cfT_cons, List.append_assoc]
    generalize (if is = [] then [] else 44 :: cfT f is) ++ l = m
    by_cases hk : i.k = 0
    · have e : citT f i = [42] := by unfold citT; rw [if_pos hk]
      rw [e]
      exact ⟨42, m, rfl, .inl rfl⟩
    · have := h0.2.2 hk m
      cases hc : citT f i ++ m with
      | nil => rw [hc] at this; cases this
      | cons c m' => rw [hc] at this; exact ⟨c, m', rfl, .inr this⟩
theorem kfield_back {N : Nat} {a : Int} {l : List UInt8} {f : Int} (h1 : 1 ≤ f) (h6 : f ≤ 6) {is : List It} (hn : is ≠ []) (h : kfault f is = 0) (hl : Stop l) (h44 : headB (· == 44) l = false) : kfieldP N f (at0 (cfT f is ++ l) a) = (at0 l a, is) := by
  obtain ⟨_, hlen, hi⟩ := kfault_parts h
  by_cases hk : ∃ i ∈ is, i.k = 0
  · obtain ⟨i, hm, hk⟩ := hk
    have ho := (hi i hm).1
    unfold kOdd at ho
    rw [if_neg (by omega), decide_eq_false_iff_not] at ho
    have hlen1 : is.length = 1 := by
      have : ¬ (1 : Int) < (is.length : Int) := fun x => ho ⟨hk, .inl x⟩
      have : is.length ≠ 0 := fun x => hn (List.length_eq_zero_iff.1 x)
      omega
    obtain ⟨j, rfl⟩ := List.length_eq_one_iff.1 hlen1
    obtain rfl : i = j := by simpa using hm
    obtain ⟨k, x, y, s⟩ := i
    have hmay := (hi ⟨k, x, y, s⟩ (by simp)).2
    obtain ⟨_, _, _, hmay⟩ := hmay
    dsimp only at hk hmay ho
    subst hk
    have hs : ¬ 1 < s := fun x => ho ⟨rfl, .inr x⟩
    rcases hmay with ⟨_, rfl, rfl, p1, p2⟩ | ⟨q, _⟩ | ⟨q, _⟩ | ⟨q, _⟩
    · obtain rfl : s = 1 := by omega
      have e : cfT f [⟨0, 0, 0, 1⟩] ++ l = 42 :: l := rfl
      unfold kfieldP
      rw [e, is_at]
      rfl
    · cases q
    · cases q
    · cases q
  · have hk : ∀ i ∈ is, i.k ≠ 0 := fun i hi h => hk ⟨i, hi, h⟩
    have hh : headB (· == 42) (cfT f is ++ l) = false := by
      cases is with
      | nil => exact absurd rfl hn
      | cons i is =>
        rw [cfT_cons, List.append_assoc]
        have := (citT_ch h1 h6 (hi i (by simp)).2).2.2 (hk i (by simp)) ((if is = [] then [] else 44 :: cfT f is) ++ l)
        cases hc : citT f i ++ ((if is = [] then [] else 44 :: cfT f is) ++ l) with
        | nil => rfl
        | cons c m =>
          rw [hc] at this
          have this : digitP c = true := this
          show (c == 42) = false
          rw [beq_eq_false_iff_ne]
          rintro rfl
          exact absurd this (by decide)
    unfold kfieldP
    rw [is_not hh]
    dsimp only
    rw [if_neg (by decide)]
    have hm : 1 ≤ kMost f := by unfold kMost; split <;> decide
    exact klist_back f (kitemP N f) Stop (fun m => by rfl) is (kMost f - 1) l hn (by omega) (fun i hmem m hm => kitem_back h1 h6 (hk i hmem) (hi i hmem).2 hm) hl h44
/-- The text of an event. -/
def dateT (c : CalV) : List UInt8 := cfT 1 c.year ++ 45 :: (cfT 2 c.month ++ (if c.back then 126 else 45) :: cfT 3 c.day)
def timeT (c : CalV) : List UInt8 := cfT 4 c.hour ++ 58 :: (cfT 5 c.minute ++ 58 :: cfT 6 c.second)
def evT (c : CalV) : List UInt8 := (if c.week = [] then [] else cfT 0 c.week ++ [32]) ++ (dateT c ++ 32 :: timeT c)
/-- What each field of an event that may be is. -/
theorem kchk_parts {c : CalV} (h : kchk c = (7, 0)) : ∀ f : Nat, f < 7 → kfault f (kget c f) = 0 := by
  intro f hf
  by_cases hall : ∀ j, j < f → kfault j (kget c j) = 0
  · by_cases h0 : kfault f (kget c f) = 0
    · exact h0
    · exfalso
      have key : ∀ (q : Nat), q ≤ 7 → 7 - q ≤ f → kchkN (kget c) q = ((f : Int), kfault f (kget c f)) := by
        intro q
        induction q with
        | zero => intro _ h2; omega
        | succ q ih =>
          intro hq h2
          unfold kchkN
          by_cases e : 6 - q = f
          · rw [e, if_neg h0]
          · rw [if_pos (hall _ (by omega))]
            exact ih (by omega) (by omega)
      have := key 7 (Nat.le_refl _) (by omega)
      have h2 : kchkN (kget c) 7 = (7, 0) := h
      rw [h2] at this
      injection this with a b
      omega
  · exfalso
    apply hall
    intro j hj
    exact kchk_parts h j (by omega)
theorem ch_no {c : UInt8} (h : cfCh c = true) : c ≠ 32 ∧ c ≠ 45 ∧ c ≠ 126 ∧ c ≠ 58 := by
  refine ⟨?_, ?_, ?_, ?_⟩
  all_goals (rintro rfl; revert h; decide)
theorem head_peek {c : UInt8} (h : c = 42 ∨ digitP c = true) (m : List UInt8) (a : Int) : peekP (at0 (c :: m) a) ≠ 0 ∧ ltrI (peekP (at0 (c :: m) a)) = false := by
  have e : peekP (at0 (c :: m) a) = (c.toNat : Int) := rfl
  have hb : 42 ≤ c.toNat ∧ c.toNat ≤ 57 := by
    rcases h with rfl | h
    · decide
    · simp only [digitP, decide_eq_true_eq] at h; omega
  rw [e]
  refine ⟨by omega, ?_⟩
  unfold ltrI
  exact decide_eq_false (by omega)
theorem kread_back {c : CalV} (h : kchk c = (7, 0)) (hlen : (evT c).length ≤ 8192) : kread (evT c) = .ok c := by
  have hp := kchk_parts h
  have m0 : kfault 0 c.week = 0 := hp 0 (by decide)
  have m1 : kfault 1 c.year = 0 := hp 1 (by decide)
  have m2 : kfault 2 c.month = 0 := hp 2 (by decide)
  have m3 : kfault 3 c.day = 0 := hp 3 (by decide)
  have m4 : kfault 4 c.hour = 0 := hp 4 (by decide)
  have m5 : kfault 5 c.minute = 0 := hp 5 (by decide)
  have m6 : kfault 6 c.second = 0 := hp 6 (by decide)
  have n1 : c.year ≠ [] := fun e => absurd ((kfault_parts m1).1 e) (by decide)
  have n2 : c.month ≠ [] := fun e => absurd ((kfault_parts m2).1 e) (by decide)
  have n3 : c.day ≠ [] := fun e => absurd ((kfault_parts m3).1 e) (by decide)
  have n4 : c.hour ≠ [] := fun e => absurd ((kfault_parts m4).1 e) (by decide)
  have n5 : c.minute ≠ [] := fun e => absurd ((kfault_parts m5).1 e) (by decide)
  have n6 : c.second ≠ [] := fun e => absurd ((kfault_parts m6).1 e) (by decide)
  have i1 := fun i hi => ((kfault_parts m1).2.2 i hi).2
  have i2 := fun i hi => ((kfault_parts m2).2.2 i hi).2
  have i3 := fun i hi => ((kfault_parts m3).2.2 i hi).2
  have i4 := fun i hi => ((kfault_parts m4).2.2 i hi).2
  have i5 := fun i hi => ((kfault_parts m5).2.2 i hi).2
  have i6 := fun i hi => ((kfault_parts m6).2.2 i hi).2
  have c1 := cfT_ch (by decide) (by decide) i1
  have c2 := cfT_ch (by decide) (by decide) i2
  have c3 := cfT_ch (by decide) (by decide) i3
  have c4 := cfT_ch (by decide) (by decide) i4
  have c5 := cfT_ch (by decide) (by decide) i5
  have c6 := cfT_ch (by decide) (by decide) i6
  have d32 : ∀ x ∈ dateT c, decide (x ≠ 32) = true := by
    intro x hx
    unfold dateT at hx
    simp only [List.mem_append, List.mem_cons] at hx
    rcases hx with hx | rfl | hx | hx | hx
    · simp [(ch_no (c1 x hx)).1]
    · decide
    · simp [(ch_no (c2 x hx)).1]
    · subst hx; split <;> decide
    · simp [(ch_no (c3 x hx)).1]
  have t32 : ∀ x ∈ timeT c, x ≠ 32 ∧ x ≠ 45 ∧ x ≠ 126 := by
    intro x hx
    unfold timeT at hx
    simp only [List.mem_append, List.mem_cons] at hx
    rcases hx with hx | rfl | hx | rfl | hx
    · have := ch_no (c4 x hx); exact ⟨this.1, this.2.1, this.2.2.1⟩
    · decide
    · have := ch_no (c5 x hx); exact ⟨this.1, this.2.1, this.2.2.1⟩
    · decide
    · have := ch_no (c6 x hx); exact ⟨this.1, this.2.1, this.2.2.1⟩
  have w1 : ∀ a, wordP (at0 (dateT c ++ 32 :: timeT c) a) = dateT c := by
    intro a
    unfold wordP
    rw [if_pos rfl]
    exact (take_app d32 rfl).1
  have w2 : ∀ a, wordP (at0 (timeT c) a) = timeT c := by
    intro a
    unfold wordP
    rw [if_pos rfl]
    have := (take_app (p := fun c => decide (c ≠ 32)) (d := timeT c) (l := []) (fun x hx => by simp [(t32 x hx).1]) rfl).1
    rwa [List.append_nil] at this
  have g1 : dashed (dateT c) = true := by
    unfold dashed
    rw [List.any_eq_true]
    exact ⟨45, by unfold dateT; simp, by decide⟩
  have g2 : dashed (timeT c) = false := by
    unfold dashed
    rw [List.any_eq_false]
    intro x hx
    have := t32 x hx
    simp [this.2.1, this.2.2]
  have g3 : 1 < dashes (dateT c) := by
    unfold dashes dateT
    simp only [List.count_append, List.count_cons]
    cases c.back <;> simp <;> omega
  have hd : ∀ N a (e : CalV), kdateP N e (at0 (dateT c ++ 32 :: timeT c) a) = (at0 (32 :: timeT c) a, { e with year := c.year, month := c.month, back := c.back, day := c.day }) := by
    intro N a e
    unfold kdateP
    rw [w1, if_pos g3]
    dsimp only
    unfold dateT
    simp only [List.append_assoc, List.cons_append]
    rw [kfield_back (by decide) (by decide) n1 m1 (by rfl) (by rfl)]
    dsimp only
    rw [must_at (by decide)]
    dsimp only
    rw [kfield_back (by decide) (by decide) n2 m2 (by cases c.back <;> rfl) (by cases c.back <;> rfl)]
    dsimp only
    rw [must_at (by cases c.back <;> decide)]
    dsimp only
    rw [kfield_back (by decide) (by decide) n3 m3 (by rfl) (by rfl)]
    cases c.back <;> rfl
  have ht : ∀ N a (e : CalV), ktimeP N e (at0 (timeT c) a) = (at0 [] a, { e with hour := c.hour, minute := c.minute, second := c.second }) := by
    intro N a e
    unfold ktimeP
    dsimp only
    unfold timeT
    rw [kfield_back (by decide) (by decide) n4 m4 (by rfl) (by rfl)]
    dsimp only
    rw [must_at (by decide)]
    dsimp only
    rw [kfield_back (by decide) (by decide) n5 m5 (by rfl) (by rfl)]
    dsimp only
    rw [is_at]
    dsimp only
    rw [if_pos rfl]
    have := kfield_back (N := N) (a := a) (l := []) (f := 6) (by decide) (by decide) n6 m6 (by rfl) (by rfl)
    rw [List.append_nil] at this
    rw [this]
  have hdt : ∃ x m, dateT c ++ 32 :: timeT c = x :: m ∧ (x = 42 ∨ digitP x = true) := by
    unfold dateT
    rw [List.append_assoc]
    exact cfT_head (by decide) (by decide) n1 i1 _
  have htt : ∃ x m, timeT c = x :: m ∧ (x = 42 ∨ digitP x = true) := by
    unfold timeT
    exact cfT_head (by decide) (by decide) n4 i4 _
  obtain ⟨xd, md, ed, hxd⟩ := hdt
  obtain ⟨xt, mt, et, hxt⟩ := htt
  have pd := fun a => head_peek hxd md a
  have pt := fun a => head_peek hxt mt a
  have next1 : ∀ N a, knextP N (at0 (32 :: timeT c) a) = (at0 (timeT c) a, true) := by
    intro N a
    unfold knextP
    rw [must_at (by decide)]
    rfl
  have next2 : ∀ N a, knextP N (at0 [] a) = (at0 [] a, false) := fun N a => rfl
  have hw : ∀ N a (e : CalV), kwordsP N 2 false false e (at0 (dateT c ++ 32 :: timeT c) a) = (at0 [] a, { e with year := c.year, month := c.month, back := c.back, day := c.day, hour := c.hour, minute := c.minute, second := c.second }) := by
    intro N a e
    unfold kwordsP
    rw [if_neg (by
      rw [ed]
      rintro (h | h | h | h)
      · exact (pd a).1 h
      · rw [(pd a).2] at h; cases h
      · cases h
      · cases h.1)]
    rw [w1, if_pos g1, hd]
    dsimp only
    rw [next1]
    dsimp only
    rw [if_pos rfl]
    unfold kwordsP
    rw [if_neg (by
      rw [w2, g2]
      rw [et]
      rintro (h | h | h | h)
      · exact (pt a).1 h
      · rw [(pt a).2] at h; cases h
      · cases h
      · cases h.2)]
    rw [w2, g2, if_neg (by decide), ht]
    dsimp only
    rw [next2]
    rfl
  have hfill : ∀ e : CalV, e.week = c.week → kfill { e with year := c.year, month := c.month, back := c.back, day := c.day, hour := c.hour, minute := c.minute, second := c.second } = c := by
    intro e he
    unfold kfill orL
    dsimp only
    rw [if_neg n1, if_neg n2, if_neg n3, if_neg n4, if_neg n5, if_neg n6, he]
  have hnick : knick (evT c) = [] := by
    have h32 : (32 : UInt8) ∈ lowerL (evT c) := by
      unfold lowerL
      rw [List.mem_map]
      exact ⟨32, by unfold evT; simp, by decide⟩
    have hno : ∀ p ∈ knicks, decide (lowerL (evT c) = p.1) = false := by
      intro p hp
      rw [decide_eq_false_iff_not]
      intro e
      rw [e] at h32
      have : ∀ p ∈ knicks, (32 : UInt8) ∉ p.1 := by decide
      exact this p hp h32
    unfold knick
    rw [List.find?_eq_none.2 (fun p hp => by rw [hno p hp]; decide)]
  have hall : ∀ N, (kallP N (at0 (evT c) 0)).1.e = 0 ∧ kfill (kallP N (at0 (evT c) 0)).2 = c := by
    intro N
    unfold kallP
    by_cases hwk : c.week = []
    · have e : evT c = dateT c ++ 32 :: timeT c := by unfold evT; rw [if_pos hwk, List.nil_append]
      rw [e]
      rw [show ltrI (peekP (at0 (dateT c ++ 32 :: timeT c) 0)) = false by rw [ed]; exact (pd 0).2]
      rw [if_neg (by decide), hw]
      exact ⟨rfl, hfill _ hwk.symm⟩
    · have e : evT c = cfT 0 c.week ++ 32 :: (dateT c ++ 32 :: timeT c) := by unfold evT; rw [if_neg hwk, List.append_assoc]; rfl
      obtain ⟨_, hl0, hi0⟩ := kfault_parts m0
      have hpk : ltrI (peekP (at0 (cfT 0 c.week ++ 32 :: (dateT c ++ 32 :: timeT c)) 0)) = true := by
        cases hc : c.week with
        | nil => exact absurd hc hwk
        | cons i is =>
          rw [hc] at hi0
          obtain ⟨q1, q2⟩ := hi0 i (by simp)
          obtain ⟨k, x, y, s⟩ := i
          unfold kOdd at q1
          rw [if_pos rfl, decide_eq_false_iff_not] at q1
          obtain ⟨_, _, _, q2⟩ := q2
          dsimp only at q1 q2
          have key : 1 ≤ x → x ≤ 7 → ∀ m, ltrI (peekP (at0 (numT 0 x ++ m) 0)) = true := by
            intro h1 h7 m
            obtain rfl | rfl | rfl | rfl | rfl | rfl | rfl : x = 1 ∨ x = 2 ∨ x = 3 ∨ x = 4 ∨ x = 5 ∨ x = 6 ∨ x = 7 := by omega
            all_goals rfl
          rw [cfT_cons]
          rcases q2 with ⟨rfl, _⟩ | ⟨rfl, p1, p2, rfl, rfl⟩ | ⟨rfl, p1, p2, p3, p4, p5, p6⟩ | ⟨rfl, _⟩
          · exact absurd (.inl rfl) q1
          · have e : citT 0 ⟨1, x, 0, 0⟩ = numT 0 x := rfl
            rw [e, List.append_assoc]
            exact key p1 p2 _
          · have e : citT 0 ⟨2, x, y, s⟩ = numT 0 x ++ [46, 46] ++ numT 0 y ++ (if s = 1 then [] else 47 :: Lib.itoa s) := rfl
            rw [e]
            simp only [List.append_assoc]
            exact key p1 p2 _
          · exact absurd (.inr (.inl rfl)) q1
      rw [e, if_pos hpk]
      have hkl := klist_back (N := N) (a := 0) 0 (daysP N) StopW (fun m => ⟨by rfl, by rfl⟩) c.week 63 (32 :: (dateT c ++ 32 :: timeT c)) hwk (by simpa [kMost] using hl0) (fun i hi m hm => days_back (hi0 i hi).2 (hi0 i hi).1 hm) ⟨by rfl, by rfl⟩ (by rfl)
      dsimp only
      rw [hkl]
      dsimp only
      have hnx : knextP N (at0 (32 :: (dateT c ++ 32 :: timeT c)) 0) = (at0 (dateT c ++ 32 :: timeT c) 0, true) := by
        unfold knextP
        rw [must_at (by decide)]
        rfl
      rw [hnx]
      dsimp only
      rw [if_pos rfl, hw]
      exact ⟨rfl, hfill _ rfl⟩
  unfold kread
  rw [if_pos hnick]
  dsimp only
  have hnew : kpsNew (evT c) = at0 (evT c) 0 := by
    unfold kpsNew
    rw [if_neg (by omega), if_neg (by omega)]
  rw [hnew]
  obtain ⟨q1, q2⟩ := hall (evT c).length
  rw [if_pos q1, q2]
end Go.Proofs.YtnelecjjbmjhaaaGreatDoor
