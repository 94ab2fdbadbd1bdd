/- What is read of the text of a line: plain. -/
import Derived.Test.YtochhmkdhdadhaaGreatWLex5
namespace Go.Proofs.YtochhmkdhdadhaaGreat
open Go.RowKit
set_option linter.unusedSimpArgs false
set_option linter.unusedVariables false

/-- What a reader hands back: a value and the bytes that are left, or what is wrong, and how many bytes were left there. -/
abbrev PR (α : Type) := Except (Nat × Int) (α × List UInt8)
/-- A byte that must be one of some. -/
def pIs (cs : List UInt8) : List UInt8 → Option (List UInt8)
  | [] => none
  | c :: l => if cs.elem c then some l else none
def pLack (l : List UInt8) : Int := if l = [] then 2 else 3
def pMust (cs l : List UInt8) : PR Unit := match pIs cs l with | some r => .ok ((), r) | none => .error (l.length, pLack l)
def pNum (most : Nat) (l : List UInt8) : PR Int :=
  if l.takeWhile digitP = [] then .error (l.length, pLack l) else if most < (l.takeWhile digitP).length then .error (l.length, 4) else .ok (numOf (l.takeWhile digitP), l.dropWhile digitP)
def lowerB (c : UInt8) : UInt8 := if 65 ≤ c.toNat ∧ c.toNat ≤ 90 then c + 32 else c
def lowerL (l : List UInt8) : List UInt8 := l.map lowerB
def monN : List (List UInt8) := [[106,97,110],[102,101,98],[109,97,114],[97,112,114],[109,97,121],[106,117,110],[106,117,108],[97,117,103],[115,101,112],[111,99,116],[110,111,118],[100,101,99]]
def dayN : List (List UInt8) := [[115,117,110],[109,111,110],[116,117,101],[119,101,100],[116,104,117],[102,114,105],[115,97,116]]
def cNames (f : Nat) : List (List UInt8) := if f = 3 then monN else if f = 4 then dayN else []
def headB (p : UInt8 → Bool) : List UInt8 → Bool
  | [] => false
  | c :: _ => p c
def wIdx (w : List UInt8) (l : List (List UInt8)) : Int := match l.idxOf? w with | some i => i | none => -1
def cNum (f : Nat) (l : List UInt8) : PR Int :=
  if cNames f ≠ [] ∧ headB letterP l = true then
    if wIdx (lowerL (l.takeWhile letterP)) (cNames f) < 0 then .error (l.length, 6) else .ok (cLo f + wIdx (lowerL (l.takeWhile letterP)) (cNames f), l.dropWhile letterP)
  else match pNum 2 l with
    | .ok (n, r) => if n < cLo f ∨ cHi f < n then .error (l.length, 4) else .ok (n, r)
    | .error e => .error e
def cStep (l : List UInt8) : PR Int := match pNum 3 l with
  | .ok (n, r) => if n = 0 then .error (l.length, 4) else .ok (n, r)
  | .error e => .error e
/-- A step, if a slash stands there. -/
def cBy (i : It) (l : List UInt8) : PR It := match pIs [47] l with
  | none => .ok (i, l)
  | some l2 => match cStep l2 with
    | .ok (n, r) => .ok ({ i with s := n }, r)
    | .error e => .error e
def cItem (f : Nat) (l : List UInt8) : PR It := match pIs [42] l with
  | some l1 => cBy ⟨0, 0, 0, 1⟩ l1
  | none => match cNum f l with
    | .error e => .error e
    | .ok (n, l1) => match pIs [45] l1 with
      | none => .ok (⟨1, n, 0, 0⟩, l1)
      | some l2 => match cNum f l2 with
        | .error e => .error e
        | .ok (m, l3) => if m < n then .error (l2.length, 4) else cBy ⟨2, n, m, 1⟩ l3
/-- Items, at most q + 1 of them. -/
def cItems (f : Nat) : Nat → List UInt8 → PR (List It)
  | q, l => match cItem f l with
    | .error e => .error e
    | .ok (i, l1) => match pIs [44] l1 with
      | none => .ok ([i], l1)
      | some l2 => match q with
        | 0 => .error (l1.length, 5)
        | q + 1 => match cItems f q l2 with
          | .error e => .error e
          | .ok (is, l3) => .ok (i :: is, l3)
termination_by q => q
/-- The blanks between two fields. -/
def cBetween (l : List UInt8) : PR Unit := if l.takeWhile blankP = [] then .error (l.length, pLack l) else .ok ((), l.dropWhile blankP)
/-- The fields from f on. -/
def cFields : Nat → Nat → List UInt8 → PR (List (List It))
  | 0, _, l => .ok ([], l)
  | q + 1, f, l => match cItems f 63 l with
    | .error e => .error e
    | .ok (is, l1) => if q = 0 then .ok ([is], l1) else match cBetween l1 with
      | .error e => .error e
      | .ok (_, l2) => match cFields q (f + 1) l2 with
        | .error e => .error e
        | .ok (r, l3) => .ok (is :: r, l3)
def cTail (l : List UInt8) : PR (List (List It)) := match cFields 5 0 l with
  | .error e => .error e
  | .ok (r, l1) => if l1.dropWhile blankP = [] then .ok (r, []) else .error ((l1.dropWhile blankP).length, 3)
/-- What is read of a text. -/
def cRead (l : List UInt8) : PR (List (List It)) :=
  if 8192 < l.length then .error (l.length - 8192, 5) else if headB (· == 64) (l.dropWhile blankP) = true then .error ((l.dropWhile blankP).length, 13) else cTail (l.dropWhile blankP)
/-- What is read is such, and what is left is an end of the text; what is wrong has a number, and lies in the text. -/
def Good {α : Type} (p : PR α) (l : List UInt8) (Q : α → Prop) : Prop := match p with
  | .ok (x, r) => r <:+ l ∧ Q x
  | .error (m, c) => m ≤ l.length ∧ c ≠ 0
section
variable {α : Type} {l l' : List UInt8} {Q R : α → Prop}
theorem Good.ok {x : α} {r : List UInt8} (h : r <:+ l) (q : Q x) : Good (.ok (x, r)) l Q := ⟨h, q⟩
theorem Good.err {m : Nat} {c : Int} (h : m ≤ l.length) (q : c ≠ 0) : Good (.error (m, c) : PR α) l Q := ⟨h, q⟩
theorem Good.mono {p : PR α} (h : Good p l Q) (hl : l <:+ l') (hq : ∀ x, Q x → R x) : Good p l' R := by
  unfold Good at *
  split
  · exact ⟨h.1.trans hl, hq _ h.2⟩
  · exact ⟨Nat.le_trans h.1 hl.length_le, h.2⟩
theorem Good.error {p : PR α} {e : Nat × Int} (h : Good p l Q) (he : p = .error e) : e.1 ≤ l.length ∧ e.2 ≠ 0 := by
  subst he; exact h
theorem Good.of_ok {p : PR α} {x : α} {r : List UInt8} (h : Good p l Q) (he : p = .ok (x, r)) : r <:+ l ∧ Q x := by
  subst he; exact h
end
theorem pLack_ne (l : List UInt8) : pLack l ≠ 0 := by unfold pLack; split <;> decide
theorem pIs_some {cs l r : List UInt8} (h : pIs cs l = some r) : ∃ c, l = c :: r ∧ cs.elem c = true := by
  unfold pIs at h
  split at h
  · cases h
  · split at h
    · cases h; exact ⟨_, rfl, by assumption⟩
    · cases h
theorem pIs_suf {cs l r : List UInt8} (h : pIs cs l = some r) : r <:+ l := by
  obtain ⟨c, rfl, _⟩ := pIs_some h
  exact List.suffix_cons _ _
theorem pIs_lt {cs l r : List UInt8} (h : pIs cs l = some r) : r.length < l.length := by
  obtain ⟨c, rfl, _⟩ := pIs_some h
  simp
theorem drop_suf (p : UInt8 → Bool) (l : List UInt8) : l.dropWhile p <:+ l := List.dropWhile_suffix p
theorem all_take (p : UInt8 → Bool) (l : List UInt8) : ∀ c ∈ l.takeWhile p, p c = true := by
  induction l with
  | nil => simp
  | cons a l ih =>
    intro x hx
    rw [List.takeWhile_cons] at hx
    split at hx
    · simp only [List.mem_cons] at hx
      rcases hx with rfl | hx
      · assumption
      · exact ih x hx
    · simp at hx
theorem numOf_le (l : List UInt8) (h : ∀ c ∈ l, digitP c = true) (a : Int) (ha : 0 ≤ a) :
    0 ≤ l.foldl (fun n (c : UInt8) => 10 * n + ((c.toNat : Int) - 48)) a ∧ l.foldl (fun n (c : UInt8) => 10 * n + ((c.toNat : Int) - 48)) a < (a + 1) * 10 ^ l.length := by
  induction l generalizing a with
  | nil => simp; omega
  | cons c l ih =>
    have h2 := h c (by simp)
    simp only [digitP, decide_eq_true_eq] at h2
    have h3 := ih (fun c hc => h c (List.mem_cons_of_mem _ hc)) (10 * a + ((c.toNat : Int) - 48)) (by omega)
    rw [List.foldl_cons, List.length_cons, Int.pow_succ]
    refine ⟨h3.1, Int.lt_of_lt_of_le h3.2 ?_⟩
    have h4 : (0 : Int) ≤ 10 ^ l.length := Int.pow_nonneg (by decide)
    generalize (10 : Int) ^ l.length = q at h4 ⊢
    calc (10 * a + ((c.toNat : Int) - 48) + 1) * q ≤ ((a + 1) * 10) * q := Int.mul_le_mul_of_nonneg_right (by omega) h4
      _ = (a + 1) * (q * 10) := by rw [Int.mul_assoc, Int.mul_comm 10 q]
theorem numOf_lt (l : List UInt8) (h : ∀ c ∈ l, digitP c = true) : 0 ≤ numOf l ∧ numOf l < 10 ^ l.length := by
  have := numOf_le l h 0 (by decide)
  simpa [numOf] using this
theorem pow_mono {a b : Nat} (h : a ≤ b) : (10 : Int) ^ a ≤ 10 ^ b := by
  have : (10 : Nat) ^ a ≤ 10 ^ b := Nat.pow_le_pow_right (by decide) h
  exact_mod_cast this
theorem pNum_good (most : Nat) (l : List UInt8) : Good (pNum most l) l (fun n => 0 ≤ n ∧ n < 10 ^ most) := by
  unfold pNum
  have hb := numOf_lt _ (all_take digitP l)
  split
  · exact .err (Nat.le_refl _) (pLack_ne l)
  · split
    · exact .err (Nat.le_refl _) (by decide)
    · exact .ok (drop_suf _ _) ⟨hb.1, Int.lt_of_lt_of_le hb.2 (pow_mono (by omega))⟩
theorem wIdx_lt (w : List UInt8) (l : List (List UInt8)) : wIdx w l < l.length := by
  unfold wIdx
  split
  · rename_i i h
    rw [List.idxOf?_eq_some_iff] at h
    have := h.1; omega
  · omega
theorem cNum_good (f : Nat) (l : List UInt8) : Good (cNum f l) l (fun n => cLo f ≤ n ∧ n ≤ cHi f) := by
  unfold cNum
  have hg := pNum_good 2 l
  split
  · rename_i h
    split
    · exact .err (Nat.le_refl _) (by decide)
    · refine .ok (drop_suf _ _) ⟨by omega, ?_⟩
      have hx := wIdx_lt (lowerL (l.takeWhile letterP)) (cNames f)
      have h1 : cNames f ≠ [] := h.1
      unfold cNames at h1 hx ⊢
      split at h1
      · rename_i h3; subst h3
        rw [if_pos rfl] at hx ⊢
        have : monN.length = 12 := rfl
        have a : cLo 3 = 1 := rfl
        have b : cHi 3 = 12 := rfl
        show cLo 3 + _ ≤ cHi 3
        omega
      · split at h1
        · rename_i h3 h4; subst h4
          rw [if_neg (by decide), if_pos rfl] at hx ⊢
          have : dayN.length = 7 := rfl
          have a : cLo 4 = 0 := rfl
          have b : cHi 4 = 7 := rfl
          show cLo 4 + _ ≤ cHi 4
          omega
        · exact absurd rfl h1
  · split
    · rename_i n r h
      rw [h] at hg
      split
      · exact .err (Nat.le_refl _) (by decide)
      · exact .ok hg.1 (by omega)
    · rename_i e h
      rw [h] at hg
      exact hg
theorem cStep_good (l : List UInt8) : Good (cStep l) l (fun n => 1 ≤ n ∧ n ≤ 999) := by
  unfold cStep
  have hg := pNum_good 3 l
  split
  · rename_i n r h
    rw [h] at hg
    have := hg.2
    split
    · exact .err (Nat.le_refl _) (by decide)
    · exact .ok hg.1 (by omega)
  · rename_i e h
    rw [h] at hg; exact hg
theorem cBy_good (i : It) (l : List UInt8) : Good (cBy i l) l (fun j => j.k = i.k ∧ j.f = i.f ∧ j.t = i.t ∧ (j.s = i.s ∨ 1 ≤ j.s ∧ j.s ≤ 999)) := by
  unfold cBy
  split
  · exact .ok (List.suffix_refl _) ⟨rfl, rfl, rfl, .inl rfl⟩
  · rename_i l2 h
    have hg := cStep_good l2
    have hs := pIs_suf h
    split
    · rename_i n r h
      rw [h] at hg
      exact .ok (hg.1.trans hs) ⟨rfl, rfl, rfl, .inr hg.2⟩
    · rename_i e h
      rw [h] at hg; exact ⟨Nat.le_trans hg.1 hs.length_le, hg.2⟩
theorem cBounds (f : Nat) (hf : f < 5) : 0 ≤ cLo f ∧ cLo f ≤ cHi f ∧ cHi f ≤ 9999 := by
  obtain rfl | rfl | rfl | rfl | rfl : f = 0 ∨ f = 1 ∨ f = 2 ∨ f = 3 ∨ f = 4 := by omega
  all_goals decide
theorem cItem_good (f : Nat) (hf : f < 5) (l : List UInt8) : Good (cItem f l) l (fun i => i.k ≠ 3 ∧ MayP i (cLo f) (cHi f)) := by
  have hb := cBounds f hf
  unfold cItem
  split
  · rename_i l1 h
    exact (cBy_good _ l1).mono (pIs_suf h) (by intro x hx; obtain ⟨a1, a2, a3, a4⟩ := hx; dsimp only at a1 a2 a3 a4; exact ⟨by omega, hb.1, hb.2.1, hb.2.2, .inl ⟨a1, a2, a3, by omega, by omega⟩⟩)
  · have hg := cNum_good f l
    split
    · rename_i e h
      rw [h] at hg; exact hg
    · rename_i n l1 h
      rw [h] at hg
      split
      · exact .ok hg.1 ⟨by simp, hb.1, hb.2.1, hb.2.2, .inr (.inl ⟨rfl, hg.2.1, hg.2.2, rfl, rfl⟩)⟩
      · rename_i l2 h2
        have hs : l2 <:+ l := (pIs_suf h2).trans hg.1
        have hg2 := cNum_good f l2
        split
        · rename_i e h3
          rw [h3] at hg2; exact ⟨Nat.le_trans hg2.1 hs.length_le, hg2.2⟩
        · rename_i m l3 h3
          rw [h3] at hg2
          split
          · exact .err hs.length_le (by decide)
          · have a1 := hg.2
            have a2 := hg2.2
            exact (cBy_good _ l3).mono (hg2.1.trans hs) (by intro x hx; obtain ⟨b1, b2, b3, b4⟩ := hx; dsimp only at b1 b2 b3 b4; exact ⟨by omega, hb.1, hb.2.1, hb.2.2, .inr (.inr (.inl ⟨b1, by omega, by omega, by omega, by omega, by omega, by omega, by omega⟩))⟩)
theorem cItems_good (f : Nat) (hf : f < 5) (q : Nat) (l : List UInt8) : Good (cItems f q l) l (fun is => 1 ≤ is.length ∧ is.length ≤ q + 1 ∧ ∀ i ∈ is, i.k ≠ 3 ∧ MayP i (cLo f) (cHi f)) := by
  induction q generalizing l with
  | zero =>
    unfold cItems
    have hg := cItem_good f hf l
    split
    · rename_i e h
      rw [h] at hg; exact hg
    · rename_i i l1 h
      rw [h] at hg
      split
      · exact .ok hg.1 ⟨by simp, by simp, by simpa using hg.2⟩
      · exact .err hg.1.length_le (by decide)
  | succ q ih =>
    unfold cItems
    have hg := cItem_good f hf l
    split
    · rename_i e h
      rw [h] at hg; exact hg
    · rename_i i l1 h
      rw [h] at hg
      split
      · exact .ok hg.1 ⟨by simp, by simp, by simpa using hg.2⟩
      · rename_i l2 h2
        have hs : l2 <:+ l := (pIs_suf h2).trans hg.1
        have hg2 := ih l2
        simp only
        split
        · rename_i e h3
          rw [h3] at hg2; exact ⟨Nat.le_trans hg2.1 hs.length_le, hg2.2⟩
        · rename_i is l3 h3
          rw [h3] at hg2
          refine .ok (hg2.1.trans hs) ⟨by simp, by simp; exact hg2.2.2.1, ?_⟩
          intro j hj
          rcases List.mem_cons.1 hj with rfl | hj
          · exact hg.2
          · exact hg2.2.2.2 j hj
theorem faultI_zero {f : Nat} {is : List It} (h : 1 ≤ is.length ∧ is.length ≤ 64 ∧ ∀ i ∈ is, i.k ≠ 3 ∧ MayP i (cLo f) (cHi f)) : faultI f is = 0 := by
  unfold faultI
  have : is.any (fun i => i.k == 3 || !mayIt i (cLo f) (cHi f)) = false := by
    rw [List.any_eq_false]
    intro x hx
    have h3 := h.2.2 x hx
    have : mayIt x (cLo f) (cHi f) = true := decide_eq_true h3.2
    rw [this]; simpa using h3.1
  rw [if_neg (by omega), if_neg (by omega), this]
  rfl
theorem cBetween_good (l : List UInt8) : Good (cBetween l) l (fun _ => True) := by
  unfold cBetween
  split
  · exact .err (Nat.le_refl _) (pLack_ne l)
  · exact .ok (drop_suf _ _) trivial
theorem cFields_good : ∀ (q f : Nat) (l : List UInt8), f + q ≤ 5 → Good (cFields q f l) l (fun r => r.length = q ∧ ∀ j is, r[j]? = some is → faultI (f + j) is = 0)
  | 0, f, l, _ => .ok (List.suffix_refl _) ⟨rfl, by simp⟩
  | q + 1, f, l, hq => by
    unfold cFields
    have hg := cItems_good f (by omega) 63 l
    split
    · rename_i e h
      rw [h] at hg; exact hg
    · rename_i is l1 h
      rw [h] at hg
      have hz := faultI_zero hg.2
      split
      · rename_i h0; subst h0
        refine .ok hg.1 ⟨rfl, ?_⟩
        intro j x hx
        rcases j with _ | j
        · simp at hx; subst hx; exact hz
        · simp at hx
      · have hg2 := cBetween_good l1
        split
        · rename_i e h2
          rw [h2] at hg2; exact ⟨Nat.le_trans hg2.1 hg.1.length_le, hg2.2⟩
        · rename_i l2 h2
          rw [h2] at hg2
          have hg3 := cFields_good q (f + 1) l2 (by omega)
          have hs := hg2.1.trans hg.1
          split
          · rename_i e h3
            rw [h3] at hg3; exact ⟨Nat.le_trans hg3.1 hs.length_le, hg3.2⟩
          · rename_i r l3 h3
            rw [h3] at hg3
            refine .ok (hg3.1.trans hs) ⟨by simp [hg3.2.1], ?_⟩
            intro j x hx
            rcases j with _ | j
            · simp at hx; subst hx; exact hz
            · have := hg3.2.2 j x (by simpa using hx)
              rwa [show f + 1 + j = f + (j + 1) from by omega] at this
theorem cTail_good (l : List UInt8) : Good (cTail l) l (fun r => r.length = 5 ∧ ∀ j is, r[j]? = some is → faultI j is = 0) := by
  unfold cTail
  have hg := cFields_good 5 0 l (by omega)
  split
  · rename_i e h
    rw [h] at hg; exact hg
  · rename_i r l1 h
    rw [h] at hg
    split
    · exact .ok (List.nil_suffix) ⟨hg.2.1, fun j is hj => by have := hg.2.2 j is hj; rwa [Nat.zero_add] at this⟩
    · exact .err (Nat.le_trans (drop_suf _ _).length_le hg.1.length_le) (by decide)
theorem cRead_good (l : List UInt8) : Good (cRead l) l (fun r => r.length = 5 ∧ ∀ j is, r[j]? = some is → faultI j is = 0) := by
  unfold cRead
  split
  · exact .err (by omega) (by decide)
  · split
    · exact .err (drop_suf _ _).length_le (by decide)
    · exact (cTail_good _).mono (drop_suf _ _) fun _ h => h
theorem cRead_end {l r : List UInt8} {x : List (List It)} (h : cRead l = .ok (x, r)) : r = [] := by
  unfold cRead at h
  split at h
  · cases h
  · split at h
    · cases h
    · unfold cTail at h
      split at h
      · cases h
      · split at h
        · cases h; rfl
        · cases h
end Go.Proofs.YtochhmkdhdadhaaGreat
