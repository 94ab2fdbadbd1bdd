/- Plain functions that answer as the Go functions do: numbers and lists alone, no program. -/
import Derived.Test.YthkleinjddkhoaaAid
namespace Go.Proofs.Ythkleinjddkhoaa
open Go.RowKit
set_option linter.unusedSimpArgs false
set_option linter.unusedVariables false

def okStep (s : Int) : Bool := decide (1 ≤ s ∧ s ≤ 999)
abbrev MayP (i : It) (lo hi : Int) : Prop :=
  0 ≤ lo ∧ lo ≤ hi ∧ hi ≤ 9999 ∧ ((i.k = 0 ∧ i.f = 0 ∧ i.t = 0 ∧ 1 ≤ i.s ∧ i.s ≤ 999) ∨ (i.k = 1 ∧ lo ≤ i.f ∧ i.f ≤ hi ∧ i.t = 0 ∧ i.s = 0) ∨
    (i.k = 2 ∧ lo ≤ i.f ∧ i.f ≤ hi ∧ lo ≤ i.t ∧ i.t ≤ hi ∧ i.f ≤ i.t ∧ 1 ≤ i.s ∧ i.s ≤ 999) ∨ (i.k = 3 ∧ lo ≤ i.f ∧ i.f ≤ hi ∧ i.t = 0 ∧ 1 ≤ i.s ∧ i.s ≤ 999))
def mayIt (i : It) (lo hi : Int) : Bool := decide (MayP i lo hi)

/-- Each number lies in the bounds, and none is less than the one ahead. -/
def ofB (lo hi : Int) : List Int → Bool
  | [] => true
  | [a] => decide (lo ≤ a ∧ a ≤ hi)
  | a :: b :: l => decide (lo ≤ a ∧ a ≤ hi ∧ a ≤ b) && ofB lo hi (b :: l)

theorem ofB_iff (lo hi : Int) (l : List Int) : ofB lo hi l = true ↔ ∀ i a, l[i]? = some a → lo ≤ a ∧ a ≤ hi ∧ ∀ b, l[i + 1]? = some b → a ≤ b := by
  induction l with
  | nil => simp [ofB]
  | cons a l ih =>
    cases l with
    | nil =>
      simp only [ofB, decide_eq_true_eq]
      constructor
      · rintro h (_ | i) x hx
        · obtain rfl : a = x := by simpa using hx
          exact ⟨h.1, h.2, by simp⟩
        · simp at hx
      · intro h; have := h 0 a rfl; exact ⟨this.1, this.2.1⟩
    | cons b l =>
      simp only [ofB, Bool.and_eq_true, decide_eq_true_eq, ih]
      constructor
      · rintro ⟨h, h2⟩ (_ | i) x hx
        · obtain rfl : a = x := by simpa using hx
          refine ⟨h.1, h.2.1, fun y hy => ?_⟩
          obtain rfl : b = y := by simpa using hy
          exact h.2.2
        · exact h2 i x (by simpa using hx)
      · intro h
        have h0 := h 0 a rfl
        exact ⟨⟨h0.1, h0.2.1, h0.2.2 b rfl⟩, fun i x hx => h (i + 1) x (by simpa using hx)⟩

def OfP (lo hi : Int) (l : List Int) (k : Nat) : Prop := ∀ i a, i < k → l[i]? = some a → lo ≤ a ∧ a ≤ hi ∧ ∀ b, i + 1 < k → l[i + 1]? = some b → a ≤ b
theorem OfP.zero (lo hi : Int) (l : List Int) : OfP lo hi l 0 := fun _ _ h => absurd h (Nat.not_lt_zero _)
theorem OfP.one {lo hi x : Int} {l : List Int} (hx : l[0]? = some x) (h : lo ≤ x ∧ x ≤ hi) : OfP lo hi l 1 := by
  intro i a hi ha
  obtain rfl : i = 0 := by omega
  rw [hx] at ha; cases ha
  exact ⟨h.1, h.2, fun b hb => by omega⟩
theorem OfP.succ {lo hi x y : Int} {l : List Int} {k : Nat} (H : OfP lo hi l (k + 1)) (hx : l[k + 1]? = some x) (hy : l[k]? = some y) (h : lo ≤ x ∧ x ≤ hi ∧ y ≤ x) : OfP lo hi l (k + 1 + 1) := by
  intro i a hi ha
  rcases Nat.lt_or_ge i (k + 1) with h1 | h1
  · obtain ⟨p, q, r⟩ := H i a h1 ha
    refine ⟨p, q, fun b hb hlb => ?_⟩
    rcases Nat.lt_or_ge (i + 1) (k + 1) with h2 | h2
    · exact r b h2 hlb
    · obtain rfl : i = k := by omega
      rw [hx] at hlb; cases hlb
      rw [hy] at ha; cases ha
      exact h.2.2
  · obtain rfl : i = k + 1 := by omega
    rw [hx] at ha; cases ha
    exact ⟨h.1, h.2.1, fun b hb => by omega⟩
theorem OfP.all {lo hi : Int} {l : List Int} (H : OfP lo hi l l.length) : ofB lo hi l = true := by
  rw [ofB_iff]
  intro i a ha
  have hi : i < l.length := (List.getElem?_eq_some_iff.1 ha).1
  obtain ⟨p, q, r⟩ := H i a hi ha
  exact ⟨p, q, fun b hb => r b (List.getElem?_eq_some_iff.1 hb).1 hb⟩
theorem ofB_no1 {lo hi x : Int} {l : List Int} {k : Nat} (hx : l[k]? = some x) (h : x < lo ∨ hi < x) : ofB lo hi l = false := by
  cases hb : ofB lo hi l with
  | false => rfl
  | true => have := (ofB_iff lo hi l).1 hb k x hx; omega
theorem ofB_no2 {lo hi x y : Int} {l : List Int} {k : Nat} (hx : l[k + 1]? = some x) (hy : l[k]? = some y) (h : x < y) : ofB lo hi l = false := by
  cases hb : ofB lo hi l with
  | false => rfl
  | true => have := ((ofB_iff lo hi l).1 hb k y hy).2.2 x hx; omega
theorem ofB_no {lo hi x y : Int} {l : List Int} {k : Nat} (hx : l[k + 1]? = some x) (hy : l[k]? = some y) (h : x < lo ∨ hi < x ∨ x < y) : ofB lo hi l = false := by
  rcases h with h | h | h
  · exact ofB_no1 hx (.inl h)
  · exact ofB_no1 hx (.inr h)
  · exact ofB_no2 hx hy h

def rightB (lo hi most : Int) (l : List It) : Bool := decide (0 < l.length ∧ (l.length : Int) ≤ most) && l.all (fun i => mayIt i lo hi)
theorem rightB_no {lo hi most : Int} {l : List It} (h : l.length = 0 ∨ most < (l.length : Int)) : rightB lo hi most l = false := by
  rw [rightB, decide_eq_false (by omega), Bool.false_and]
theorem rightB_bad {lo hi most : Int} {l : List It} {k : Nat} {it : It} (hx : l[k]? = some it) (h : mayIt it lo hi = false) : rightB lo hi most l = false := by
  have : l.all (fun i => mayIt i lo hi) = false := by
    rw [List.all_eq_false]
    exact ⟨it, List.mem_of_getElem? hx, by simp [h]⟩
  rw [rightB, this, Bool.and_false]
theorem all_of_get {p : It → Bool} {l : List It} (h : ∀ j it, j < l.length → l[j]? = some it → p it = true) : l.all p = true := by
  rw [List.all_eq_true]
  intro x hx
  obtain ⟨j, hj⟩ := List.getElem?_of_mem hx
  exact h j x (List.getElem?_eq_some_iff.1 hj).1 hj
theorem rightB_yes {lo hi most : Int} {l : List It} (hs : 0 < l.length ∧ (l.length : Int) ≤ most) (h : ∀ j it, j < l.length → l[j]? = some it → mayIt it lo hi = true) : rightB lo hi most l = true := by
  rw [rightB, decide_eq_true hs, Bool.true_and]
  exact all_of_get h
theorem all_succ {α : Type} {p : α → Bool} {b : Bool} {l : List α} {k : Nat} {x : α} (H : ∀ j it, j < k → l[j]? = some it → p it = b) (hx : l[k]? = some x) (h : p x = b) : ∀ j it, j < k + 1 → l[j]? = some it → p it = b := by
  intro j it hj hl
  rcases Nat.lt_or_ge j k with h1 | h1
  · exact H j it h1 hl
  · obtain rfl : j = k := by omega
    rw [hx] at hl; cases hl
    exact h

def cLo (f : Int) : Int := if f = 2 ∨ f = 3 then 1 else 0
def cHi (f : Int) : Int := if f = 0 then 59 else if f = 1 then 23 else if f = 2 then 31 else if f = 3 then 12 else if f = 4 then 7 else 0
/-- What is wrong with a field's list. -/
def faultI (k : Nat) (l : List It) : Int :=
  if l.length = 0 then 11 else if 64 < l.length then 5 else if l.any (fun i => i.k == 3 || !mayIt i (cLo k) (cHi k)) then 1 else 0
theorem faultI_nil {k : Nat} {l : List It} (h : l.length = 0) : faultI k l = 11 := by rw [faultI, if_pos h]
theorem faultI_long {k : Nat} {l : List It} (h : 64 < l.length) : faultI k l = 5 := by rw [faultI, if_neg (by omega), if_pos h]
theorem faultI_bad {k : Nat} {l : List It} {j : Nat} {it : It} (h0 : ¬ l.length = 0) (h1 : ¬ 64 < l.length) (hx : l[j]? = some it) (h : it.k = 3 ∨ mayIt it (cLo k) (cHi k) = false) : faultI k l = 1 := by
  have : l.any (fun i => i.k == 3 || !mayIt i (cLo k) (cHi k)) = true := by
    rw [List.any_eq_true]
    exact ⟨it, List.mem_of_getElem? hx, by rcases h with h | h <;> simp [h]⟩
  rw [faultI, if_neg h0, if_neg h1, if_pos this]
theorem faultI_ok {k : Nat} {l : List It} (h0 : ¬ l.length = 0) (h1 : ¬ 64 < l.length) (H : ∀ j it, j < l.length → l[j]? = some it → (it.k == 3 || !mayIt it (cLo k) (cHi k)) = false) : faultI k l = 0 := by
  have : l.any (fun i => i.k == 3 || !mayIt i (cLo k) (cHi k)) = false := by
    rw [List.any_eq_false]
    intro x hx
    obtain ⟨j, hj⟩ := List.getElem?_of_mem hx
    rw [H j x (List.getElem?_eq_some_iff.1 hj).1 hj]; simp
  rw [faultI, if_neg h0, if_neg h1, if_neg (by rw [this]; simp)]
theorem faultI_right {k : Nat} {l : List It} (h0 : ¬ l.length = 0) (h1 : ¬ 64 < l.length) (h : rightB (cLo k) (cHi k) 64 l = false) : faultI k l = 1 := by
  have : l.any (fun i => i.k == 3 || !mayIt i (cLo k) (cHi k)) = true := by
    rw [rightB, decide_eq_true (by omega), Bool.true_and, List.all_eq_false] at h
    obtain ⟨x, hx, hm⟩ := h
    rw [List.any_eq_true]
    exact ⟨x, hx, by simp [hm]⟩
  rw [faultI, if_neg h0, if_neg h1, if_pos this]
theorem faultI_rest {k : Nat} {l : List It} (h0 : ¬ l.length = 0) (h1 : ¬ 64 < l.length) (h : rightB (cLo k) (cHi k) 64 l = true) : faultI k l = if l.any (fun i => decide (i.k = 3)) then 1 else 0 := by
  have e : l.any (fun i => i.k == 3 || !mayIt i (cLo k) (cHi k)) = l.any (fun i => decide (i.k = 3)) := by
    rw [rightB, Bool.and_eq_true, List.all_eq_true] at h
    rw [Bool.eq_iff_iff, List.any_eq_true, List.any_eq_true]
    constructor
    · rintro ⟨x, hx, hp⟩
      rw [h.2 x hx] at hp
      exact ⟨x, hx, by simpa using hp⟩
    · rintro ⟨x, hx, hp⟩
      exact ⟨x, hx, by simp at hp; simp [hp]⟩
  rw [faultI, if_neg h0, if_neg h1, e]
/-- The field in which the first fault lies, and the fault. -/
def chkN (l : Nat → List It) : Nat → Int × Int
  | 0 => (5, 0)
  | q + 1 => if faultI (4 - q) (l (4 - q)) = 0 then chkN l q else (((4 - q : Nat) : Int), faultI (4 - q) (l (4 - q)))
def chk (l : Nat → List It) : Int × Int := chkN l 5
theorem chk_at {l : Nat → List It} {k : Nat} (hk : k < 5) (H : ∀ j, j < k → faultI j (l j) = 0) (h : faultI k (l k) ≠ 0) : chk l = ((k : Int), faultI k (l k)) := by
  have h0 := H 0; have h1 := H 1; have h2 := H 2; have h3 := H 3
  rcases k with _ | _ | _ | _ | _ | k
  · simp [chk, chkN, h]
  · simp [chk, chkN, h, h0]
  · simp [chk, chkN, h, h0, h1]
  · simp [chk, chkN, h, h0, h1, h2]
  · simp [chk, chkN, h, h0, h1, h2, h3]
  · omega
theorem chk_all {l : Nat → List It} (H : ∀ j, j < 5 → faultI j (l j) = 0) : chk l = (5, 0) := by
  simp [chk, chkN, H 0, H 1, H 2, H 3, H 4]
theorem upto_succ {p : Nat → Prop} {k : Nat} (H : ∀ j, j < k → p j) (h : p k) : ∀ j, j < k + 1 → p j := by
  intro j hj
  rcases Nat.lt_or_ge j k with h1 | h1
  · exact H j h1
  · obtain rfl : j = k := by omega
    exact h
/-- Does a list begin with a star? -/
def starB : List It → Bool
  | [] => false
  | i :: _ => decide (i.k = 0)
end Go.Proofs.Ythkleinjddkhoaa
