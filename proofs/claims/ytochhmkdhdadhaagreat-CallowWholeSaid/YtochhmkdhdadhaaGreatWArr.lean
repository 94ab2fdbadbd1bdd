/- Words for an array of single cells in memory, told cell by cell. -/
import Derived.WalkKit
import Derived.WalkSpells
import Derived.WalkLawsBesides
import Derived.BigQuiet
import Derived.Lib.Hide
import Derived.Handy
import Derived.Test.YtochhmkdhdadhaaGreatRows
import Derived.Lib.OwnBridge
import Derived.Sort.OwnSortedInts
import Derived.Deep.QuietTactic
import Derived.Deep.RegionHeld3
import Derived.Deep.DrawnRows
/- Words that speak of no program: what a call hands back, and slices that read as lists. -/
namespace Go.Proofs.YtochhmkdhdadhaaGreat
open Go.RowKit
set_option linter.unusedSimpArgs false
set_option linter.unusedVariables false

/-- The call hands back v; the world is the same one. -/
def RetQ (v : Value) (w : World) (e : Ending) (w' : World) : Prop := e = .returned v ∧ w = w'
/-- The call hands back v; the world has drawn. -/
def RetN (v : Value) (w : World) (e : Ending) (w' : World) : Prop := e = .returned v ∧ ∃ n, w' = w.drewN n
/-- The call hands back v; nothing that lay in the world has turned. -/
def Ret (v : Value) (w : World) (e : Ending) (w' : World) : Prop := e = .returned v ∧ Below w.heap.size w w'

theorem below_drewN {B : Nat} {a w : World} (h : Below B a w) (n : Nat) : Below B a (w.drewN n) := ⟨h.os, h.tape, h.output, h.size, h.block⟩
theorem RetQ.toN {v : Value} {w w' : World} {e : Ending} (h : RetQ v w e w') : RetN v w e w' := ⟨h.1, 0, h.2.symm⟩
theorem RetN.toB {v : Value} {w w' : World} {e : Ending} (h : RetN v w e w') : Ret v w e w' := by
  obtain ⟨rfl, n, rfl⟩ := h
  exact ⟨rfl, below_drewN (Below.refl _ _) n⟩
theorem RetQ.toB {v : Value} {w w' : World} {e : Ending} (h : RetQ v w e w') : Ret v w e w' := h.toN.toB

/-- All old cells and marks read as before: two rules that the walk takes by itself. -/
theorem bcell {W w1 : World} (hb : Below W.heap.size W w1) : (∀ b o, b < W.heap.size → w1.cell? ⟨b, o, none⟩ = W.cell? ⟨b, o, none⟩) ∧ (∀ b o, b < W.heap.size → w1.frozen? ⟨b, o, none⟩ = W.frozen? ⟨b, o, none⟩) :=
  ⟨fun b o h => hb.cell (p := ⟨b, o, none⟩) h, fun b o h => hb.frozen (p := ⟨b, o, none⟩) h⟩
/-- Below B, then all that lay there is kept. -/
theorem bthen {B : Nat} {w w1 w2 : World} (h : Below B w w1) (hb : Below w1.heap.size w1 w2) (hB : B ≤ w1.heap.size) : Below B w w2 := h.trans (hb.mono hB)

/-- A cell of the block that has just been made. -/
theorem cell_new {w : World} {C : Array Value} {t : TypeId} {b o : Nat} {v : Value} (hb : b = w.heap.size) (h : C[o]? = some v) : (w.alloc (.cells C t)).cell? ⟨b, o, none⟩ = some v := by
  subst hb
  have h1 := heap_alloc_new w (.cells C t)
  unfold World.cell?
  rw [h1]
  exact h

theorem ret_bool {a b : Bool} (h : a = b) : Ending.returned (.bool a) = .returned (.bool b) := by rw [h]
theorem ret_int {k : IntKind} {a b : Int} (h : a = b) : Ending.returned (.int k a) = .returned (.int k b) := by rw [h]
theorem ret_int2 {k j : IntKind} {a b c d : Int} (h : a = b) (g : c = d) : Ending.returned (.tuple #[.int k a, .int j c]) = .returned (.tuple #[.int k b, .int j d]) := by rw [h, g]

/-- An item of a list: its four numbers. -/
structure It where
  k : Int
  f : Int
  t : Int
  s : Int
  deriving DecidableEq

/-- A slice reads as a list: element i is the k cells 'enc x' from o + i * k on. -/
def Rd {α : Type} (k : Nat) (enc : α → List Value) (w : World) (A : Option Addr) (n : Nat) (l : List α) : Prop :=
  l.length = n ∧ (0 < n → ∃ b o, A = some ⟨b, o, none⟩ ∧ b < w.heap.size ∧ ∀ (i : Nat) x, l[i]? = some x → ∀ (j : Nat) v, (enc x)[j]? = some v → w.cell? ⟨b, o + i * k + j, none⟩ = some v)

section
variable {α : Type} {k : Nat} {enc : α → List Value} {w w' : World} {A : Option Addr} {n : Nat} {l : List α}
theorem Rd.below {B : Nat} (h : Rd k enc w A n l) (hb : Below B w w') (hB : w.heap.size ≤ B) : Rd k enc w' A n l :=
  ⟨h.1, fun hn => by
    obtain ⟨b, o, e, hlt, hc⟩ := h.2 hn
    exact ⟨b, o, e, Nat.lt_of_lt_of_le hlt hb.size, fun i x hi j v hj => (hb.cell (p := ⟨b, _, none⟩) (by show b < B; omega)).trans (hc i x hi j v hj)⟩⟩
theorem Rd.drewN (h : Rd k enc w A n l) (q : Nat) : Rd k enc (w.drewN q) A n l := h
theorem Rd.nil : Rd k enc w A 0 ([] : List α) := ⟨rfl, fun h => absurd h (Nat.lt_irrefl 0)⟩
theorem Rd.gen (h : Rd k enc w A n l) {i : Nat} (hi : i < n) :
    ∃ b o x, A = some ⟨b, o, none⟩ ∧ b < w.heap.size ∧ l[i]? = some x ∧ ∀ (j : Nat) v, (enc x)[j]? = some v → w.cell? ⟨b, o + i * k + j, none⟩ = some v := by
  obtain ⟨b, o, e, hlt, hc⟩ := h.2 (by omega)
  have hl : i < l.length := by rw [h.1]; exact hi
  exact ⟨b, o, l[i], e, hlt, List.getElem?_eq_getElem hl, hc i _ (List.getElem?_eq_getElem hl)⟩

theorem flat_len (hk : ∀ x, (enc x).length = k) (l : List α) : (l.flatMap enc).length = l.length * k := by
  induction l with
  | nil => simp
  | cons a l ih => simp only [List.flatMap_cons, List.length_append, ih, hk, List.length_cons, Nat.succ_mul]; omega
theorem flat_get (hk : ∀ x, (enc x).length = k) (l : List α) (i j : Nat) (x : α) (hx : l[i]? = some x) (hj : j < k) : (l.flatMap enc)[i * k + j]? = (enc x)[j]? := by
  induction l generalizing i with
  | nil => simp at hx
  | cons a l ih =>
    rw [List.flatMap_cons]
    cases i with
    | zero =>
      obtain rfl : a = x := by simpa using hx
      rw [Nat.zero_mul, Nat.zero_add, List.getElem?_append_left (by rw [hk]; exact hj)]
    | succ i =>
      rw [List.getElem?_append_right (by rw [hk, Nat.succ_mul]; omega), hk, show (i + 1) * k + j - k = i * k + j from by rw [Nat.succ_mul]; omega]
      exact ih i (by simpa using hx)
theorem flat_inv (hk : ∀ x, (enc x).length = k) (l : List α) (m : Nat) (u : Value) (h : (l.flatMap enc)[m]? = some u) : ∃ i j x, m = i * k + j ∧ l[i]? = some x ∧ (enc x)[j]? = some u := by
  have hm : m < l.length * k := by rw [← flat_len hk]; exact (List.getElem?_eq_some_iff.1 h).1
  have hk0 : 0 < k := by
    rcases Nat.eq_zero_or_pos k with rfl | h0
    · simp at hm
    · exact h0
  have hi : m / k < l.length := (Nat.div_lt_iff_lt_mul hk0).2 hm
  have hj : m % k < k := Nat.mod_lt _ hk0
  have e : m = m / k * k + m % k := by have := Nat.div_add_mod m k; rw [Nat.mul_comm] at this; omega
  refine ⟨m / k, m % k, l[m / k], e, List.getElem?_eq_getElem hi, ?_⟩
  rw [← flat_get hk l (m / k) (m % k) _ (List.getElem?_eq_getElem hi) hj, ← e]
  exact h

/-- What a slice reads as, cell by cell, from its address on. -/
theorem Rd.news (hk : ∀ x, (enc x).length = k) {b o : Nat} (h : Rd k enc w (some ⟨b, o, none⟩) n l) : ∀ (j : Nat) u, (l.flatMap enc)[j]? = some u → w.cell? ((⟨b, o, none⟩ : Addr).add j) = some u := by
  intro m u hm
  obtain ⟨i, j, x, rfl, hx, hu⟩ := flat_inv hk l m u hm
  have hn : 0 < n := by
    have := (List.getElem?_eq_some_iff.1 hx).1
    rw [h.1] at this; omega
  obtain ⟨b', o', e, _, hc⟩ := h.2 hn
  cases e
  have := hc i x hx j u hu
  rw [show (⟨b, o, none⟩ : Addr).add (i * k + j) = ⟨b, o + i * k + j, none⟩ from by unfold Addr.add; split <;> simp_all [Nat.add_assoc]]
  exact this
/-- A row of the call's own reads as a list. -/
theorem Rd.of_own (hk : ∀ x, (enc x).length = k) {base : Nat} {e : TypeId} {v : Value} (h : w.ownsRow base e k v n (l.flatMap enc)) (hl : l.length = n) :
    ∃ A c, v = .slice A n c ∧ n ≤ c ∧ c ≤ maxLen ∧ Rd k enc w A n l ∧ (∀ a, A = some a → base ≤ a.block) := by
  rcases h.2 with ⟨rfl, rfl⟩ | ⟨g, cap, cur, rfl, hb, hg, hnc, hcm, hcs, htake⟩
  · obtain rfl : l = [] := List.length_eq_zero_iff.1 hl
    exact ⟨none, 0, rfl, Nat.le_refl _, Nat.zero_le _, Rd.nil, fun a h => by cases h⟩
  · refine ⟨_, cap, rfl, hnc, hcm, ⟨hl, fun hn => ⟨g, 0, rfl, (Array.getElem?_eq_some_iff.1 hg).1, fun i x hx j v hj => ?_⟩⟩, fun a h => by cases h; exact hb⟩
    have hjk : j < k := by have := (List.getElem?_eq_some_iff.1 hj).1; rwa [hk] at this
    have h1 := h.cells (g := g) rfl (i * k + j) v (by rw [flat_get hk l i j x hx hjk]; exact hj)
    rwa [show (⟨g, 0, none⟩ : Addr).add (i * k + j) = ⟨g, 0 + i * k + j, none⟩ from by unfold Addr.add; split <;> simp_all [Nat.add_assoc]] at h1
end

def itEnc (i : It) : List Value := [.int .i64 i.k, .int .i64 i.f, .int .i64 i.t, .int .i64 i.s]
theorem itEnc_len (x : It) : (itEnc x).length = 4 := rfl
/-- A slice of items reads as a list. -/
abbrev RdIts (w : World) (A : Option Addr) (n : Nat) (l : List It) : Prop := Rd 4 itEnc w A n l
theorem RdIts.at_ {w : World} {A : Option Addr} {n : Nat} {l : List It} (h : RdIts w A n l) {i : Nat} (hi : i < n) :
    ∃ b o it, A = some ⟨b, o, none⟩ ∧ b < w.heap.size ∧ l[i]? = some it ∧ w.cell? ⟨b, o + i * 4, none⟩ = some (.int .i64 it.k) ∧ w.cell? ⟨b, o + i * 4 + 1, none⟩ = some (.int .i64 it.f) ∧
    w.cell? ⟨b, o + i * 4 + 2, none⟩ = some (.int .i64 it.t) ∧ w.cell? ⟨b, o + i * 4 + 3, none⟩ = some (.int .i64 it.s) := by
  obtain ⟨b, o, it, e, hlt, hl, hc⟩ := h.gen hi
  exact ⟨b, o, it, e, hlt, hl, hc 0 _ rfl, hc 1 _ rfl, hc 2 _ rfl, hc 3 _ rfl⟩

def intEnc (i : Int) : List Value := [.int .i64 i]
theorem intEnc_len (x : Int) : (intEnc x).length = 1 := rfl
/-- A slice of ints reads as a list. -/
abbrev RdInts (w : World) (A : Option Addr) (n : Nat) (l : List Int) : Prop := Rd 1 intEnc w A n l
theorem one_at {α : Type} {f : α → Value} {w : World} {A : Option Addr} {n : Nat} {l : List α} (h : Rd 1 (fun x => [f x]) w A n l) {i : Nat} (hi : i < n) :
    ∃ b o x, A = some ⟨b, o, none⟩ ∧ b < w.heap.size ∧ l[i]? = some x ∧ w.cell? ⟨b, o + i, none⟩ = some (f x) := by
  obtain ⟨b, o, x, e, hlt, hl, hc⟩ := h.gen hi
  have := hc 0 _ rfl
  rw [Nat.mul_one, Nat.add_zero] at this
  exact ⟨b, o, x, e, hlt, hl, this⟩
theorem RdInts.at_ {w : World} {A : Option Addr} {n : Nat} {l : List Int} (h : RdInts w A n l) {i : Nat} (hi : i < n) :
    ∃ b o x, A = some ⟨b, o, none⟩ ∧ b < w.heap.size ∧ l[i]? = some x ∧ w.cell? ⟨b, o + i, none⟩ = some (.int .i64 x) := one_at (f := fun x => .int .i64 x) h hi

end Go.Proofs.YtochhmkdhdadhaaGreat

/- Plain functions that answer as the Go functions do: numbers and lists alone, no program. -/
namespace Go.Proofs.YtochhmkdhdadhaaGreat
open Go.RowKit
set_option linter.unusedSimpArgs false
set_option linter.unusedVariables false

def okStep (s : Int) : Bool := decide (1 ≤ s ∧ s ≤ 999)
abbrev MayP (i : It) (lo hi : Int) : Prop :=
  0 ≤ lo ∧ lo ≤ hi ∧ hi ≤ 9999 ∧ ((i.k = 0 ∧ i.f = 0 ∧ i.t = 0 ∧ 1 ≤ i.s ∧ i.s ≤ 999) ∨ (i.k = 1 ∧ lo ≤ i.f ∧ i.f ≤ hi ∧ i.t = 0 ∧ i.s = 0) ∨
    (i.k = 2 ∧ lo ≤ i.f ∧ i.f ≤ hi ∧ lo ≤ i.t ∧ i.t ≤ hi ∧ i.f ≤ i.t ∧ 1 ≤ i.s ∧ i.s ≤ 999) ∨ (i.k = 3 ∧ lo ≤ i.f ∧ i.f ≤ hi ∧ i.t = 0 ∧ 1 ≤ i.s ∧ i.s ≤ 999))
def mayIt (i : It) (lo hi : Int) : Bool := decide (MayP i lo hi)

/-- Each number lies in the bounds, and none is less than the one ahead. -/
def ofB (lo hi : Int) : List Int → Bool
  | [] => true
  | [a] => decide (lo ≤ a ∧ a ≤ hi)
  | a :: b :: l => decide (lo ≤ a ∧ a ≤ hi ∧ a ≤ b) && ofB lo hi (b :: l)

theorem ofB_iff (lo hi : Int) (l : List Int) : ofB lo hi l = true ↔ ∀ i a, l[i]? = some a → lo ≤ a ∧ a ≤ hi ∧ ∀ b, l[i + 1]? = some b → a ≤ b := by
  induction l with
  | nil => simp [ofB]
  | cons a l ih =>
    cases l with
    | nil =>
      simp only [ofB, decide_eq_true_eq]
      constructor
      · rintro h (_ | i) x hx
        · obtain rfl : a = x := by simpa using hx
          exact ⟨h.1, h.2, by simp⟩
        · simp at hx
      · intro h; have := h 0 a rfl; exact ⟨this.1, this.2.1⟩
    | cons b l =>
      simp only [ofB, Bool.and_eq_true, decide_eq_true_eq, ih]
      constructor
      · rintro ⟨h, h2⟩ (_ | i) x hx
        · obtain rfl : a = x := by simpa using hx
          refine ⟨h.1, h.2.1, fun y hy => ?_⟩
          obtain rfl : b = y := by simpa using hy
          exact h.2.2
        · exact h2 i x (by simpa using hx)
      · intro h
        have h0 := h 0 a rfl
        exact ⟨⟨h0.1, h0.2.1, h0.2.2 b rfl⟩, fun i x hx => h (i + 1) x (by simpa using hx)⟩

def OfP (lo hi : Int) (l : List Int) (k : Nat) : Prop := ∀ i a, i < k → l[i]? = some a → lo ≤ a ∧ a ≤ hi ∧ ∀ b, i + 1 < k → l[i + 1]? = some b → a ≤ b
theorem OfP.zero (lo hi : Int) (l : List Int) : OfP lo hi l 0 := fun _ _ h => absurd h (Nat.not_lt_zero _)
theorem OfP.one {lo hi x : Int} {l : List Int} (hx : l[0]? = some x) (h : lo ≤ x ∧ x ≤ hi) : OfP lo hi l 1 := by
  intro i a hi ha
  obtain rfl : i = 0 := by omega
  rw [hx] at ha; cases ha
  exact ⟨h.1, h.2, fun b hb => by omega⟩
theorem OfP.succ {lo hi x y : Int} {l : List Int} {k : Nat} (H : OfP lo hi l (k + 1)) (hx : l[k + 1]? = some x) (hy : l[k]? = some y) (h : lo ≤ x ∧ x ≤ hi ∧ y ≤ x) : OfP lo hi l (k + 1 + 1) := by
  intro i a hi ha
  rcases Nat.lt_or_ge i (k + 1) with h1 | h1
  · obtain ⟨p, q, r⟩ := H i a h1 ha
    refine ⟨p, q, fun b hb hlb => ?_⟩
    rcases Nat.lt_or_ge (i + 1) (k + 1) with h2 | h2
    · exact r b h2 hlb
    · obtain rfl : i = k := by omega
      rw [hx] at hlb; cases hlb
      rw [hy] at ha; cases ha
      exact h.2.2
  · obtain rfl : i = k + 1 := by omega
    rw [hx] at ha; cases ha
    exact ⟨h.1, h.2.1, fun b hb => by omega⟩
theorem OfP.all {lo hi : Int} {l : List Int} (H : OfP lo hi l l.length) : ofB lo hi l = true := by
  rw [ofB_iff]
  intro i a ha
  have hi : i < l.length := (List.getElem?_eq_some_iff.1 ha).1
  obtain ⟨p, q, r⟩ := H i a hi ha
  exact ⟨p, q, fun b hb => r b (List.getElem?_eq_some_iff.1 hb).1 hb⟩
theorem ofB_no1 {lo hi x : Int} {l : List Int} {k : Nat} (hx : l[k]? = some x) (h : x < lo ∨ hi < x) : ofB lo hi l = false := by
  cases hb : ofB lo hi l with
  | false => rfl
  | true => have := (ofB_iff lo hi l).1 hb k x hx; omega
theorem ofB_no2 {lo hi x y : Int} {l : List Int} {k : Nat} (hx : l[k + 1]? = some x) (hy : l[k]? = some y) (h : x < y) : ofB lo hi l = false := by
  cases hb : ofB lo hi l with
  | false => rfl
  | true => have := ((ofB_iff lo hi l).1 hb k y hy).2.2 x hx; omega
theorem ofB_no {lo hi x y : Int} {l : List Int} {k : Nat} (hx : l[k + 1]? = some x) (hy : l[k]? = some y) (h : x < lo ∨ hi < x ∨ x < y) : ofB lo hi l = false := by
  rcases h with h | h | h
  · exact ofB_no1 hx (.inl h)
  · exact ofB_no1 hx (.inr h)
  · exact ofB_no2 hx hy h

def rightB (lo hi most : Int) (l : List It) : Bool := decide (0 < l.length ∧ (l.length : Int) ≤ most) && l.all (fun i => mayIt i lo hi)
theorem rightB_no {lo hi most : Int} {l : List It} (h : l.length = 0 ∨ most < (l.length : Int)) : rightB lo hi most l = false := by
  rw [rightB, decide_eq_false (by omega), Bool.false_and]
theorem rightB_bad {lo hi most : Int} {l : List It} {k : Nat} {it : It} (hx : l[k]? = some it) (h : mayIt it lo hi = false) : rightB lo hi most l = false := by
  have : l.all (fun i => mayIt i lo hi) = false := by
    rw [List.all_eq_false]
    exact ⟨it, List.mem_of_getElem? hx, by simp [h]⟩
  rw [rightB, this, Bool.and_false]
theorem all_of_get {p : It → Bool} {l : List It} (h : ∀ j it, j < l.length → l[j]? = some it → p it = true) : l.all p = true := by
  rw [List.all_eq_true]
  intro x hx
  obtain ⟨j, hj⟩ := List.getElem?_of_mem hx
  exact h j x (List.getElem?_eq_some_iff.1 hj).1 hj
theorem rightB_yes {lo hi most : Int} {l : List It} (hs : 0 < l.length ∧ (l.length : Int) ≤ most) (h : ∀ j it, j < l.length → l[j]? = some it → mayIt it lo hi = true) : rightB lo hi most l = true := by
  rw [rightB, decide_eq_true hs, Bool.true_and]
  exact all_of_get h
theorem all_succ {α : Type} {p : α → Bool} {b : Bool} {l : List α} {k : Nat} {x : α} (H : ∀ j it, j < k → l[j]? = some it → p it = b) (hx : l[k]? = some x) (h : p x = b) : ∀ j it, j < k + 1 → l[j]? = some it → p it = b := by
  intro j it hj hl
  rcases Nat.lt_or_ge j k with h1 | h1
  · exact H j it h1 hl
  · obtain rfl : j = k := by omega
    rw [hx] at hl; cases hl
    exact h

def cLo (f : Int) : Int := if f = 2 ∨ f = 3 then 1 else 0
def cHi (f : Int) : Int := if f = 0 then 59 else if f = 1 then 23 else if f = 2 then 31 else if f = 3 then 12 else if f = 4 then 7 else 0
/-- What is wrong with a field's list. -/
def faultI (k : Nat) (l : List It) : Int :=
  if l.length = 0 then 11 else if 64 < l.length then 5 else if l.any (fun i => i.k == 3 || !mayIt i (cLo k) (cHi k)) then 1 else 0
theorem faultI_nil {k : Nat} {l : List It} (h : l.length = 0) : faultI k l = 11 := by rw [faultI, if_pos h]
theorem faultI_long {k : Nat} {l : List It} (h : 64 < l.length) : faultI k l = 5 := by rw [faultI, if_neg (by omega), if_pos h]
theorem faultI_bad {k : Nat} {l : List It} {j : Nat} {it : It} (h0 : ¬ l.length = 0) (h1 : ¬ 64 < l.length) (hx : l[j]? = some it) (h : it.k = 3 ∨ mayIt it (cLo k) (cHi k) = false) : faultI k l = 1 := by
  have : l.any (fun i => i.k == 3 || !mayIt i (cLo k) (cHi k)) = true := by
    rw [List.any_eq_true]
    exact ⟨it, List.mem_of_getElem? hx, by rcases h with h | h <;> simp [h]⟩
  rw [faultI, if_neg h0, if_neg h1, if_pos this]
theorem faultI_ok {k : Nat} {l : List It} (h0 : ¬ l.length = 0) (h1 : ¬ 64 < l.length) (H : ∀ j it, j < l.length → l[j]? = some it → (it.k == 3 || !mayIt it (cLo k) (cHi k)) = false) : faultI k l = 0 := by
  have : l.any (fun i => i.k == 3 || !mayIt i (cLo k) (cHi k)) = false := by
    rw [List.any_eq_false]
    intro x hx
    obtain ⟨j, hj⟩ := List.getElem?_of_mem hx
    rw [H j x (List.getElem?_eq_some_iff.1 hj).1 hj]; simp
  rw [faultI, if_neg h0, if_neg h1, if_neg (by rw [this]; simp)]
theorem faultI_right {k : Nat} {l : List It} (h0 : ¬ l.length = 0) (h1 : ¬ 64 < l.length) (h : rightB (cLo k) (cHi k) 64 l = false) : faultI k l = 1 := by
  have : l.any (fun i => i.k == 3 || !mayIt i (cLo k) (cHi k)) = true := by
    rw [rightB, decide_eq_true (by omega), Bool.true_and, List.all_eq_false] at h
    obtain ⟨x, hx, hm⟩ := h
    rw [List.any_eq_true]
    exact ⟨x, hx, by simp [hm]⟩
  rw [faultI, if_neg h0, if_neg h1, if_pos this]
theorem faultI_rest {k : Nat} {l : List It} (h0 : ¬ l.length = 0) (h1 : ¬ 64 < l.length) (h : rightB (cLo k) (cHi k) 64 l = true) : faultI k l = if l.any (fun i => decide (i.k = 3)) then 1 else 0 := by
  have e : l.any (fun i => i.k == 3 || !mayIt i (cLo k) (cHi k)) = l.any (fun i => decide (i.k = 3)) := by
    rw [rightB, Bool.and_eq_true, List.all_eq_true] at h
    rw [Bool.eq_iff_iff, List.any_eq_true, List.any_eq_true]
    constructor
    · rintro ⟨x, hx, hp⟩
      rw [h.2 x hx] at hp
      exact ⟨x, hx, by simpa using hp⟩
    · rintro ⟨x, hx, hp⟩
      exact ⟨x, hx, by simp at hp; simp [hp]⟩
  rw [faultI, if_neg h0, if_neg h1, e]
/-- The field in which the first fault lies, and the fault. -/
def chkN (l : Nat → List It) : Nat → Int × Int
  | 0 => (5, 0)
  | q + 1 => if faultI (4 - q) (l (4 - q)) = 0 then chkN l q else (((4 - q : Nat) : Int), faultI (4 - q) (l (4 - q)))
def chk (l : Nat → List It) : Int × Int := chkN l 5
theorem chk_at {l : Nat → List It} {k : Nat} (hk : k < 5) (H : ∀ j, j < k → faultI j (l j) = 0) (h : faultI k (l k) ≠ 0) : chk l = ((k : Int), faultI k (l k)) := by
  have h0 := H 0; have h1 := H 1; have h2 := H 2; have h3 := H 3
  rcases k with _ | _ | _ | _ | _ | k
  · simp [chk, chkN, h]
  · simp [chk, chkN, h, h0]
  · simp [chk, chkN, h, h0, h1]
  · simp [chk, chkN, h, h0, h1, h2]
  · simp [chk, chkN, h, h0, h1, h2, h3]
  · omega
theorem chk_all {l : Nat → List It} (H : ∀ j, j < 5 → faultI j (l j) = 0) : chk l = (5, 0) := by
  simp [chk, chkN, H 0, H 1, H 2, H 3, H 4]
theorem upto_succ {p : Nat → Prop} {k : Nat} (H : ∀ j, j < k → p j) (h : p k) : ∀ j, j < k + 1 → p j := by
  intro j hj
  rcases Nat.lt_or_ge j k with h1 | h1
  · exact H j h1
  · obtain rfl : j = k := by omega
    exact h
/-- Does a list begin with a star? -/
def starB : List It → Bool
  | [] => false
  | i :: _ => decide (i.k = 0)
end Go.Proofs.YtochhmkdhdadhaaGreat

/- Words for lists of ints that the call itself makes. -/
namespace Go.Proofs.YtochhmkdhdadhaaGreat
open Go.RowKit
set_option linter.unusedSimpArgs false
set_option linter.unusedVariables false

/-- A slice of ints of the call's own. -/
abbrev OwnInts (w : World) (B : Nat) (v : Value) (l : List Int) : Prop := w.ownsRow B 3 1 v l.length (l.map (Value.int .i64))
theorem info_int : (Tryz.prog.info? 3).map (fun i => (i.zero, i.size, i.bytes)) = some (some (.int .i64 0), 1, 8) := by kernel_rfl
theorem own_some {w : World} {B n : Nat} {v : Value} {t : TypeId} {k : Nat} {xs : List Value} (h : w.ownsRow B t k v n xs) : v = .slice none 0 0 ∧ n = 0 ∨ ∃ g cap, v = .slice (some ⟨g, 0, none⟩) n cap ∧ B ≤ g ∧ g < w.heap.size := by
  rcases h.2 with h | ⟨g, cap, cur, hv, hb, hg, _⟩
  · exact .inl h
  · exact .inr ⟨g, cap, hv, hb, (Array.getElem?_eq_some_iff.1 hg).1⟩
theorem flat_ints (l : List Int) : l.flatMap intEnc = l.map (Value.int .i64) := by
  induction l with
  | nil => rfl
  | cons a l ih => rw [List.flatMap_cons, ih]; rfl
theorem OwnInts.rd {w : World} {B : Nat} {v : Value} {l : List Int} (h : OwnInts w B v l) : ∃ A c, v = .slice A l.length c ∧ l.length ≤ c ∧ c ≤ maxLen ∧ RdInts w A l.length l ∧ (∀ a, A = some a → B ≤ a.block) :=
  Rd.of_own (enc := intEnc) intEnc_len (l := l) (by rw [flat_ints]; exact h) rfl
theorem own_below {w w' : World} {B k n : Nat} {v : Value} {t : TypeId} {xs : List Value} (h : w.ownsRow B t k v n xs) (hb : Below w.heap.size w w') : w'.ownsRow B t k v n xs :=
  h.kept (row := none) ⟨hb.os, hb.tape, hb.output, hb.size, fun i hi _ => hb.block i hi⟩ (by cases v.ownBlock <;> simp)
/-- The call hands back a slice of ints of its own. -/
def RetOwn (l : List Int) (w : World) (e : Ending) (w' : World) : Prop := ∃ v, e = .returned v ∧ OwnInts w' w.heap.size v l ∧ Below w.heap.size w w'
end Go.Proofs.YtochhmkdhdadhaaGreat

/- Regions whose callees make memory, walked once in the order of the text; strings by their bytes. -/
namespace Go.Proofs.YtochhmkdhdadhaaGreat
open Go.RowKit
set_option linter.unusedSimpArgs false
set_option linter.unusedVariables false

/-- A world that has grown out of w. -/
structure Ext (w : World) where
  W : World
  h : Below w.heap.size w W
instance (w : World) : Nonempty (Ext w) := ⟨⟨w, Below.refl _ _⟩⟩
/-- The worlds that have grown out of w. -/
abbrev Grew (w : World) (W : World) : Prop := ∃ x : Ext w, W = x.W
theorem Ext.cell {w : World} (x : Ext w) {b o : Nat} {v : Value} (h : w.cell? ⟨b, o, none⟩ = some v) : x.W.cell? ⟨b, o, none⟩ = some v :=
  (x.h.cell (p := ⟨b, o, none⟩) (World.block_lt_of_cell? w _ h)).trans h
theorem ext_call {P : Program} {f : FuncId} {args : Array Value} {w : World} {v : Value} (x : Ext w) (h : Calls P f args x.W (Ret v x.W)) : Calls P f args x.W fun e w'' => e = .returned v ∧ ∃ y : Ext w, w'' = y.W :=
  h.mono fun _ w1 ⟨he, hb⟩ => ⟨he, ⟨w1, x.h.trans (hb.mono x.h.size)⟩, rfl⟩
theorem wp_region_grew {P : Program} {l : List Oper} {id : Nat} {Q : Exit → Act → World → Prop} {a : Act} {w : World} (hm : P.follows .mixedOrders = true) (hB : Region.lexB .any l.toArray = true)
    (h : wpQuiet P l.toArray (Grew w) (fun a' => ∀ w', Grew w w' → Q .normal a' w') l a) : (Code.region id l.toArray true).wp P Q a w :=
  wp_region_quiet (C := Grew w) hm hB ⟨⟨_, (Below.refl w.heap.size w).drew⟩, rfl⟩ (by simpa using h)

/-- A string of bytes. -/
def strB (l : List UInt8) : ByteArray := ⟨l.toArray⟩
theorem strB_size (l : List UInt8) : (strB l).size = l.length := by simp [strB, ByteArray.size]
theorem strB_data (l : List UInt8) : (strB l).data.toList = l := by simp [strB]
theorem strB_of {S : ByteArray} {l : List UInt8} (h : S.data.toList = l) : S = strB l := by
  subst h; apply ByteArray.ext; simp [strB]
theorem str_app (a b : ByteArray) : (a ++ b).data.toList = a.data.toList ++ b.data.toList := by simp
theorem ret_str {S : ByteArray} {l : List UInt8} (h : S.data.toList = l) : Ending.returned (.string S) = .returned (.string (strB l)) := by rw [strB_of h]
end Go.Proofs.YtochhmkdhdadhaaGreat

namespace Go.Proofs.YtochhmkdhdadhaaGreat
open Go.RowKit
set_option linter.unusedSimpArgs false
set_option linter.unusedVariables false

/-- The m cells of block b hold g 0, g 1, .. -/
def Arr (w : World) (b m : Nat) (g : Nat → Value) : Prop := (∀ j, j < m → w.cell? ⟨b, j, none⟩ = some (g j)) ∧ ∀ j, w.frozen? ⟨b, j, none⟩ = false
section
variable {w w' : World} {b m : Nat} {g g' : Nat → Value}
theorem Arr.set (h : Arr w b m g) (i : Nat) (hi : i < m) (v : Value) (h1 : g' i = v) (h2 : ∀ j, j < m → j ≠ i → g' j = g j) : Arr (w.setCell ⟨b, i, none⟩ v) b m g' := by
  refine ⟨fun j hj => ?_, fun j => by rw [World.frozen?_setCell]; exact h.2 j⟩
  by_cases e : j = i
  · subst e
    rw [World.cell?_setCell_same _ _ _ (h.1 j hj), h1]
  · rw [World.cell?_setCell_other _ _ _ _ (by intro e2; injection e2 with _ e3; exact e e3.symm), h.1 j hj, h2 j hj e]
theorem Arr.drew (h : Arr w b m g) : Arr w.drew b m g := h
theorem Arr.drewN (h : Arr w b m g) (n : Nat) : Arr (w.drewN n) b m g := h
theorem Arr.other {b' i : Nat} {v : Value} (h : Arr w b m g) (hne : b' ≠ b) : Arr (w.setCell ⟨b', i, none⟩ v) b m g :=
  ⟨fun j hj => by rw [World.cell?_setCell_other _ _ _ _ (by intro e2; injection e2 with e3; exact hne e3)]; exact h.1 j hj, fun j => by rw [World.frozen?_setCell]; exact h.2 j⟩
theorem Arr.below (h : Arr w b m g) (hb : b < w.heap.size) (hb1 : Below w.heap.size w w') : Arr w' b m g :=
  ⟨fun j hj => (hb1.cell (p := ⟨b, j, none⟩) hb).trans (h.1 j hj), fun j => (hb1.frozen (p := ⟨b, j, none⟩) hb).trans (h.2 j)⟩
theorem Arr.alloc (h : Arr w b m g) (hb : b < w.heap.size) (o : Obj) : Arr (w.alloc o) b m g := h.below hb ((Below.refl _ w).alloc (Nat.le_refl _) _)
theorem Arr.lt (h : Arr w b m g) (hm : 0 < m) : b < w.heap.size := World.block_lt_of_cell? w _ (h.1 0 hm)
theorem arr_new (w : World) (C : Array Value) (t : TypeId) (g : Nat → Value) (h : ∀ j, j < C.size → C[j]? = some (g j)) : Arr (w.alloc (.cells C t)) w.heap.size C.size g := by
  have h1 := heap_alloc_new w (.cells C t)
  refine ⟨fun j hj => ?_, fun j => ?_⟩
  · unfold World.cell?
    rw [h1]
    exact h j hj
  · unfold World.frozen?
    rw [h1]
    rfl
end
theorem results_cell1 {fn : Func} {p : Tmp} {ty : TypeId} (h : fn.results = #[.cell p ty]) (tmps : Array Value) (P : Program) (w : World) :
    (results fn tmps).run P w = ((asAddr (tmps.getD p undef)).run P w).andThen fun a w₁ => (loadVar ty a).run P w₁ := by
  simp only [results, h]
  simp [Sem.run_bind, Result.andThen]
end Go.Proofs.YtochhmkdhdadhaaGreat
