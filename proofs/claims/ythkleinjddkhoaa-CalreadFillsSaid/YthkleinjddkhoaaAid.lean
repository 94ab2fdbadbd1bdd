/- Words that speak of no program: what a call hands back, and slices that read as lists. -/
import Derived.WalkKit
import Derived.WalkSpells
import Derived.WalkLawsBesides
import Derived.BigQuiet
import Derived.Lib.Hide
import Derived.Handy
namespace Go.Proofs.Ythkleinjddkhoaa
open Go.RowKit
set_option linter.unusedSimpArgs false
set_option linter.unusedVariables false

/-- The call hands back v; the world is the same one. -/
def RetQ (v : Value) (w : World) (e : Ending) (w' : World) : Prop := e = .returned v ∧ w = w'
/-- The call hands back v; the world has drawn. -/
def RetN (v : Value) (w : World) (e : Ending) (w' : World) : Prop := e = .returned v ∧ ∃ n, w' = w.drewN n
/-- The call hands back v; nothing that lay in the world has turned. -/
def Ret (v : Value) (w : World) (e : Ending) (w' : World) : Prop := e = .returned v ∧ Below w.heap.size w w'

theorem below_drewN {B : Nat} {a w : World} (h : Below B a w) (n : Nat) : Below B a (w.drewN n) := ⟨h.os, h.tape, h.output, h.size, h.block⟩
theorem RetQ.toN {v : Value} {w w' : World} {e : Ending} (h : RetQ v w e w') : RetN v w e w' := ⟨h.1, 0, h.2.symm⟩
theorem RetN.toB {v : Value} {w w' : World} {e : Ending} (h : RetN v w e w') : Ret v w e w' := by
  obtain ⟨rfl, n, rfl⟩ := h
  exact ⟨rfl, below_drewN (Below.refl _ _) n⟩
theorem RetQ.toB {v : Value} {w w' : World} {e : Ending} (h : RetQ v w e w') : Ret v w e w' := h.toN.toB

/-- All old cells and marks read as before: two rules that the walk takes by itself. -/
theorem bcell {W w1 : World} (hb : Below W.heap.size W w1) : (∀ b o, b < W.heap.size → w1.cell? ⟨b, o, none⟩ = W.cell? ⟨b, o, none⟩) ∧ (∀ b o, b < W.heap.size → w1.frozen? ⟨b, o, none⟩ = W.frozen? ⟨b, o, none⟩) :=
  ⟨fun b o h => hb.cell (p := ⟨b, o, none⟩) h, fun b o h => hb.frozen (p := ⟨b, o, none⟩) h⟩
/-- Below B, then all that lay there is kept. -/
theorem bthen {B : Nat} {w w1 w2 : World} (h : Below B w w1) (hb : Below w1.heap.size w1 w2) (hB : B ≤ w1.heap.size) : Below B w w2 := h.trans (hb.mono hB)

/-- A cell of the block that has just been made. -/
theorem cell_new {w : World} {C : Array Value} {t : TypeId} {b o : Nat} {v : Value} (hb : b = w.heap.size) (h : C[o]? = some v) : (w.alloc (.cells C t)).cell? ⟨b, o, none⟩ = some v := by
  subst hb
  have h1 := heap_alloc_new w (.cells C t)
  unfold World.cell?
  rw [h1]
  exact h

theorem ret_bool {a b : Bool} (h : a = b) : Ending.returned (.bool a) = .returned (.bool b) := by rw [h]
theorem ret_int {k : IntKind} {a b : Int} (h : a = b) : Ending.returned (.int k a) = .returned (.int k b) := by rw [h]
theorem ret_int2 {k j : IntKind} {a b c d : Int} (h : a = b) (g : c = d) : Ending.returned (.tuple #[.int k a, .int j c]) = .returned (.tuple #[.int k b, .int j d]) := by rw [h, g]

/-- An item of a list: its four numbers. -/
structure It where
  k : Int
  f : Int
  t : Int
  s : Int
  deriving DecidableEq

/-- A slice reads as a list: element i is the k cells 'enc x' from o + i * k on. -/
def Rd {α : Type} (k : Nat) (enc : α → List Value) (w : World) (A : Option Addr) (n : Nat) (l : List α) : Prop :=
  l.length = n ∧ (0 < n → ∃ b o, A = some ⟨b, o, none⟩ ∧ b < w.heap.size ∧ ∀ (i : Nat) x, l[i]? = some x → ∀ (j : Nat) v, (enc x)[j]? = some v → w.cell? ⟨b, o + i * k + j, none⟩ = some v)

section
variable {α : Type} {k : Nat} {enc : α → List Value} {w w' : World} {A : Option Addr} {n : Nat} {l : List α}
theorem Rd.below {B : Nat} (h : Rd k enc w A n l) (hb : Below B w w') (hB : w.heap.size ≤ B) : Rd k enc w' A n l :=
  ⟨h.1, fun hn => by
    obtain ⟨b, o, e, hlt, hc⟩ := h.2 hn
    exact ⟨b, o, e, Nat.lt_of_lt_of_le hlt hb.size, fun i x hi j v hj => (hb.cell (p := ⟨b, _, none⟩) (by show b < B; omega)).trans (hc i x hi j v hj)⟩⟩
theorem Rd.drewN (h : Rd k enc w A n l) (q : Nat) : Rd k enc (w.drewN q) A n l := h
theorem Rd.nil : Rd k enc w A 0 ([] : List α) := ⟨rfl, fun h => absurd h (Nat.lt_irrefl 0)⟩
theorem Rd.gen (h : Rd k enc w A n l) {i : Nat} (hi : i < n) :
    ∃ b o x, A = some ⟨b, o, none⟩ ∧ b < w.heap.size ∧ l[i]? = some x ∧ ∀ (j : Nat) v, (enc x)[j]? = some v → w.cell? ⟨b, o + i * k + j, none⟩ = some v := by
  obtain ⟨b, o, e, hlt, hc⟩ := h.2 (by omega)
  have hl : i < l.length := by rw [h.1]; exact hi
  exact ⟨b, o, l[i], e, hlt, List.getElem?_eq_getElem hl, hc i _ (List.getElem?_eq_getElem hl)⟩

theorem flat_len (hk : ∀ x, (enc x).length = k) (l : List α) : (l.flatMap enc).length = l.length * k := by
  induction l with
  | nil => simp
  | cons a l ih => simp only [List.flatMap_cons, List.length_append, ih, hk, List.length_cons, Nat.succ_mul]; omega
theorem flat_get (hk : ∀ x, (enc x).length = k) (l : List α) (i j : Nat) (x : α) (hx : l[i]? = some x) (hj : j < k) : (l.flatMap enc)[i * k + j]? = (enc x)[j]? := by
  induction l generalizing i with
  | nil => simp at hx
  | cons a l ih =>
    rw [List.flatMap_cons]
    cases i with
    | zero =>
      obtain rfl : a = x := by simpa using hx
      rw [Nat.zero_mul, Nat.zero_add, List.getElem?_append_left (by rw [hk]; exact hj)]
    | succ i =>
      rw [List.getElem?_append_right (by rw [hk, Nat.succ_mul]; omega), hk, show (i + 1) * k + j - k = i * k + j from by rw [Nat.succ_mul]; omega]
      exact ih i (by simpa using hx)
theorem flat_inv (hk : ∀ x, (enc x).length = k) (l : List α) (m : Nat) (u : Value) (h : (l.flatMap enc)[m]? = some u) : ∃ i j x, m = i * k + j ∧ l[i]? = some x ∧ (enc x)[j]? = some u := by
  have hm : m < l.length * k := by rw [← flat_len hk]; exact (List.getElem?_eq_some_iff.1 h).1
  have hk0 : 0 < k := by
    rcases Nat.eq_zero_or_pos k with rfl | h0
    · simp at hm
    · exact h0
  have hi : m / k < l.length := (Nat.div_lt_iff_lt_mul hk0).2 hm
  have hj : m % k < k := Nat.mod_lt _ hk0
  have e : m = m / k * k + m % k := by have := Nat.div_add_mod m k; rw [Nat.mul_comm] at this; omega
  refine ⟨m / k, m % k, l[m / k], e, List.getElem?_eq_getElem hi, ?_⟩
  rw [← flat_get hk l (m / k) (m % k) _ (List.getElem?_eq_getElem hi) hj, ← e]
  exact h

/-- What a slice reads as, cell by cell, from its address on. -/
theorem Rd.news (hk : ∀ x, (enc x).length = k) {b o : Nat} (h : Rd k enc w (some ⟨b, o, none⟩) n l) : ∀ (j : Nat) u, (l.flatMap enc)[j]? = some u → w.cell? ((⟨b, o, none⟩ : Addr).add j) = some u := by
  intro m u hm
  obtain ⟨i, j, x, rfl, hx, hu⟩ := flat_inv hk l m u hm
  have hn : 0 < n := by
    have := (List.getElem?_eq_some_iff.1 hx).1
    rw [h.1] at this; omega
  obtain ⟨b', o', e, _, hc⟩ := h.2 hn
  cases e
  have := hc i x hx j u hu
  rw [show (⟨b, o, none⟩ : Addr).add (i * k + j) = ⟨b, o + i * k + j, none⟩ from by unfold Addr.add; split <;> simp_all [Nat.add_assoc]]
  exact this
/-- A row of the call's own reads as a list. -/
theorem Rd.of_own (hk : ∀ x, (enc x).length = k) {base : Nat} {e : TypeId} {v : Value} (h : w.ownsRow base e k v n (l.flatMap enc)) (hl : l.length = n) :
    ∃ A c, v = .slice A n c ∧ n ≤ c ∧ c ≤ maxLen ∧ Rd k enc w A n l ∧ (∀ a, A = some a → base ≤ a.block) := by
  rcases h.2 with ⟨rfl, rfl⟩ | ⟨g, cap, cur, rfl, hb, hg, hnc, hcm, hcs, htake⟩
  · obtain rfl : l = [] := List.length_eq_zero_iff.1 hl
    exact ⟨none, 0, rfl, Nat.le_refl _, Nat.zero_le _, Rd.nil, fun a h => by cases h⟩
  · refine ⟨_, cap, rfl, hnc, hcm, ⟨hl, fun hn => ⟨g, 0, rfl, (Array.getElem?_eq_some_iff.1 hg).1, fun i x hx j v hj => ?_⟩⟩, fun a h => by cases h; exact hb⟩
    have hjk : j < k := by have := (List.getElem?_eq_some_iff.1 hj).1; rwa [hk] at this
    have h1 := h.cells (g := g) rfl (i * k + j) v (by rw [flat_get hk l i j x hx hjk]; exact hj)
    rwa [show (⟨g, 0, none⟩ : Addr).add (i * k + j) = ⟨g, 0 + i * k + j, none⟩ from by unfold Addr.add; split <;> simp_all [Nat.add_assoc]] at h1
end

def itEnc (i : It) : List Value := [.int .i64 i.k, .int .i64 i.f, .int .i64 i.t, .int .i64 i.s]
theorem itEnc_len (x : It) : (itEnc x).length = 4 := rfl
/-- A slice of items reads as a list. -/
abbrev RdIts (w : World) (A : Option Addr) (n : Nat) (l : List It) : Prop := Rd 4 itEnc w A n l
theorem RdIts.at_ {w : World} {A : Option Addr} {n : Nat} {l : List It} (h : RdIts w A n l) {i : Nat} (hi : i < n) :
    ∃ b o it, A = some ⟨b, o, none⟩ ∧ b < w.heap.size ∧ l[i]? = some it ∧ w.cell? ⟨b, o + i * 4, none⟩ = some (.int .i64 it.k) ∧ w.cell? ⟨b, o + i * 4 + 1, none⟩ = some (.int .i64 it.f) ∧
    w.cell? ⟨b, o + i * 4 + 2, none⟩ = some (.int .i64 it.t) ∧ w.cell? ⟨b, o + i * 4 + 3, none⟩ = some (.int .i64 it.s) := by
  obtain ⟨b, o, it, e, hlt, hl, hc⟩ := h.gen hi
  exact ⟨b, o, it, e, hlt, hl, hc 0 _ rfl, hc 1 _ rfl, hc 2 _ rfl, hc 3 _ rfl⟩

def intEnc (i : Int) : List Value := [.int .i64 i]
theorem intEnc_len (x : Int) : (intEnc x).length = 1 := rfl
/-- A slice of ints reads as a list. -/
abbrev RdInts (w : World) (A : Option Addr) (n : Nat) (l : List Int) : Prop := Rd 1 intEnc w A n l
theorem one_at {α : Type} {f : α → Value} {w : World} {A : Option Addr} {n : Nat} {l : List α} (h : Rd 1 (fun x => [f x]) w A n l) {i : Nat} (hi : i < n) :
    ∃ b o x, A = some ⟨b, o, none⟩ ∧ b < w.heap.size ∧ l[i]? = some x ∧ w.cell? ⟨b, o + i, none⟩ = some (f x) := by
  obtain ⟨b, o, x, e, hlt, hl, hc⟩ := h.gen hi
  have := hc 0 _ rfl
  rw [Nat.mul_one, Nat.add_zero] at this
  exact ⟨b, o, x, e, hlt, hl, this⟩
theorem RdInts.at_ {w : World} {A : Option Addr} {n : Nat} {l : List Int} (h : RdInts w A n l) {i : Nat} (hi : i < n) :
    ∃ b o x, A = some ⟨b, o, none⟩ ∧ b < w.heap.size ∧ l[i]? = some x ∧ w.cell? ⟨b, o + i, none⟩ = some (.int .i64 x) := one_at (f := fun x => .int .i64 x) h hi

end Go.Proofs.Ythkleinjddkhoaa
