/- The walk of item.Of. -/
import Derived.Test.YtgliminiiciflaaDoorWCover2
import Derived.Test.YtgliminiiciflaaDoorWSame
import Derived.Test.YtgliminiiciflaaDoorWClone
namespace Go.Proofs.YtgliminiiciflaaDoor
open Go.RowKit
set_option linter.unusedSimpArgs false
set_option linter.unusedVariables false

def itP (p : Pc) : It := if lenC p = 1 then ⟨1, p.f, 0, 0⟩ else ⟨2, p.f, p.t, p.s⟩
def itemsOf (lo hi : Int) (l : List Int) (star : Bool) : List It := if star = true ∧ coverL l = [⟨lo, hi, 1⟩] then [⟨0, 0, 0, 1⟩] else (coverL l).map itP
abbrev OwnIts (w : World) (B : Nat) (v : Value) (l : List It) : Prop := w.ownsRow B 26 4 v l.length (l.flatMap itEnc)
def RetOwnIts (l : List It) (w : World) (e : Ending) (w' : World) : Prop := ∃ v, e = .returned v ∧ OwnIts w' w.heap.size v l ∧ Below w.heap.size w w'
theorem own_base {w : World} {B B' k n : Nat} {v : Value} {t : TypeId} {xs : List Value} (h : w.ownsRow B t k v n xs) (hB : B' ≤ B) : w.ownsRow B' t k v n xs := by
  refine ⟨h.1, ?_⟩
  rcases h.2 with h | ⟨g, cap, cur, hv, hb, h3⟩
  · exact .inl h
  · exact .inr ⟨g, cap, cur, hv, Nat.le_trans hB hb, h3⟩
theorem own_new (w : World) (cur : Array Value) (e : TypeId) (size n : Nat) (hm : n ≤ maxLen) (hs : cur.size = n * size) : (w.alloc (.cells cur e)).ownsRow w.heap.size e size (.slice (some ⟨w.heap.size, 0, none⟩) n n) n cur.toList :=
  ⟨by simpa using hs, .inr ⟨w.heap.size, n, cur, rfl, Nat.le_refl _, heap_alloc_new w _, Nat.le_refl _, hm, hs, List.take_of_length_le (by rw [← hs]; exact Nat.le_refl _)⟩⟩
theorem coverF_len : ∀ k l, (coverF k l).length ≤ k
  | 0, _ => by simp [coverF]
  | k + 1, [] => by simp [coverF]
  | k + 1, a :: l => by simp only [coverF, List.length_cons]; have := coverF_len k ((a :: l).drop (pieceC a l).2); omega
theorem coverL_len (l : List Int) : (coverL l).length ≤ l.length := by
  unfold coverL
  split
  · exact coverF_len _ _
  · simp
def pcEq (a b : Pc) : Bool := decide (a = b)
theorem pcEq_def (a b : Pc) : pcEq a b = (decide (a.f = b.f) && (decide (a.t = b.t) && decide (a.s = b.s))) := by
  cases a; cases b
  simp [pcEq]
end Go.Proofs.YtgliminiiciflaaDoor
