/- The walk of slices.Clone at items. -/
import Derived.Test.YtochhmkdhdadhaaGreatRows
import Derived.Test.YtochhmkdhdadhaaGreatWArr
namespace Go.Proofs.YtochhmkdhdadhaaGreat
open Go.RowKit
set_option linter.unusedSimpArgs false
set_option linter.unusedVariables false

abbrev OwnIts (w : World) (B : Nat) (v : Value) (l : List It) : Prop := w.ownsRow B 59 4 v l.length (l.flatMap itEnc)
theorem own_base {w : World} {B B' k n : Nat} {v : Value} {t : TypeId} {xs : List Value} (h : w.ownsRow B t k v n xs) (hB : B' ≤ B) : w.ownsRow B' t k v n xs := by
  refine ⟨h.1, ?_⟩
  rcases h.2 with h | ⟨g, cap, cur, hv, hb, h3⟩
  · exact .inl h
  · exact .inr ⟨g, cap, cur, hv, Nat.le_trans hB hb, h3⟩
theorem own_new (w : World) (cur : Array Value) (e : TypeId) (size n : Nat) (hm : n ≤ maxLen) (hs : cur.size = n * size) : (w.alloc (.cells cur e)).ownsRow w.heap.size e size (.slice (some ⟨w.heap.size, 0, none⟩) n n) n cur.toList :=
  ⟨by simpa using hs, .inr ⟨w.heap.size, n, cur, rfl, Nat.le_refl _, heap_alloc_new w _, Nat.le_refl _, hm, hs, List.take_of_length_le (by rw [← hs]; exact Nat.le_refl _)⟩⟩
theorem info_it : (Tryz.prog.info? 59).map (fun i => (i.zero, i.size, i.bytes)) = some (some (.agg #[.int .i64 0, .int .i64 0, .int .i64 0, .int .i64 0]), 4, 32) := by kernel_rfl
theorem oneCell_its (l : List It) : ∀ u ∈ l.flatMap itEnc, u.oneCell' = true := by
  intro u hu
  simp only [List.mem_flatMap, itEnc, List.mem_cons, List.not_mem_nil, or_false] at hu
  obtain ⟨x, _, h⟩ := hu
  rcases h with rfl | rfl | rfl | rfl <;> rfl

/-- A new slice that reads as the list. -/
def RetIts (n : Nat) (l : List It) (w : World) (e : Ending) (w' : World) : Prop := ∃ A c, e = .returned (.slice A n c) ∧ RdIts w' A n l ∧ Below w.heap.size w w'

set_option maxHeartbeats 400000 in
theorem clone_any (A : Option Addr) (n c : Nat) (l : List It) (w : World) (hA : RdIts w A n l) (hn : n ≤ 4294967296) (hnil : A = none → n = 0) :
    Calls Tryz.prog 55 #[.slice A n c] w (RetIts n l w) := by
  have HL : Hid (l.length = n) := hA.1
  have heql := fun W => Lib.run_eql_slice_nil (P := Tryz.prog) W 22 59 A n c 0 0 Tryz.underlying22
  rcases A with _ | ⟨b, o, sp⟩
  · have h0 : n = 0 := hnil rfl
    subst h0
    go_enter Tryz.func55, Tryz.ntmps55
    go_wp2
    go_ret
    exact ⟨none, 0, rfl, hA, Below.refl _ _⟩
  · have hsp : 0 < n → sp = none := fun h => by
      obtain ⟨b', o', e, _⟩ := hA.2 h
      cases e; rfl
    obtain ⟨i0, hi0, hz0, hz1, hz2⟩ := info_parts info_it
    have hnews : ∀ (j : Nat) u, (l.flatMap itEnc)[j]? = some u → w.cell? ((⟨b, o, sp⟩ : Addr).add j) = some u := by
      intro j u hu
      have hn0 : 0 < n := by
        obtain ⟨i, _, x, _, hx, _⟩ := flat_inv itEnc_len l j u hu
        have := (List.getElem?_eq_some_iff.1 hx).1
        have := HL.out; omega
      have := hsp hn0
      subst this
      exact Rd.news itEnc_len hA j u hu
    have hall : ∀ (O : Obj) (j : Nat) u, (l.flatMap itEnc)[j]? = some u → (w.alloc O).cell? ((⟨b, o, sp⟩ : Addr).add j) = some u := fun O j u hu => by
      have h1 := hnews j u hu
      have hlt := World.block_lt_of_cell? w _ h1
      exact (World.cell?_alloc_lt w O _ hlt).trans h1
    have hlen : (l.flatMap itEnc).length = n * 4 := by rw [flat_len itEnc_len, HL.out]
    have HN := Lib.hid hall
    clear hall hnews hsp
    go_enter Tryz.func55, Tryz.ntmps55
    go_wp2_with (at_builtin; refine wpList_append_own _ rfl _ _ 22 rfl w.heap.size 59 i0 _ 4 32 Tryz.underlying22 hi0 hz0 hz1 hz2 rfl (by decide) _ 0 [] rfl ?c0 ⟨b, o, sp⟩ n c (l.flatMap itEnc) rfl hlen ?c1 (oneCell_its l) ?c2 ?c3 ?c4 ?c5)
    case c0 => exact World.ownsRow_made w #[] 0 (Nat.le_refl _) (Nat.zero_le _) rfl
    case c1 => exact HN.out _
    case c2 => simp only [maxLen]; omega
    case c3 => omega
    case c4 => simp
    case c5 =>
      intro v' w' hown hg _
      have hown : w'.ownsRow w.heap.size 59 4 v' n (l.flatMap itEnc) := by simpa using hown
      obtain ⟨A', c', rfl, _, _, hr, _⟩ := Rd.of_own itEnc_len hown HL.out
      have hbl : Below w.heap.size w w' := ((Below.refl _ w).alloc (Nat.le_refl _) _).grown hg (by simp) (by simp [Value.ownBlock])
      go_wp2
      go_ret
      exact ⟨A', c', rfl, hr, hbl⟩
end Go.Proofs.YtochhmkdhdadhaaGreat
