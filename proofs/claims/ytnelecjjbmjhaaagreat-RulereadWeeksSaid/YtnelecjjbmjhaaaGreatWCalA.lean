/- The walks of package week's names, and of the reader's words and numbers of package calread. -/
import Derived.Test.YtnelecjjbmjhaaaGreatWPs
import Derived.Laws.IdiomStrings
import Derived.Test.YtnelecjjbmjhaaaGreatRCal
import Derived.Test.YtnelecjjbmjhaaaGreatShelf
import Derived.Test.YtnelecjjbmjhaaaGreatWArr
import Derived.Test.YtnelecjjbmjhaaaGreatWBox
/- The walks of the functions that make a text small, in a slice of bytes. -/
namespace Go.Proofs.YtnelecjjbmjhaaaGreat
open Go.RowKit
set_option linter.unusedSimpArgs false
set_option linter.unusedVariables false

/-- The bytes of a text, the first k of them made small. -/
def SmallAt (w : World) (B : Nat) (s : ByteArray) (k : Nat) : Prop :=
  ∀ j x, s.data.toList[j]? = some x → w.cell? ⟨B, j, none⟩ = some (.int .u8 ((if j < k then lowerB x else x).toNat : Int)) ∧ w.frozen? ⟨B, j, none⟩ = false
theorem smallAt_new (s : ByteArray) (w : World) (C : Array Value) (t : TypeId) (hC : ∀ (i : Nat) (x : UInt8), s.data.toList[i]? = some x → C[i]? = some (Value.int .u8 (x.toNat : Int))) :
    SmallAt (w.alloc (.cells C t (C.size, C.size + 1))) w.heap.size s 0 := by
  intro j x hx
  have h1 := heap_alloc_new w (.cells C t (C.size, C.size + 1))
  have h2 := hC j x hx
  have hj := (Array.getElem?_eq_some_iff.1 h2).1
  refine ⟨?_, ?_⟩
  · unfold World.cell?
    rw [h1, if_neg (Nat.not_lt_zero _)]
    exact h2
  · unfold World.frozen?
    rw [h1]
    simp
    omega
theorem lowerB_up {c : UInt8} (h : 65 ≤ c.toNat ∧ c.toNat ≤ 90) : (c.toNat : Int) + 32 = ((lowerB c).toNat : Int) := by
  unfold lowerB
  rw [if_pos h, UInt8.toNat_add]
  have : (32 : UInt8).toNat = 32 := rfl
  omega
theorem SmallAt.skip {w : World} {B k : Nat} {s : ByteArray} (h : SmallAt w B s k) {hk : k < s.size} (hv : lowerB s[k] = s[k]) (hk' : k < s.size) : SmallAt w B s (k + 1) := by
  intro j x hx
  obtain ⟨h1, h2⟩ := h j x hx
  refine ⟨?_, h2⟩
  rw [h1]
  by_cases hj : j < k
  · rw [if_pos hj, if_pos (by omega)]
  · rw [if_neg hj]
    by_cases hj2 : j < k + 1
    · obtain rfl : j = k := by omega
      rw [byte_at s j hk'] at hx
      cases hx
      rw [if_pos hj2, hv]
    · rw [if_neg hj2]
theorem SmallAt.step {w : World} {B k : Nat} {s : ByteArray} {v : Int} (h : SmallAt w B s k) (hk : k < s.size) (hv : v = ((lowerB s[k]).toNat : Int)) : SmallAt (w.setCell ⟨B, k, none⟩ (.int .u8 v)) B s (k + 1) := by
  intro j x hx
  obtain ⟨h1, h2⟩ := h j x hx
  refine ⟨?_, by rw [World.frozen?_setCell]; exact h2⟩
  by_cases hj : j = k
  · subst hj
    rw [World.cell?_setCell_same _ _ _ h1, if_pos (Nat.lt_succ_self _), hv]
    rw [byte_at s j hk] at hx
    cases hx; rfl
  · rw [World.cell?_setCell_other _ _ _ _ (by intro e; injection e with _ e2; exact hj e2.symm), h1]
    by_cases hj1 : j < k
    · rw [if_pos hj1, if_pos (by omega)]
    · rw [if_neg hj1, if_neg (by omega)]
theorem smallAt_end {w : World} {B : Nat} {s : ByteArray} (h : SmallAt w B s s.size) (cap : Nat) :
    (convert 64 9 (.slice (some ⟨B, 0, none⟩) s.size cap)).run Tryz.prog w = .ok (.string (strB (lowerL s.data.toList))) w := by
  have := run_convert_bytes_back (P := Tryz.prog) w 64 9 5 ⟨B, 0, none⟩ cap (lowerL s.data.toList) Tryz.underlying64 Tryz.underlying5 Tryz.underlying9 (by
    intro j hj
    have hj' : j < s.data.toList.length := by simpa [lowerL] using hj
    have hx : s.data.toList[j]? = some (s.data.toList[j]) := List.getElem?_eq_getElem hj'
    obtain ⟨h1, _⟩ := h j _ hx
    rw [if_pos (by rwa [len_data] at hj')] at h1
    have e : (⟨B, 0, none⟩ : Addr).add j = ⟨B, j, none⟩ := by unfold Addr.add; split <;> simp_all
    rw [e, h1]
    simp [lowerL])
  have hl : (lowerL s.data.toList).length = s.size := by simp [lowerL]
  rw [hl] at this
  exact this

end Go.Proofs.YtnelecjjbmjhaaaGreat

namespace Go.Proofs.YtnelecjjbmjhaaaGreat
open Go.RowKit
set_option linter.unusedSimpArgs false
set_option linter.unusedVariables false

/-- HasPrefix. -/
theorem hasPre_any (s t : ByteArray) (hs : s.size ≤ 9223372036854775807) (ht : t.size ≤ 9223372036854775807) (w : World) : Calls Tryz.prog 62 #[.string s, .string t] w (RetQ (.bool (decide (t.data.toList <+: s.data.toList))) w) := by
  generalize hq : decide (t.data.toList <+: s.data.toList) = q
  have HQ := Lib.hid hq
  clear hq
  have HH : Hid (∀ W, Calls Tryz.prog 86 #[.string s, .string t] W (RetQ (.bool q) W)) := by
    intro W
    by_cases hle : t.size ≤ s.size
    · have hle' : (t.size : Int) ≤ (s.size : Int) := by omega
      go_enter Tryz.func86, Tryz.ntmps86
      go_wp2
      go_ret
      refine ⟨ret_bool ?_, rfl⟩
      rw [← HQ.out, Bool.eq_iff_iff, decide_eq_true_eq, beq_iff_eq, ByteArray.toList_eq, ByteArray.toList_eq, extract_list, List.drop_zero, Nat.sub_zero, List.prefix_iff_eq_take, len_data]
      exact eq_comm
    · have hle' : ¬ (t.size : Int) ≤ (s.size : Int) := by omega
      have hq : Hid (q = false) := by
        show _ = _
        rw [← HQ.out]
        exact decide_eq_false (fun h => by have := h.length_le; rw [len_data, len_data] at this; omega)
      go_enter Tryz.func86, Tryz.ntmps86
      go_wp2
      go_ret
      exact ⟨ret_bool hq.out.symm, rfl⟩
  go_enter Tryz.func62, Tryz.ntmps62
  go_wp2_with fail
  refine (HH.out _).mono ?_
  rintro e w1 ⟨rfl, rfl⟩
  go_wp2
  go_ret
  exact ⟨rfl, rfl⟩
/-- The weekdays' names, as they are written. -/
def wkNm (k : Nat) : List UInt8 := if k = 0 then [77, 111, 110] else if k = 1 then [84, 117, 101] else if k = 2 then [87, 101, 100] else if k = 3 then [84, 104, 117] else if k = 4 then [70, 114, 105] else if k = 5 then [83, 97, 116] else [83, 117, 110]
def wkNames : Value := .agg #[.string (strB (wkNm 0)), .string (strB (wkNm 1)), .string (strB (wkNm 2)), .string (strB (wkNm 3)), .string (strB (wkNm 4)), .string (strB (wkNm 5)), .string (strB (wkNm 6))]
theorem wkNames_at (k : Nat) (hk : k < 7) (w : World) : (Instr.index 118 wkNames (.int .i64 (k : Int))).run Tryz.prog w = .ok (.string (strB (wkNm k))) w := by
  obtain rfl | rfl | rfl | rfl | rfl | rfl | rfl : k = 0 ∨ k = 1 ∨ k = 2 ∨ k = 3 ∨ k = 4 ∨ k = 5 ∨ k = 6 := by omega
  all_goals kernel_rfl
theorem strB_tol (x : List UInt8) : (strB x).toList = x := by rw [ByteArray.toList_eq, strB_data]
theorem str_test {x y : List UInt8} (b : Bool) (h : decide (x = y) = b) : ((strB x).toList == (strB y).toList) = b := by
  rw [strB_tol, strB_tol, ← h, Bool.eq_iff_iff, beq_iff_eq, decide_eq_true_eq]
theorem wkN_at {k : Nat} (hk : k < 7) : wkN[k]? = some (lowerL (wkNm k)) := by
  obtain rfl | rfl | rfl | rfl | rfl | rfl | rfl : k = 0 ∨ k = 1 ∨ k = 2 ∨ k = 3 ∨ k = 4 ∨ k = 5 ∨ k = 6 := by omega
  all_goals rfl
theorem wk_hit {x : List UInt8} {k : Nat} (hk : k < 7) (h : x = lowerL (wkNm k)) : wIdx x wkN + 1 = (k : Int) + 1 := by
  subst h
  obtain rfl | rfl | rfl | rfl | rfl | rfl | rfl : k = 0 ∨ k = 1 ∨ k = 2 ∨ k = 3 ∨ k = 4 ∨ k = 5 ∨ k = 6 := by omega
  all_goals decide
theorem wk_miss {x : List UInt8} (h : ∀ j, j < 7 → x ≠ lowerL (wkNm j)) : wIdx x wkN + 1 = 0 := by
  have : wkN.idxOf? x = none := by
    rw [List.idxOf?_eq_none_iff]
    intro hx
    obtain ⟨j, hj⟩ := List.getElem?_of_mem hx
    have hj7 : j < 7 := (List.getElem?_eq_some_iff.1 hj).1
    rw [wkN_at hj7] at hj
    exact h j hj7 (by injection hj with e; exact e.symm)
  unfold wIdx
  rw [this]
  rfl
theorem wkNm_len (k : Nat) : (wkNm k).length ≤ 3 := by
  unfold wkNm
  repeat' split
  all_goals decide
end Go.Proofs.YtnelecjjbmjhaaaGreat
