/- The walks of package calread's reader: parts of a second, words, weekdays. -/
import Derived.Test.YtochhmkdhdadhaaGreatRGoes
import Derived.Laws.IdiomStrings
import Derived.Test.YtochhmkdhdadhaaGreatRCalMay
import Derived.Test.YtochhmkdhdadhaaGreatShelf
import Derived.Test.YtochhmkdhdadhaaGreatWArr
import Derived.Test.YtochhmkdhdadhaaGreatWBox
import Derived.StillTailTactics
import Derived.Lib.IndexMore
/- The walks of package week's names, and of the reader's words and numbers of package calread. -/
/- The walks of the functions that make a text small, in a slice of bytes. -/
namespace Go.Proofs.YtochhmkdhdadhaaGreat
open Go.RowKit
set_option linter.unusedSimpArgs false
set_option linter.unusedVariables false

/-- The bytes of a text, the first k of them made small. -/
def SmallAt (w : World) (B : Nat) (s : ByteArray) (k : Nat) : Prop :=
  ∀ j x, s.data.toList[j]? = some x → w.cell? ⟨B, j, none⟩ = some (.int .u8 ((if j < k then lowerB x else x).toNat : Int)) ∧ w.frozen? ⟨B, j, none⟩ = false
theorem smallAt_new (s : ByteArray) (w : World) (C : Array Value) (t : TypeId) (hC : ∀ (i : Nat) (x : UInt8), s.data.toList[i]? = some x → C[i]? = some (Value.int .u8 (x.toNat : Int))) :
    SmallAt (w.alloc (.cells C t (C.size, C.size + 1))) w.heap.size s 0 := by
  intro j x hx
  have h1 := heap_alloc_new w (.cells C t (C.size, C.size + 1))
  have h2 := hC j x hx
  have hj := (Array.getElem?_eq_some_iff.1 h2).1
  refine ⟨?_, ?_⟩
  · unfold World.cell?
    rw [h1, if_neg (Nat.not_lt_zero _)]
    exact h2
  · unfold World.frozen?
    rw [h1]
    simp
    omega
theorem lowerB_up {c : UInt8} (h : 65 ≤ c.toNat ∧ c.toNat ≤ 90) : (c.toNat : Int) + 32 = ((lowerB c).toNat : Int) := by
  unfold lowerB
  rw [if_pos h, UInt8.toNat_add]
  have : (32 : UInt8).toNat = 32 := rfl
  omega
theorem SmallAt.skip {w : World} {B k : Nat} {s : ByteArray} (h : SmallAt w B s k) {hk : k < s.size} (hv : lowerB s[k] = s[k]) (hk' : k < s.size) : SmallAt w B s (k + 1) := by
  intro j x hx
  obtain ⟨h1, h2⟩ := h j x hx
  refine ⟨?_, h2⟩
  rw [h1]
  by_cases hj : j < k
  · rw [if_pos hj, if_pos (by omega)]
  · rw [if_neg hj]
    by_cases hj2 : j < k + 1
    · obtain rfl : j = k := by omega
      rw [byte_at s j hk'] at hx
      cases hx
      rw [if_pos hj2, hv]
    · rw [if_neg hj2]
theorem SmallAt.step {w : World} {B k : Nat} {s : ByteArray} {v : Int} (h : SmallAt w B s k) (hk : k < s.size) (hv : v = ((lowerB s[k]).toNat : Int)) : SmallAt (w.setCell ⟨B, k, none⟩ (.int .u8 v)) B s (k + 1) := by
  intro j x hx
  obtain ⟨h1, h2⟩ := h j x hx
  refine ⟨?_, by rw [World.frozen?_setCell]; exact h2⟩
  by_cases hj : j = k
  · subst hj
    rw [World.cell?_setCell_same _ _ _ h1, if_pos (Nat.lt_succ_self _), hv]
    rw [byte_at s j hk] at hx
    cases hx; rfl
  · rw [World.cell?_setCell_other _ _ _ _ (by intro e; injection e with _ e2; exact hj e2.symm), h1]
    by_cases hj1 : j < k
    · rw [if_pos hj1, if_pos (by omega)]
    · rw [if_neg hj1, if_neg (by omega)]
theorem smallAt_end {w : World} {B : Nat} {s : ByteArray} (h : SmallAt w B s s.size) (cap : Nat) :
    (convert 164 9 (.slice (some ⟨B, 0, none⟩) s.size cap)).run Tryz.prog w = .ok (.string (strB (lowerL s.data.toList))) w := by
  have := run_convert_bytes_back (P := Tryz.prog) w 164 9 5 ⟨B, 0, none⟩ cap (lowerL s.data.toList) Tryz.underlying164 Tryz.underlying5 Tryz.underlying9 (by
    intro j hj
    have hj' : j < s.data.toList.length := by simpa [lowerL] using hj
    have hx : s.data.toList[j]? = some (s.data.toList[j]) := List.getElem?_eq_getElem hj'
    obtain ⟨h1, _⟩ := h j _ hx
    rw [if_pos (by rwa [len_data] at hj')] at h1
    have e : (⟨B, 0, none⟩ : Addr).add j = ⟨B, j, none⟩ := by unfold Addr.add; split <;> simp_all
    rw [e, h1]
    simp [lowerL])
  have hl : (lowerL s.data.toList).length = s.size := by simp [lowerL]
  rw [hl] at this
  exact this

set_option maxRecDepth 20000 in
set_option maxHeartbeats 1000000 in
theorem wsmall_any (s : ByteArray) (hs : s.size ≤ 9223372036854775807) (w : World) : Calls Tryz.prog 174 #[.string s] w (Ret (.string (strB (lowerL s.data.toList))) w) := by
  obtain ⟨cap, C, hconv, hC⟩ := conv_bytes s w
  have HC := Lib.hid hC
  clear hC
  have H0 : Hid (SmallAt (w.drew.alloc (.cells C 5 (C.size, C.size + 1))) w.heap.size s 0) := smallAt_new s w.drew C 5 HC.out
  have hconv := hconv
  go_enter Tryz.func174, Tryz.ntmps174
  go_wp2
  go_loopw [10] (fun i wr => ∃ k : Nat, k ≤ s.size ∧ i = .int .i64 k ∧ Hid (SmallAt wr w.heap.size s k) ∧ Below w.heap.size w wr) (fun i _ => s.size - (intOf i).toNat)
  case atStart => exact ⟨0, Nat.zero_le _, rfl, H0.out, by (repeat' (first | (with_reducible exact Below.refl _ _) | (with_reducible assumption) | (with_reducible refine below_drewN ?_ _) | (with_reducible refine Below.alloc ?_ ?_ _) | (with_reducible refine Below.drew ?_) | (with_reducible refine Below.setCell ?_ ?_ _) | go_size))⟩
  case round =>
    obtain ⟨k, hk, rfl, HS, hb⟩ := hrel
    have hsz := hb.size
    by_cases hlt : k < s.size
    · have hlt' : (k : Int) < (s.size : Int) := by omega
      obtain ⟨c0, f0⟩ := HS.out k s[k] (byte_at s k hlt)
      rw [if_neg (Nat.lt_irrefl k)] at c0
      have hx0 : (0 : Int) ≤ (s[k].toNat : Int) := by omega
      have hx1 : (s[k].toNat : Int) ≤ 255 := by have := s[k].toNat_lt; omega
      by_cases hup : 65 ≤ s[k].toNat ∧ s[k].toNat ≤ 90
      · have hu1 : (65 : Int) ≤ (s[k].toNat : Int) := by omega
        have hu2 : (s[k].toNat : Int) ≤ 90 := by omega
        have HV : Hid ((s[k].toNat : Int) + 32 = ((lowerB s[k]).toNat : Int)) := lowerB_up hup
        clear hup
        generalize hz : (s[k].toNat : Int) = z at *
        clear hz
        go_wp2
        go_roundw
        case rel => exact ⟨k + 1, by omega, by go_num, HS.out.step hlt (by have hv := HV.out; omega), hb.setCell (Nat.le_refl _) _⟩
        case measure => simp [intOf]; omega
      · have HV : Hid (lowerB s[k] = s[k]) := if_neg hup
        by_cases hu1 : (65 : Int) ≤ (s[k].toNat : Int)
        · have hu2 : ¬ (s[k].toNat : Int) ≤ 90 := by omega
          clear hup
          go_wp2
          go_roundw
          case rel => exact ⟨k + 1, by omega, by go_num, HS.out.skip HV.out hlt, hb⟩
          case measure => simp [intOf]; omega
        · clear hup
          go_wp2
          go_roundw
          case rel => exact ⟨k + 1, by omega, by go_num, HS.out.skip HV.out hlt, hb⟩
          case measure => simp [intOf]; omega
    · obtain rfl : k = s.size := by omega
      have hback := smallAt_end HS.out cap
      go_wp2
      go_ret
      exact ⟨rfl, hb⟩
set_option maxRecDepth 20000 in
set_option maxHeartbeats 1000000 in
theorem csmall_any (s : ByteArray) (hs : s.size ≤ 9223372036854775807) (w : World) : Calls Tryz.prog 71 #[.string s] w (Ret (.string (strB (lowerL s.data.toList))) w) := by
  obtain ⟨cap, C, hconv, hC⟩ := conv_bytes s w
  have HC := Lib.hid hC
  clear hC
  have H0 : Hid (SmallAt (w.drew.alloc (.cells C 5 (C.size, C.size + 1))) w.heap.size s 0) := smallAt_new s w.drew C 5 HC.out
  have hconv := hconv
  go_enter Tryz.func71, Tryz.ntmps71
  go_wp2
  go_loopw [10] (fun i wr => ∃ k : Nat, k ≤ s.size ∧ i = .int .i64 k ∧ Hid (SmallAt wr w.heap.size s k) ∧ Below w.heap.size w wr) (fun i _ => s.size - (intOf i).toNat)
  case atStart => exact ⟨0, Nat.zero_le _, rfl, H0.out, by (repeat' (first | (with_reducible exact Below.refl _ _) | (with_reducible assumption) | (with_reducible refine below_drewN ?_ _) | (with_reducible refine Below.alloc ?_ ?_ _) | (with_reducible refine Below.drew ?_) | (with_reducible refine Below.setCell ?_ ?_ _) | go_size))⟩
  case round =>
    obtain ⟨k, hk, rfl, HS, hb⟩ := hrel
    have hsz := hb.size
    by_cases hlt : k < s.size
    · have hlt' : (k : Int) < (s.size : Int) := by omega
      obtain ⟨c0, f0⟩ := HS.out k s[k] (byte_at s k hlt)
      rw [if_neg (Nat.lt_irrefl k)] at c0
      have hx0 : (0 : Int) ≤ (s[k].toNat : Int) := by omega
      have hx1 : (s[k].toNat : Int) ≤ 255 := by have := s[k].toNat_lt; omega
      by_cases hup : 65 ≤ s[k].toNat ∧ s[k].toNat ≤ 90
      · have hu1 : (65 : Int) ≤ (s[k].toNat : Int) := by omega
        have hu2 : (s[k].toNat : Int) ≤ 90 := by omega
        have HV : Hid ((s[k].toNat : Int) + 32 = ((lowerB s[k]).toNat : Int)) := lowerB_up hup
        clear hup
        generalize hz : (s[k].toNat : Int) = z at *
        clear hz
        go_wp2
        go_roundw
        case rel => exact ⟨k + 1, by omega, by go_num, HS.out.step hlt (by have hv := HV.out; omega), hb.setCell (Nat.le_refl _) _⟩
        case measure => simp [intOf]; omega
      · have HV : Hid (lowerB s[k] = s[k]) := if_neg hup
        by_cases hu1 : (65 : Int) ≤ (s[k].toNat : Int)
        · have hu2 : ¬ (s[k].toNat : Int) ≤ 90 := by omega
          clear hup
          go_wp2
          go_roundw
          case rel => exact ⟨k + 1, by omega, by go_num, HS.out.skip HV.out hlt, hb⟩
          case measure => simp [intOf]; omega
        · clear hup
          go_wp2
          go_roundw
          case rel => exact ⟨k + 1, by omega, by go_num, HS.out.skip HV.out hlt, hb⟩
          case measure => simp [intOf]; omega
    · obtain rfl : k = s.size := by omega
      have hback := smallAt_end HS.out cap
      go_wp2
      go_ret
      exact ⟨rfl, hb⟩
end Go.Proofs.YtochhmkdhdadhaaGreat

namespace Go.Proofs.YtochhmkdhdadhaaGreat
open Go.RowKit
set_option linter.unusedSimpArgs false
set_option linter.unusedVariables false

/-- The letter's test of package calread. -/
theorem kletter_any (c : Int) (w : World) : Calls Tryz.prog 73 #[.int .u8 c] w (RetQ (.bool (ltrI c)) w) := by
  generalize hq : ltrI c = q
  have HQ := Lib.hid hq
  clear hq
  go_enter Tryz.func73, Tryz.ntmps73
  go_wp2
  all_goals go_ret
  all_goals (refine ⟨ret_bool ?_, rfl⟩; rw [← HQ.out]; ((try simp only [beq_iff_eq, beq_eq_false_iff_ne, bne_iff_ne, ne_eq, ltrI, decide_eq_true_eq, decide_eq_false_iff_not, Bool.and_eq_true, Bool.or_eq_true, Bool.not_eq_true', Bool.not_eq_false', Bool.and_eq_false_iff, Bool.or_eq_false_iff] at *)
                                                        rw [Bool.eq_iff_iff]
                                                        (try simp only [ltrI, decide_eq_true_eq, beq_iff_eq, bne_iff_ne, ne_eq, Bool.and_eq_true, Bool.or_eq_true, Bool.not_eq_true', Bool.not_eq_false', beq_eq_false_iff_ne, decide_eq_false_iff_not, iff_true, true_iff, Bool.false_eq_true, false_iff, iff_false, reduceCtorEq])
                                                        omega))
/-- HasPrefix. -/
theorem hasPre_any (s t : ByteArray) (hs : s.size ≤ 9223372036854775807) (ht : t.size ≤ 9223372036854775807) (w : World) : Calls Tryz.prog 143 #[.string s, .string t] w (RetQ (.bool (decide (t.data.toList <+: s.data.toList))) w) := by
  generalize hq : decide (t.data.toList <+: s.data.toList) = q
  have HQ := Lib.hid hq
  clear hq
  have HH : Hid (∀ W, Calls Tryz.prog 175 #[.string s, .string t] W (RetQ (.bool q) W)) := by
    intro W
    by_cases hle : t.size ≤ s.size
    · have hle' : (t.size : Int) ≤ (s.size : Int) := by omega
      go_enter Tryz.func175, Tryz.ntmps175
      go_wp2
      go_ret
      refine ⟨ret_bool ?_, rfl⟩
      rw [← HQ.out, Bool.eq_iff_iff, decide_eq_true_eq, beq_iff_eq, ByteArray.toList_eq, ByteArray.toList_eq, extract_list, List.drop_zero, Nat.sub_zero, List.prefix_iff_eq_take, len_data]
      exact eq_comm
    · have hle' : ¬ (t.size : Int) ≤ (s.size : Int) := by omega
      have hq : Hid (q = false) := by
        show _ = _
        rw [← HQ.out]
        exact decide_eq_false (fun h => by have := h.length_le; rw [len_data, len_data] at this; omega)
      go_enter Tryz.func175, Tryz.ntmps175
      go_wp2
      go_ret
      exact ⟨ret_bool hq.out.symm, rfl⟩
  go_enter Tryz.func143, Tryz.ntmps143
  go_wp2_with fail
  refine (HH.out _).mono ?_
  rintro e w1 ⟨rfl, rfl⟩
  go_wp2
  go_ret
  exact ⟨rfl, rfl⟩
/-- The weekdays' names, as they are written. -/
def wkNm (k : Nat) : List UInt8 := if k = 0 then [77, 111, 110] else if k = 1 then [84, 117, 101] else if k = 2 then [87, 101, 100] else if k = 3 then [84, 104, 117] else if k = 4 then [70, 114, 105] else if k = 5 then [83, 97, 116] else [83, 117, 110]
def wkNames : Value := .agg #[.string (strB (wkNm 0)), .string (strB (wkNm 1)), .string (strB (wkNm 2)), .string (strB (wkNm 3)), .string (strB (wkNm 4)), .string (strB (wkNm 5)), .string (strB (wkNm 6))]
theorem wkNames_any (w : World) : Calls Tryz.prog 173 #[] w (Ret wkNames w) := by
  go_enter Tryz.func173, Tryz.ntmps173
  go_wp2
  refine bodyPost_ret (v := wkNames) ?_ rfl ⟨rfl, by (repeat' (first | (with_reducible exact Below.refl _ _) | (with_reducible assumption) | (with_reducible refine below_drewN ?_ _) | (with_reducible refine Below.alloc ?_ ?_ _) | (with_reducible refine Below.drew ?_) | (with_reducible refine Below.setCell ?_ ?_ _) | go_size))⟩
  rw [results_cell1 rfl]
  unfold wkNames
  go_simp
  exact ⟨rfl, rfl, rfl, rfl, rfl, rfl, rfl⟩
theorem wkNames_at (k : Nat) (hk : k < 7) (w : World) : (Instr.index 104 wkNames (.int .i64 (k : Int))).run Tryz.prog w = .ok (.string (strB (wkNm k))) w := by
  obtain rfl | rfl | rfl | rfl | rfl | rfl | rfl : k = 0 ∨ k = 1 ∨ k = 2 ∨ k = 3 ∨ k = 4 ∨ k = 5 ∨ k = 6 := by omega
  all_goals kernel_rfl
theorem strB_tol (x : List UInt8) : (strB x).toList = x := by rw [ByteArray.toList_eq, strB_data]
theorem str_test {x y : List UInt8} (b : Bool) (h : decide (x = y) = b) : ((strB x).toList == (strB y).toList) = b := by
  rw [strB_tol, strB_tol, ← h, Bool.eq_iff_iff, beq_iff_eq, decide_eq_true_eq]
theorem wkN_at {k : Nat} (hk : k < 7) : wkN[k]? = some (lowerL (wkNm k)) := by
  obtain rfl | rfl | rfl | rfl | rfl | rfl | rfl : k = 0 ∨ k = 1 ∨ k = 2 ∨ k = 3 ∨ k = 4 ∨ k = 5 ∨ k = 6 := by omega
  all_goals rfl
theorem wk_hit {x : List UInt8} {k : Nat} (hk : k < 7) (h : x = lowerL (wkNm k)) : wIdx x wkN + 1 = (k : Int) + 1 := by
  subst h
  obtain rfl | rfl | rfl | rfl | rfl | rfl | rfl : k = 0 ∨ k = 1 ∨ k = 2 ∨ k = 3 ∨ k = 4 ∨ k = 5 ∨ k = 6 := by omega
  all_goals decide
theorem wk_miss {x : List UInt8} (h : ∀ j, j < 7 → x ≠ lowerL (wkNm j)) : wIdx x wkN + 1 = 0 := by
  have : wkN.idxOf? x = none := by
    rw [List.idxOf?_eq_none_iff]
    intro hx
    obtain ⟨j, hj⟩ := List.getElem?_of_mem hx
    have hj7 : j < 7 := (List.getElem?_eq_some_iff.1 hj).1
    rw [wkN_at hj7] at hj
    exact h j hj7 (by injection hj with e; exact e.symm)
  unfold wIdx
  rw [this]
  rfl
theorem wkNm_len (k : Nat) : (wkNm k).length ≤ 3 := by
  unfold wkNm
  repeat' split
  all_goals decide
/-- Week.Of. -/
theorem weekOf_any (s : ByteArray) (hs : s.size ≤ 1000000) (w : World) : Calls Tryz.prog 142 #[.string s] w (Ret (.tuple #[.int .i64 (wkOf s.data.toList), .bool (decide (wkOf s.data.toList ≠ 0))]) w) := by
  have HS := Lib.hid (fun W => wsmall_any s (by omega) W)
  have HK : Hid (∀ k W, Calls Tryz.prog 174 #[.string (strB (wkNm k))] W (Ret (.string (strB (lowerL (wkNm k)))) W)) := by
    intro k W
    have := wsmall_any (strB (wkNm k)) (by rw [strB_size]; have := wkNm_len k; omega) W
    rwa [strB_data] at this
  have HX : Hid (∀ v : Int, wIdx (lowerL s.data.toList) wkN + 1 = v → wkOf s.data.toList = v) := fun v h => h
  generalize wkOf s.data.toList = z at *
  generalize lowerL s.data.toList = x at *
  go_enter Tryz.func142, Tryz.ntmps142
  go_wp2_with fail
  refine (wkNames_any _).mono ?_
  rintro e w1 ⟨rfl, hb1⟩
  go_wp2_with fail
  go_loopw [7] (fun i wr => ∃ k : Nat, k ≤ 7 ∧ i = .int .i64 k ∧ Hid (∀ j, j < k → x ≠ lowerL (wkNm j)) ∧ Below w.heap.size w wr) (fun i _ => 7 - (intOf i).toNat)
  case atStart => exact ⟨0, by omega, rfl, fun j h => absurd h (Nat.not_lt_zero _), hb1⟩
  case round =>
    obtain ⟨k, hk, rfl, HM, hb⟩ := hrel
    have hsz := hb.size
    by_cases hlt : k < 7
    · have hlt' : (k : Int) < 7 := by omega
      have hix := fun W => wkNames_at k hlt W
      by_cases he : x = lowerL (wkNm k)
      · have HZ : Hid (z = (k : Int) + 1) := HX.out _ (wk_hit hlt he)
        have hT := str_test true (decide_eq_true he)
        have hz0 : Hid (decide (z ≠ 0) = true) := decide_eq_true (by have := HZ.out; omega)
        clear he
        go_wp2_with fail
        refine (HS.out _).mono ?_
        rintro e w2 ⟨rfl, hb2⟩
        go_wp2_with fail
        refine (HK.out k _).mono ?_
        rintro e w3 ⟨rfl, hb3⟩
        go_wp2
        go_ret2
        exact ⟨by rw [hz0.out, HZ.out]; rfl, bthen (bthen hb hb2 hsz) hb3 (by have := hb2.size; omega)⟩
      · have HN := Lib.hid he
        have hT := str_test false (decide_eq_false he)
        clear he
        go_wp2_with fail
        refine (HS.out _).mono ?_
        rintro e w2 ⟨rfl, hb2⟩
        go_wp2_with fail
        refine (HK.out k _).mono ?_
        rintro e w3 ⟨rfl, hb3⟩
        go_wp2
        go_roundw
        case rel => exact ⟨k + 1, by omega, by go_num, upto_succ HM.out HN.out, bthen (bthen hb hb2 hsz) hb3 (by have := hb2.size; omega)⟩
        case measure => simp [intOf]; omega
    · obtain rfl : k = 7 := by omega
      have HZ : Hid (z = 0) := HX.out _ (wk_miss HM.out)
      have hz0 : Hid (decide (z ≠ 0) = false) := decide_eq_false (by rw [HZ.out]; simp)
      go_wp2
      go_ret2
      exact ⟨by rw [hz0.out, HZ.out]; rfl, hb⟩
end Go.Proofs.YtochhmkdhdadhaaGreat

/- The walks of package calread's reader: numbers, weekdays. -/
namespace Go.Proofs.YtochhmkdhdadhaaGreat
open Go.RowKit
set_option linter.unusedSimpArgs false
set_option linter.unusedVariables false

/-- The bounds of a field. -/
theorem bounds_row (f : Nat) (hf : f < 7) (w : World) : (Instr.index 95 (.agg #[.int .i64 1, .int .i64 7, .int .i64 1970, .int .i64 2369, .int .i64 1, .int .i64 12, .int .i64 1, .int .i64 31, .int .i64 0, .int .i64 23, .int .i64 0, .int .i64 59, .int .i64 0, .int .i64 59]) (.int .i64 (f : Int))).run Tryz.prog w = .ok (.agg #[.int .i64 (kLo f), .int .i64 (kHi f)]) w := by
  obtain rfl | rfl | rfl | rfl | rfl | rfl | rfl : f = 0 ∨ f = 1 ∨ f = 2 ∨ f = 3 ∨ f = 4 ∨ f = 5 ∨ f = 6 := by omega
  all_goals kernel_rfl
set_option maxRecDepth 20000 in
set_option maxHeartbeats 1000000 in
theorem kbounds_any (f : Nat) (hf : f < 7) (w : World) : Calls Tryz.prog 20 #[.int .i64 (f : Int)] w (Ret (.tuple #[.int .i64 (kLo f), .int .i64 (kHi f)]) w) := by
  have hix := fun W => bounds_row f hf W
  have h0 : (0 : Int) ≤ (f : Int) := by omega
  have h7 : (f : Int) < 7 := by omega
  generalize kLo (f : Int) = lo at *
  generalize kHi (f : Int) = hi at *
  go_enter Tryz.func20, Tryz.ntmps20
  go_wp2
  go_quiet (fail)
  go_wp2
  go_ret2
  exact ⟨rfl, by (repeat' (first | (with_reducible exact Below.refl _ _) | (with_reducible assumption) | (with_reducible refine below_drewN ?_ _) | (with_reducible refine Below.alloc ?_ ?_ _) | (with_reducible refine Below.drew ?_) | (with_reducible refine Below.setCell ?_ ?_ _) | go_size))⟩
section
variable {w : World} {b : Nat} {s : ByteArray} {σ : PS} (hs : s.size ≤ 1000000)
include hs
set_option maxRecDepth 20000 in
set_option maxHeartbeats 1000000 in
theorem knum_ps (f : Nat) (hf : f < 7) (h : RdP w b s σ) : Calls Tryz.prog 181 #[kV b s, .int .i64 (f : Int)] w (RetP (.int .i64 (knumP s.size f σ).2) b s (knumP s.size f σ).1 w) := by
  have hs9 : s.size ≤ 9223372036854775807 := by omega
  have hlt := h.lt
  have hne : ¬ w.heap.size = b := by omega
  have H := Lib.hid h
  have HA := Lib.hid (fun W (h : RdP W b s σ) => at_ps h)
  have HN := Lib.hid (fun W (h : RdP W b s σ) => number_ps hs9 (most := digs f) (by unfold digs; split <;> decide) h)
  have HR : Hid (knumP s.size f σ = if (numP s.size (digs f) σ).2.2 = true ∧ ((numP s.size (digs f) σ).2.1 < kLo f ∨ kHi f < (numP s.size (digs f) σ).2.1) then (failP (atP s.size σ) 4 (numP s.size (digs f) σ).1, (numP s.size (digs f) σ).2.1) else ((numP s.size (digs f) σ).1, (numP s.size (digs f) σ).2.1)) := rfl
  generalize knumP s.size f σ = R at *
  generalize atP s.size σ = at0 at *
  generalize numP s.size (digs f) σ = r at *
  obtain ⟨τ, n, ok⟩ := r
  dsimp only at *
  have HF := Lib.hid (fun W (h : RdP W b s τ) => fail_ps at0 4 h)
  have HB := Lib.hid (fun W => kbounds_any f hf W)
  generalize kLo (f : Int) = lo at *
  generalize kHi (f : Int) = hi at *
  have hd : Hid ((digs f : Int) = if f = 1 then 4 else 2) := by show _ = _; unfold digs; split <;> split <;> first | rfl | omega
  clear h
  by_cases h1 : f = 1
  · subst h1
    rw [if_pos rfl] at hd
    rw [hd.out] at HN
    go_enter Tryz.func181, Tryz.ntmps181
    go_wp2_with fail
    refine (HB.out _).mono ?_
    rintro e w1 ⟨rfl, hb1⟩
    obtain ⟨hc1, hf1⟩ := bcell hb1
    have hz1 : w.heap.size < w1.heap.size := by have := hb1.size; simp at this; omega
    have g1 : Chg b w w1 := (Chg.refl b w).alloc _ |>.trans (Chg.of_below hb1)
    have h1 : RdP w1 b s σ := (H.out.alloc _).below hb1
    go_wp2_with fail
    refine (HA.out _ h1).mono ?_
    rintro e w2 ⟨rfl, rfl⟩
    go_wp2_with fail
    refine (HN.out _ h1).mono ?_
    rintro e w3 ⟨rfl, h3, g3⟩
    obtain ⟨hc3, hf3⟩ := gcell g3
    have g13 := g1.trans g3
    cases ok with
    | false =>
      have HE : Hid (R = (τ, n)) := by show _ = _; rw [HR.out, if_neg (by rintro ⟨x, _⟩; cases x)]
      clear HR
      go_wp2
      go_ret
      exact ⟨by rw [HE.out]; rfl, by rw [HE.out]; exact h3, g13⟩
    | true =>
      by_cases hr : n < lo ∨ hi < n
      · have HE : Hid (R = (failP at0 4 τ, n)) := by show _ = _; rw [HR.out, if_pos ⟨rfl, hr⟩]
        clear HR
        rcases hr with hr | hr
        · go_wp2_with fail
          refine (HF.out _ h3).mono ?_
          rintro e w4 ⟨rfl, h4, g4⟩
          go_wp2
          go_ret
          exact ⟨by rw [HE.out]; rfl, by rw [HE.out]; exact h4, g13.trans g4⟩
        · by_cases hr2 : n < lo
          · go_wp2_with fail
            refine (HF.out _ h3).mono ?_
            rintro e w4 ⟨rfl, h4, g4⟩
            go_wp2
            go_ret
            exact ⟨by rw [HE.out]; rfl, by rw [HE.out]; exact h4, g13.trans g4⟩
          · go_wp2_with fail
            refine (HF.out _ h3).mono ?_
            rintro e w4 ⟨rfl, h4, g4⟩
            go_wp2
            go_ret
            exact ⟨by rw [HE.out]; rfl, by rw [HE.out]; exact h4, g13.trans g4⟩
      · have HE : Hid (R = (τ, n)) := by show _ = _; rw [HR.out, if_neg (by rintro ⟨_, x⟩; exact hr x)]
        have hr1 : ¬ n < lo := fun x => hr (.inl x)
        have hr2 : ¬ hi < n := fun x => hr (.inr x)
        clear HR hr
        go_wp2
        go_ret
        exact ⟨by rw [HE.out]; rfl, by rw [HE.out]; exact h3, g13⟩
  · have h1' : ((f : Int) == 1) = false := by simp; omega
    rw [if_neg h1] at hd
    rw [hd.out] at HN
    clear h1
    go_enter Tryz.func181, Tryz.ntmps181
    go_wp2_with fail
    refine (HB.out _).mono ?_
    rintro e w1 ⟨rfl, hb1⟩
    obtain ⟨hc1, hf1⟩ := bcell hb1
    have hz1 : w.heap.size < w1.heap.size := by have := hb1.size; simp at this; omega
    have g1 : Chg b w w1 := (Chg.refl b w).alloc _ |>.trans (Chg.of_below hb1)
    have h1 : RdP w1 b s σ := (H.out.alloc _).below hb1
    go_wp2_with fail
    refine (HA.out _ h1).mono ?_
    rintro e w2 ⟨rfl, rfl⟩
    go_wp2_with fail
    refine (HN.out _ h1).mono ?_
    rintro e w3 ⟨rfl, h3, g3⟩
    obtain ⟨hc3, hf3⟩ := gcell g3
    have g13 := g1.trans g3
    cases ok with
    | false =>
      have HE : Hid (R = (τ, n)) := by show _ = _; rw [HR.out, if_neg (by rintro ⟨x, _⟩; cases x)]
      clear HR
      go_wp2
      go_ret
      exact ⟨by rw [HE.out]; rfl, by rw [HE.out]; exact h3, g13⟩
    | true =>
      by_cases hr : n < lo ∨ hi < n
      · have HE : Hid (R = (failP at0 4 τ, n)) := by show _ = _; rw [HR.out, if_pos ⟨rfl, hr⟩]
        clear HR
        rcases hr with hr | hr
        · go_wp2_with fail
          refine (HF.out _ h3).mono ?_
          rintro e w4 ⟨rfl, h4, g4⟩
          go_wp2
          go_ret
          exact ⟨by rw [HE.out]; rfl, by rw [HE.out]; exact h4, g13.trans g4⟩
        · by_cases hr2 : n < lo
          · go_wp2_with fail
            refine (HF.out _ h3).mono ?_
            rintro e w4 ⟨rfl, h4, g4⟩
            go_wp2
            go_ret
            exact ⟨by rw [HE.out]; rfl, by rw [HE.out]; exact h4, g13.trans g4⟩
          · go_wp2_with fail
            refine (HF.out _ h3).mono ?_
            rintro e w4 ⟨rfl, h4, g4⟩
            go_wp2
            go_ret
            exact ⟨by rw [HE.out]; rfl, by rw [HE.out]; exact h4, g13.trans g4⟩
      · have HE : Hid (R = (τ, n)) := by show _ = _; rw [HR.out, if_neg (by rintro ⟨_, x⟩; exact hr x)]
        have hr1 : ¬ n < lo := fun x => hr (.inl x)
        have hr2 : ¬ hi < n := fun x => hr (.inr x)
        clear HR hr
        go_wp2
        go_ret
        exact ⟨by rw [HE.out]; rfl, by rw [HE.out]; exact h3, g13⟩
end
end Go.Proofs.YtochhmkdhdadhaaGreat

namespace Go.Proofs.YtochhmkdhdadhaaGreat
open Go.RowKit
set_option linter.unusedSimpArgs false
set_option linter.unusedVariables false

/-- The text that is left, as a string. -/
theorem left_data {s : ByteArray} {k : Nat} : (s.extract k s.size).data.toList = s.data.toList.drop k := by
  rw [extract_list, ← len_data, ← List.length_drop, List.take_length]
/-- The library's variable. -/
def MaxAt (w : World) : Prop := ∃ m : Int, w.cell? ⟨0, 0, none⟩ = some (.int .i64 m)
theorem MaxAt.below {w w' : World} (h : MaxAt w) (hb : Below w.heap.size w w') : MaxAt w' := by
  obtain ⟨m, hm⟩ := h
  exact ⟨m, (hb.cell (p := ⟨_, 0, none⟩) (World.block_lt_of_cell? w _ hm)).trans hm⟩
theorem MaxAt.chg {w w' : World} {b : Nat} {s : ByteArray} {σ : PS} (h : MaxAt w) (hr : RdP w b s σ) (hg : Chg b w w') : MaxAt w' := by
  obtain ⟨m, hm⟩ := h
  obtain ⟨k, _, _, hk⟩ := hr
  have hne : 0 ≠ b := by
    rintro rfl
    rw [hk.cells.1] at hm; cases hm
  exact ⟨m, hg.cell hne hm⟩
theorem index_blank (l : List UInt8) : (Lib.cut l [32]).1 = l.takeWhile (fun c => decide (c ≠ 32)) := by
  have hi : ∀ l : List UInt8, (Lib.index l [32] = -1 ∧ l.takeWhile (fun c => decide (c ≠ 32)) = l) ∨ (0 ≤ Lib.index l [32] ∧ l.take (Lib.index l [32]).toNat = l.takeWhile (fun c => decide (c ≠ 32))) := by
    intro l
    induction l with
    | nil => left; exact ⟨rfl, rfl⟩
    | cons c l ih =>
      unfold Lib.index
      by_cases hc : c = 32
      · subst hc
        right
        rw [if_pos (by simp [List.isPrefixOf])]
        exact ⟨by decide, by simp [List.takeWhile_cons]⟩
      · have hp : ([32] : List UInt8).isPrefixOf (c :: l) = false := by
          simp [List.isPrefixOf]; exact fun e => hc e.symm
        rw [hp, if_neg (by decide)]
        have ht : (c :: l).takeWhile (fun c => decide (c ≠ 32)) = c :: l.takeWhile (fun c => decide (c ≠ 32)) := by
          rw [List.takeWhile_cons, if_pos (by simpa using hc)]
        rw [ht]
        rcases ih with ⟨h1, h2⟩ | ⟨h1, h2⟩
        · left; rw [h1, h2]; exact ⟨by simp, rfl⟩
        · right
          rw [if_neg (by simp; omega)]
          refine ⟨by omega, ?_⟩
          rw [show (Lib.index l [32] + 1).toNat = (Lib.index l [32]).toNat + 1 from by omega, List.take_succ_cons, h2]
  unfold Lib.cut
  rcases hi l with ⟨h1, h2⟩ | ⟨h1, h2⟩
  · rw [if_neg (by omega), h2]
  · rw [if_pos h1, h2]
section
variable {w : World} {b : Nat} {s : ByteArray} {σ : PS} (hs : s.size ≤ 1000000)
include hs
set_option maxRecDepth 20000 in
set_option maxHeartbeats 1000000 in
theorem word_ks (h : RdP w b s σ) (hm : MaxAt w) : Calls Tryz.prog 79 #[kV b s] w (RetP (.string (strB (wordP σ))) b s σ w) := by
  have hs9 : s.size ≤ 9223372036854775807 := by omega
  have hlt := h.lt
  have hne : ¬ w.heap.size = b := by omega
  have H := Lib.hid h
  have HD := Lib.hid (fun W (h : RdP W b s σ) => done_pp h)
  cases hd : doneP σ with
  | true =>
    have HW : Hid (wordP σ = []) := by
      show _ = _
      unfold wordP
      unfold doneP at hd
      have := of_decide_eq_true hd
      split
      · rcases this with h | h
        · exact absurd (by assumption) h
        · rw [h]; rfl
      · rfl
    rw [hd] at HD
    clear h hd hm
    go_enter Tryz.func79, Tryz.ntmps79
    go_wp2_with fail
    refine (HD.out _ (H.out.alloc _)).mono ?_
    rintro e w1 ⟨rfl, h1, g1⟩
    go_wp2
    go_ret
    exact ⟨by rw [HW.out]; rfl, h1, ((Chg.refl b w).alloc _).trans g1⟩
  | false =>
    rw [hd] at HD
    have he : σ.e = 0 := by
      unfold doneP at hd
      have := of_decide_eq_false hd
      rcases Decidable.em (σ.e = 0) with h | h
      · exact h
      · exact absurd (.inl h) this
    obtain ⟨k, hk, hl, hr⟩ := h
    have hat := atP_eq hk hl
    have HA := Lib.hid (fun W (h : RdP W b s σ) => at_ps h)
    rw [hat] at HA
    have hk' : (k : Int) ≤ (s.size : Int) := by omega
    have HW : Hid ((Lib.cut (s.extract k s.size).data.toList [32]).1 = wordP σ) := by
      show _ = _
      rw [left_data, ← hl, index_blank]; unfold wordP; rw [if_pos he]
    obtain ⟨v2, v3, hC⟩ : ∃ (v2 : ByteArray) (v3 : Bool), ∀ W, MaxAt W → Calls Tryz.prog 114 #[.string (s.extract k s.size), .string ⟨#[32]⟩] W (RetN (.tuple #[.string (strB (wordP σ)), .string v2, .bool v3]) W) := by
      refine ⟨strB (Lib.cut (s.extract k s.size).data.toList [32]).2.1, (Lib.cut (s.extract k s.size).data.toList [32]).2.2, fun W hW => ?_⟩
      obtain ⟨m, hm⟩ := hW
      refine (Tryz.strings_Cut (s.extract k s.size) ⟨#[32]⟩ m W (by simp; omega) hm).mono ?_
      rintro e w' ⟨rfl, n, rfl⟩
      exact ⟨by rw [← HW.out]; rfl, n, rfl⟩
    have HC := Lib.hid hC
    have HM : Hid (∀ W, Chg b (w.alloc (.cells #[.pointer (some ⟨b, 0, none⟩), .string s] 82)) W → MaxAt W) := fun W hW =>
      (hm.below ((Below.refl _ w).alloc (Nat.le_refl _) _)).chg (H.out.alloc _) hW
    clear hC hd hr hl hm HW he
    go_enter Tryz.func79, Tryz.ntmps79
    go_wp2_with fail
    refine (HD.out _ (H.out.alloc _)).mono ?_
    rintro e w1 ⟨rfl, h1, g1⟩
    obtain ⟨hc1, hf1⟩ := gcell g1
    have hm1 := Lib.hid (HM.out _ g1)
    go_wp2
    go_quiet ((first | (go_at_call 82; exact quietQ (HA.out _ (by exact h1.drewN _))) | (go_at_call 114; exact quietN (HC.out _ (by exact hm1.out)))))
    go_wp2
    go_ret
    exact ⟨rfl, h1.drewN _, (((Chg.refl b w).alloc _).trans g1).drewN _⟩
end
end Go.Proofs.YtochhmkdhdadhaaGreat
