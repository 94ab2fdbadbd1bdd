/- The walks of the references: remainders, weekdays, the full clause. -/
import Derived.Test.YtochhmkdhdadhaaGreatWClL
import Derived.Test.YtochhmkdhdadhaaGreatWRfA
import Derived.Test.YtochhmkdhdadhaaGreatWClAQ
import Derived.Test.YtochhmkdhdadhaaGreatWRefVal
namespace Go.Proofs.YtochhmkdhdadhaaGreat
open Go.RowKit
set_option linter.unusedSimpArgs false
set_option linter.unusedVariables false

set_option maxHeartbeats 400000 in
theorem mod01_pos (a b : Int) (ha : 0 ≤ a) (ha1 : a ≤ 1000000000000000) (hb : 1 ≤ b) (hb1 : b ≤ 1000000) (w : World) : Calls Tryz.prog 139 #[.int .i64 a, .int .i64 b] w (Ret (.int .i64 (a % b)) w) := by
  have HF := Lib.hid (fun W => floor01_pos a b ha ha1 hb hb1 W)
  have E : Hid (a - b * (a / b) = a % b) := by show _ = _; rw [Int.emod_def]
  have hq0 : 0 ≤ a / b := Int.ediv_nonneg ha (by omega)
  have hq1 : a / b ≤ a := Int.ediv_le_self _ ha
  have hm0 : 0 ≤ b * (a / b) := Int.mul_nonneg (by omega) hq0
  have hm1 : b * (a / b) ≤ a := Int.mul_ediv_self_le (by omega)
  rw [← E.out]
  clear E
  generalize a / b = q at *
  go_enter Tryz.func139, Tryz.ntmps139
  go_wp2_with fail
  refine (HF.out _).mono ?_
  rintro e w1 ⟨rfl, rfl⟩
  go_wp2
  go_ret
  exact ⟨rfl, by (repeat' (first | (with_reducible exact Below.refl _ _) | (with_reducible assumption) | (with_reducible refine below_drewN ?_ _) | (with_reducible refine Below.alloc ?_ ?_ _) | (with_reducible refine Below.drew ?_) | (with_reducible refine Below.setCell ?_ ?_ _) | go_size))⟩
theorem there_set {w : World} {b c o n : Nat} {v : Value} (h : w.there b 0 n) (hne : c ≠ b) : (w.setCell ⟨c, o, none⟩ v).there b 0 n := fun j hj => by
  rw [World.cell?_setCell_other _ _ _ _ (by intro e; injection e with e1; exact hne e1), World.frozen?_setCell]
  exact h j hj
theorem full_lit : clA fullC = #[.int .u64 1152921504606846975, .int .u64 1152921504606846975, .int .u64 16777215, .int .u64 8190, .int .u64 4294967294, .int .u64 4294967294, .int .u64 254, .bool false, .int .i64 0, .bool false, .int .u64 0, .int .u64 0, .int .u64 0, .int .u64 0, .int .u64 0, .int .u64 0, .int .u64 0, .int .u64 0, .int .u64 18446744073709551615, .int .u64 18446744073709551615, .int .u64 18446744073709551615, .int .u64 18446744073709551615, .int .u64 18446744073709551615, .int .u64 18446744073709551615, .int .u64 65535, .int .i64 0, .int .i64 1, .int .i64 0, .int .i64 0, .int .i64 12622780799] := by
  have e0 : spanM 0 59 = 1152921504606846975 := by decide +kernel
  have e1 : spanM 0 23 = 16777215 := by decide +kernel
  have e2 : spanM 1 12 = 8190 := by decide +kernel
  have e3 : spanM 1 31 = 4294967294 := by decide +kernel
  have e4 : spanM 1 7 = 254 := by decide +kernel
  have y0 : fullW 0 = 18446744073709551615 := by decide +kernel
  have y1 : fullW 1 = 18446744073709551615 := by decide +kernel
  have y2 : fullW 2 = 18446744073709551615 := by decide +kernel
  have y3 : fullW 3 = 18446744073709551615 := by decide +kernel
  have y4 : fullW 4 = 18446744073709551615 := by decide +kernel
  have y5 : fullW 5 = 18446744073709551615 := by decide +kernel
  have y6 : fullW 6 = 65535 := by decide +kernel
  show (#[.int .u64 (spanM 0 59), .int .u64 (spanM 0 59), .int .u64 (spanM 0 23), .int .u64 (spanM 1 12), .int .u64 (spanM 1 31), .int .u64 (spanM 1 31), .int .u64 (spanM 1 7), .bool false, .int .i64 0, .bool false, .int .u64 0, .int .u64 0, .int .u64 0, .int .u64 0, .int .u64 0, .int .u64 0, .int .u64 0, .int .u64 0, .int .u64 (fullW 0), .int .u64 (fullW 1), .int .u64 (fullW 2), .int .u64 (fullW 3), .int .u64 (fullW 4), .int .u64 (fullW 5), .int .u64 (fullW 6), .int .i64 0, .int .i64 1, .int .i64 0, .int .i64 0, .int .i64 12622780799] : Array Value) = _
  rw [e0, e1, e2, e3, e4, y0, y1, y2, y3, y4, y5, y6]
set_option maxRecDepth 20000 in
set_option maxHeartbeats 4000000 in
theorem rfull_any (w : World) : Calls Tryz.prog 27 #[] w (Ret (.agg (clA fullC)) w) := by
  rw [full_lit]
  go_enter Tryz.func27, Tryz.ntmps27
  go_wp2_with fail
  have hT0 := there_new w #[.int .u64 0, .int .u64 0, .int .u64 0, .int .u64 0, .int .u64 0, .int .u64 0, .int .u64 0, .bool false, .int .i64 0, .bool false, .int .u64 0, .int .u64 0, .int .u64 0, .int .u64 0, .int .u64 0, .int .u64 0, .int .u64 0, .int .u64 0, .int .u64 0, .int .u64 0, .int .u64 0, .int .u64 0, .int .u64 0, .int .u64 0, .int .u64 0, .int .i64 0, .int .i64 0, .int .i64 0, .int .i64 0, .int .i64 0] 37
  have hY0 := arr7_new (w.alloc (.cells #[.int .u64 0, .int .u64 0, .int .u64 0, .int .u64 0, .int .u64 0, .int .u64 0, .int .u64 0, .bool false, .int .i64 0, .bool false, .int .u64 0, .int .u64 0, .int .u64 0, .int .u64 0, .int .u64 0, .int .u64 0, .int .u64 0, .int .u64 0, .int .u64 0, .int .u64 0, .int .u64 0, .int .u64 0, .int .u64 0, .int .u64 0, .int .u64 0, .int .i64 0, .int .i64 0, .int .i64 0, .int .i64 0, .int .i64 0] 37)) 35 (.int .u64 0) (.int .u64 0) (.int .u64 0) (.int .u64 0) (.int .u64 0) (.int .u64 0) (.int .u64 0) (fun j => .int .u64 (if j < 0 then 18446744073709551615 else 0)) rfl rfl rfl rfl rfl rfl rfl
  generalize hV : World.alloc w _ = V at *
  have hz : V.heap.size = w.heap.size + 1 := by rw [← hV]; simp
  have hbV : Below w.heap.size w V := by rw [← hV]; exact (Below.refl _ _).alloc (Nat.le_refl _) _
  clear hV
  rw [hz] at hY0
  have hT1 := there_below hT0 (by omega) ((Below.refl V.heap.size V).alloc (Nat.le_refl _) (.cells #[.int .u64 0, .int .u64 0, .int .u64 0, .int .u64 0, .int .u64 0, .int .u64 0, .int .u64 0] 35))
  have hb1 : Below w.heap.size w (V.alloc (.cells #[.int .u64 0, .int .u64 0, .int .u64 0, .int .u64 0, .int .u64 0, .int .u64 0, .int .u64 0] 35)) := hbV.alloc (by omega) _
  have HT0 := Lib.hid hT1
  have HY0 := Lib.hid hY0
  generalize V.alloc (.cells #[.int .u64 0, .int .u64 0, .int .u64 0, .int .u64 0, .int .u64 0, .int .u64 0, .int .u64 0] 35) = W2 at *
  clear hT0 hT1 hY0 hbV hz
  go_loopw [2] (fun i wr => ∃ k : Nat, k ≤ 6 ∧ i = .int .i64 k ∧ Hid (Arr wr (w.heap.size + 1) 7 (fun j => .int .u64 (if j < k then 18446744073709551615 else 0))) ∧ Hid (wr.there w.heap.size 0 30) ∧ Below w.heap.size w wr) (fun i _ => 6 - (intOf i).toNat)
  case atStart => exact ⟨0, by omega, rfl, HY0.out, HT0.out, hb1⟩
  case round =>
    clear HY0 HT0 hb1
    obtain ⟨k, hk, rfl, HA, HT, hb⟩ := hrel
    have zA := Arr.lt HA.out (by decide)
    have hsz := hb.size
    by_cases h6 : k < 6
    · have h6' : (k : Int) < 6 := by omega
      have h7' : (k : Int) < 7 := by omega
      have hk0 : ¬ (k : Int) < 0 := by omega
      have ck := HA.out.1 k (by omega)
      have fk := HA.out.2
      go_wp2
      go_roundw
      case rel =>
        refine ⟨k + 1, by omega, by go_num, Arr.set HA.out k (by omega) _ (by rw [if_pos (by omega)]) (fun j hj hn => by by_cases hjk : j < k; rw [if_pos hjk, if_pos (by omega)]; rw [if_neg hjk, if_neg (by omega)]), there_set HT.out (by omega), by (repeat' (first | (with_reducible exact Below.refl _ _) | (with_reducible assumption) | (with_reducible refine below_drewN ?_ _) | (with_reducible refine Below.alloc ?_ ?_ _) | (with_reducible refine Below.drew ?_) | (with_reducible refine Below.setCell ?_ ?_ _) | go_size))⟩
      case measure => simp [intOf]; omega
    · obtain rfl : k = 6 := by omega
      have h7' : ¬ ((6 : Nat) : Int) < 6 := by decide
      obtain ⟨a0, a1, a2, a3, a4, a5, a6, af⟩ := arr7 HA.out
      have HT2 : Hid ((wr.setCell ⟨w.heap.size + 1, 6, none⟩ (.int .u64 65535)).there w.heap.size 0 30) := there_set HT.out (by omega)
      have hb2 : Below w.heap.size w (wr.setCell ⟨w.heap.size + 1, 6, none⟩ (.int .u64 65535)) := hb.setCell (by show w.heap.size ≤ w.heap.size + 1; omega) _
      clear HA HT
      go_wp2_with (refine wp_store_out (w := w) rfl 37 _ _ rfl #[.int .u64 1152921504606846975, .int .u64 1152921504606846975, .int .u64 16777215, .int .u64 8190, .int .u64 4294967294, .int .u64 4294967294, .int .u64 254, .bool false, .int .i64 0, .bool false, .int .u64 0, .int .u64 0, .int .u64 0, .int .u64 0, .int .u64 0, .int .u64 0, .int .u64 0, .int .u64 0, .int .u64 18446744073709551615, .int .u64 18446744073709551615, .int .u64 18446744073709551615, .int .u64 18446744073709551615, .int .u64 18446744073709551615, .int .u64 18446744073709551615, .int .u64 65535, .int .i64 0, .int .i64 1, .int .i64 0, .int .i64 0, .int .i64 12622780799] rfl rfl Tryz.underlying37 rfl (by kernel_rfl) (by kernel_rfl) hb2 HT2.out ?_; intro W' hLd hbE)
      (try simp only [Exit.inBlock, Exit.then])
      refine bodyPost_ret (v := .agg #[.int .u64 1152921504606846975, .int .u64 1152921504606846975, .int .u64 16777215, .int .u64 8190, .int .u64 4294967294, .int .u64 4294967294, .int .u64 254, .bool false, .int .i64 0, .bool false, .int .u64 0, .int .u64 0, .int .u64 0, .int .u64 0, .int .u64 0, .int .u64 0, .int .u64 0, .int .u64 0, .int .u64 18446744073709551615, .int .u64 18446744073709551615, .int .u64 18446744073709551615, .int .u64 18446744073709551615, .int .u64 18446744073709551615, .int .u64 18446744073709551615, .int .u64 65535, .int .i64 0, .int .i64 1, .int .i64 0, .int .i64 0, .int .i64 12622780799]) ?_ rfl ⟨rfl, hbE⟩
      rw [results_cell1 rfl]
      exact hLd.out
theorem clA_cells (c : Cl) : (clA c).all (·.oneCell') = true := by kernel_rfl
def zeroC : Cl := { m := fun _ => 0, or := false, oi := 0, ob := false, od := fun _ => 0, y := fun _ => 0, u := 0, s := 0, a := 0, f := 0, t := 0 }
theorem fold_put_at : ∀ (l : List Value) (k : Nat) (Z : Array Value) (j : Nat), ((l.zipIdx k).foldl (fun (a : Array Value) (x : Value × Nat) => a.setIfInBounds x.2 x.1) Z)[j]? = if k ≤ j ∧ j < k + l.length then (if j < Z.size then l[j - k]? else none) else Z[j]?
  | [], k, Z, j => by
    have h : ¬ (k ≤ j ∧ j < k + ([] : List Value).length) := by simp only [List.length_nil]; omega
    rw [if_neg h]; rfl
  | v :: l, k, Z, j => by
    rw [List.zipIdx_cons, List.foldl_cons, fold_put_at l (k + 1) _ j, Array.size_setIfInBounds]
    by_cases h1 : k = j
    · subst h1
      have h2 : ¬ (k + 1 ≤ k ∧ k < k + 1 + l.length) := by omega
      have h3 : k ≤ k ∧ k < k + (v :: l).length := by simp only [List.length_cons]; omega
      rw [if_neg h2, if_pos h3, Array.getElem?_setIfInBounds_self]
      simp
    · by_cases h2 : k + 1 ≤ j ∧ j < k + 1 + l.length
      · have h3 : k ≤ j ∧ j < k + (v :: l).length := by simp only [List.length_cons]; omega
        rw [if_pos h2, if_pos h3]
        have e : j - k = (j - (k + 1)) + 1 := by omega
        rw [e, List.getElem?_cons_succ]
      · have h3 : ¬ (k ≤ j ∧ j < k + (v :: l).length) := by simp only [List.length_cons]; omega
        rw [if_neg h2, if_neg h3, Array.getElem?_setIfInBounds_ne h1]
theorem fold_put (cs Z : Array Value) (m : Nat) (h : Z.size = m) (hm : cs.size = m) : Array.foldl (fun (a : Array Value) (x : Value × Nat) => a.setIfInBounds x.2 x.1) Z (cs.zipIdx 0) 0 m = cs := by
  have e1 : Array.foldl (fun (a : Array Value) (x : Value × Nat) => a.setIfInBounds x.2 x.1) Z (cs.zipIdx 0) 0 m = (cs.toList.zipIdx 0).foldl (fun (a : Array Value) (x : Value × Nat) => a.setIfInBounds x.2 x.1) Z := by
    rw [← Array.toList_zipIdx, Array.foldl_toList]
    simp [hm]
  rw [e1]
  apply Array.ext_getElem?
  intro j
  rw [fold_put_at]
  by_cases hj : j < cs.size
  · have h1 : 0 ≤ j ∧ j < 0 + cs.toList.length := by simp [hj]
    rw [if_pos h1, if_pos (by omega)]
    simp
  · have h1 : ¬ (0 ≤ j ∧ j < 0 + cs.toList.length) := by simp; omega
    rw [if_neg h1, Array.getElem?_eq_none (by omega), Array.getElem?_eq_none (by omega)]
theorem rdCls_one (w : World) (c : Cl) (t : TypeId) : RdCls (w.alloc (.cells (clA c) t)) (some ⟨w.heap.size, 0, none⟩) 1 [c] :=
  ⟨rfl, fun _ => ⟨w.heap.size, 0, rfl, by simp, fun i x hx j v hj => by
    have hi : i < 1 := (List.getElem?_eq_some_iff.1 hx).1
    obtain rfl : i = 0 := by omega
    cases hx
    simp only [Nat.zero_mul, Nat.zero_add]
    exact lies_new w (clA c) t j v (by unfold clEnc at hj; simpa using hj)⟩⟩
theorem refVal_len60 (l : List It) (lo hi : Int) (h : min hi 9999 - max 0 lo + 1 ≤ 1000000000) : (refVal l lo hi).length ≤ 1000000000 := by
  unfold refVal
  refine Nat.le_trans (List.length_filter_le _ _) ?_
  rw [List.length_map, List.length_range]
  omega
/-- A set of one clause is handed back, with no error. -/
def RetOneCl (c : Cl) (w : World) (x : Ending) (w' : World) : Prop := ∃ b, x = .returned (.tuple #[.slice (some ⟨b, 0, none⟩) 1 1, .int .i64 0]) ∧ RdCls w' (some ⟨b, 0, none⟩) 1 [c] ∧ Below w.heap.size w w'
set_option maxHeartbeats 1000000 in
theorem rday06_any (n : Int) (h0 : 0 ≤ n) (h1 : n ≤ 1000000000) (w : World) : Calls Tryz.prog 106 #[.int .i64 n] w (Ret (.int .i64 (wdD n)) w) := by
  have HM := Lib.hid (fun W => mod01_pos n 7 h0 (by omega) (by decide) (by decide) W)
  have hR : wdD n = (3 + n % 7) % 7 + 1 := by unfold wdD; omega
  rw [hR]
  clear hR
  obtain ⟨m, hm⟩ := Int.eq_ofNat_of_zero_le (show 0 ≤ n % 7 by omega)
  have hm7 : m < 7 := by omega
  rw [hm] at HM ⊢
  clear hm
  go_enter Tryz.func106, Tryz.ntmps106
  go_wp2_with fail
  refine (HM.out _).mono ?_
  rintro e w1 ⟨rfl, hb1⟩
  go_wp2
  go_loopw [4, 5] (fun v i wr => ∃ k : Nat, k ≤ m ∧ i = .int .i64 k ∧ v = .int .i64 ((3 + (k : Int)) % 7 + 1) ∧ Below w.heap.size w wr) (fun _ i _ => m - (intOf i).toNat)
  case atStart => exact ⟨0, Nat.zero_le _, rfl, rfl, hb1⟩
  case round =>
    obtain ⟨k, hk, rfl, rfl, hb⟩ := hrel
    by_cases hlt : k < m
    · have hlt' : (k : Int) < (m : Int) := by omega
      have e1 : Int.tmod ((3 + (k : Int)) % 7 + 1) 7 = ((3 + (k : Int)) % 7 + 1) % 7 := Int.tmod_eq_emod_of_nonneg (by omega)
      have e2 : ((3 + (k : Int)) % 7 + 1) % 7 + 1 = (3 + ((k + 1 : Nat) : Int)) % 7 + 1 := by omega
      have hp0 : 0 ≤ (3 + (k : Int)) % 7 := by omega
      have hp1 : (3 + (k : Int)) % 7 < 7 := by omega
      generalize (3 + (k : Int)) % 7 = p at *
      have hq0 : 0 ≤ (p + 1) % 7 := by omega
      have hq1 : (p + 1) % 7 < 7 := by omega
      have HE2 := Lib.hid e2
      clear e2
      generalize (p + 1) % 7 = q at *
      go_wp2
      go_roundw
      case rel => exact ⟨k + 1, by omega, by go_num, by rw [← HE2.out], hb⟩
      case measure => simp [intOf]; omega
    · obtain rfl : k = m := by omega
      go_wp2
      go_ret
      exact ⟨rfl, hb⟩
end Go.Proofs.YtochhmkdhdadhaaGreat
