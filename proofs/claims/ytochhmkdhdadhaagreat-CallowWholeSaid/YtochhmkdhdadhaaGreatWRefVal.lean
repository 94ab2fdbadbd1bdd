/- The document's numbers of items: Has, In, Values; item.Mask; Ints. -/
import Derived.Test.YtochhmkdhdadhaaGreatWRef12
import Derived.Test.YtochhmkdhdadhaaGreatWValues
import Derived.Test.YtochhmkdhdadhaaGreatWItemOf
import Derived.Test.YtochhmkdhdadhaaGreatOpen
namespace Go.Proofs.YtochhmkdhdadhaaGreat
open Go.RowKit
set_option linter.unusedSimpArgs false
set_option linter.unusedVariables false

/-- A number is one of an item's. -/
def hasB (i : It) (lo hi n : Int) : Bool := decide (bF i lo ≤ n ∧ n ≤ bT i hi ∧ (n - bF i lo) % bS i = 0)
theorem mem_itL {i : It} {lo hi n : Int} (h : mayIt i lo hi = true) : n ∈ itL i lo hi ↔ hasB i lo hi n = true := by
  obtain ⟨h1, h2, h3, h4, h5⟩ := may_bd h
  simp only [itL, hasB, decide_eq_true_eq, List.mem_map, List.mem_range]
  generalize bF i lo = F at *
  generalize bT i hi = T at *
  generalize bS i = S at *
  have hd : 0 ≤ (T - F) / S := Int.ediv_nonneg (by omega) (by omega)
  constructor
  · rintro ⟨k, hk, rfl⟩
    have hk' : (k : Int) ≤ (T - F) / S := by omega
    have := Int.ediv_mul_le (T - F) (show S ≠ 0 by omega)
    have h6 : (k : Int) * S ≤ (T - F) / S * S := Int.mul_le_mul_of_nonneg_right hk' (by omega)
    have h7 : 0 ≤ (k : Int) * S := Int.mul_nonneg (by omega) (by omega)
    refine ⟨by omega, by omega, ?_⟩
    rw [show F + (k : Int) * S - F = (k : Int) * S by omega]
    exact Int.mul_emod_left _ _
  · rintro ⟨h6, h7, h8⟩
    have h9 : (n - F) / S * S = n - F := by
      have := Int.mul_ediv_add_emod (n - F) S
      rw [h8, Int.mul_comm] at this
      omega
    have h10 : 0 ≤ (n - F) / S := Int.ediv_nonneg (by omega) (by omega)
    have h11 : (n - F) / S ≤ (T - F) / S := Int.ediv_le_ediv (by omega) (by omega)
    refine ⟨((n - F) / S).toNat, by omega, ?_⟩
    rw [show ((((n - F) / S).toNat : Nat) : Int) = (n - F) / S by omega, h9]
    omega

set_option maxHeartbeats 1000000 in
theorem rhas_any (i : It) (lo hi n : Int) (w : World) (hm : mayIt i lo hi = true) : Calls Tryz.prog 93 #[.agg #[.int .i64 i.k, .int .i64 i.f, .int .i64 i.t, .int .i64 i.s], .int .i64 lo, .int .i64 hi, .int .i64 n] w (Ret (.bool (hasB i lo hi n)) w) := by
  have hb := may_bd hm
  simp only [mayIt, MayP, decide_eq_true_eq] at hm
  by_cases hr : n < lo ∨ hi < n
  · have HR : Hid (hasB i lo hi n = false) := by
      show _ = _
      simp only [hasB, decide_eq_false_iff_not]
      unfold bF bT bS at *
      intro h
      split at hb <;> split at hb <;> (try split at hb) <;> simp_all <;> omega
    rcases hr with h | h
    · go_enter Tryz.func93, Tryz.ntmps93
      go_wp2
      go_ret
      exact ⟨ret_bool HR.out.symm, by (repeat' (first | (with_reducible exact Below.refl _ _) | (with_reducible assumption) | (with_reducible refine below_drewN ?_ _) | (with_reducible refine Below.alloc ?_ ?_ _) | (with_reducible refine Below.drew ?_) | (with_reducible refine Below.setCell ?_ ?_ _) | go_size))⟩
    · by_cases h1 : n < lo
      · go_enter Tryz.func93, Tryz.ntmps93
        go_wp2
        go_ret
        exact ⟨ret_bool HR.out.symm, by (repeat' (first | (with_reducible exact Below.refl _ _) | (with_reducible assumption) | (with_reducible refine below_drewN ?_ _) | (with_reducible refine Below.alloc ?_ ?_ _) | (with_reducible refine Below.drew ?_) | (with_reducible refine Below.setCell ?_ ?_ _) | go_size))⟩
      · go_enter Tryz.func93, Tryz.ntmps93
        go_wp2
        go_ret
        exact ⟨ret_bool HR.out.symm, by (repeat' (first | (with_reducible exact Below.refl _ _) | (with_reducible assumption) | (with_reducible refine below_drewN ?_ _) | (with_reducible refine Below.alloc ?_ ?_ _) | (with_reducible refine Below.drew ?_) | (with_reducible refine Below.setCell ?_ ?_ _) | go_size))⟩
  · have hr1 : ¬ n < lo := by omega
    have hr2 : ¬ hi < n := by omega
    clear hr
    by_cases hk0 : i.k = 0
    · have hs : (i.s == 0) = false := by simp; omega
      have h0 : (i.k == 0) = true := by simpa using hk0
      have hm1 : 1 ≤ i.s ∧ i.s ≤ 999 ∧ 0 ≤ lo ∧ hi ≤ 9999 := by omega
      have HE : Hid (hasB i lo hi n = ((n - lo) % i.s == 0)) := by
        show _ = _
        rw [Bool.eq_iff_iff]
        simp only [hasB, decide_eq_true_eq, beq_iff_eq, bF, bT, bS, hk0]
        simp
        omega
      clear hm hb hk0
      obtain ⟨m1, m2, m3, m4⟩ := hm1
      go_enter Tryz.func93, Tryz.ntmps93
      go_wp2
      go_ret
      exact ⟨ret_bool HE.out.symm, by (repeat' (first | (with_reducible exact Below.refl _ _) | (with_reducible assumption) | (with_reducible refine below_drewN ?_ _) | (with_reducible refine Below.alloc ?_ ?_ _) | (with_reducible refine Below.drew ?_) | (with_reducible refine Below.setCell ?_ ?_ _) | go_size))⟩
    · have h0 : (i.k == 0) = false := by simpa using hk0
      by_cases hk1 : i.k = 1
      · have h1 : (i.k == 1) = true := by simpa using hk1
        have HE : Hid (hasB i lo hi n = (n == i.f)) := by
          show _ = _
          rw [Bool.eq_iff_iff]
          simp only [hasB, decide_eq_true_eq, beq_iff_eq, bF, bT, bS, hk1]
          simp
          omega
        clear hm hb hk0 hk1
        go_enter Tryz.func93, Tryz.ntmps93
        go_wp2
        go_ret
        exact ⟨ret_bool HE.out.symm, by (repeat' (first | (with_reducible exact Below.refl _ _) | (with_reducible assumption) | (with_reducible refine below_drewN ?_ _) | (with_reducible refine Below.alloc ?_ ?_ _) | (with_reducible refine Below.drew ?_) | (with_reducible refine Below.setCell ?_ ?_ _) | go_size))⟩
      · have h1 : (i.k == 1) = false := by simpa using hk1
        have hs : (i.s == 0) = false := by simp; omega
        by_cases hf : n < i.f
        · have HE : Hid (hasB i lo hi n = false) := by
            show _ = _
            simp only [hasB, decide_eq_false_iff_not, bF, hk0, if_false]
            omega
          have hf' : ¬ i.f ≤ n := by omega
          by_cases hk2 : i.k = 2
          · have h2 : (i.k == 2) = true := by simpa using hk2
            clear hm hb hk0 hk1 hk2
            go_enter Tryz.func93, Tryz.ntmps93
            go_wp2
            go_ret
            exact ⟨ret_bool HE.out.symm, by (repeat' (first | (with_reducible exact Below.refl _ _) | (with_reducible assumption) | (with_reducible refine below_drewN ?_ _) | (with_reducible refine Below.alloc ?_ ?_ _) | (with_reducible refine Below.drew ?_) | (with_reducible refine Below.setCell ?_ ?_ _) | go_size))⟩
          · have h2 : (i.k == 2) = false := by simpa using hk2
            clear hm hb hk0 hk1 hk2
            go_enter Tryz.func93, Tryz.ntmps93
            go_wp2
            go_ret
            exact ⟨ret_bool HE.out.symm, by (repeat' (first | (with_reducible exact Below.refl _ _) | (with_reducible assumption) | (with_reducible refine below_drewN ?_ _) | (with_reducible refine Below.alloc ?_ ?_ _) | (with_reducible refine Below.drew ?_) | (with_reducible refine Below.setCell ?_ ?_ _) | go_size))⟩
        · have hm1 : 1 ≤ i.s ∧ i.s ≤ 999 ∧ 0 ≤ i.f ∧ hi ≤ 9999 := by omega
          have hf' : i.f ≤ n := by omega
          by_cases hk2 : i.k = 2
          · have h2 : (i.k == 2) = true := by simpa using hk2
            have HE : Hid (hasB i lo hi n = (decide (n ≤ i.t) && ((n - i.f) % i.s == 0))) := by
              show _ = _
              rw [Bool.eq_iff_iff]
              simp only [hasB, decide_eq_true_eq, beq_iff_eq, bF, bT, bS, hk2, Bool.and_eq_true]
              simp
              omega
            clear hm hb hk0 hk1 hk2
            obtain ⟨m1, m2, m3, m4⟩ := hm1
            by_cases ht : n ≤ i.t
            · have HE2 : Hid (hasB i lo hi n = ((n - i.f) % i.s == 0)) := by
                show _ = _
                rw [HE.out]; simp [ht]
              clear HE
              go_enter Tryz.func93, Tryz.ntmps93
              go_wp2
              go_ret
              exact ⟨ret_bool HE2.out.symm, by (repeat' (first | (with_reducible exact Below.refl _ _) | (with_reducible assumption) | (with_reducible refine below_drewN ?_ _) | (with_reducible refine Below.alloc ?_ ?_ _) | (with_reducible refine Below.drew ?_) | (with_reducible refine Below.setCell ?_ ?_ _) | go_size))⟩
            · have HE2 : Hid (hasB i lo hi n = false) := by
                show _ = _
                rw [HE.out]; simp [ht]
              clear HE
              go_enter Tryz.func93, Tryz.ntmps93
              go_wp2
              go_ret
              exact ⟨ret_bool HE2.out.symm, by (repeat' (first | (with_reducible exact Below.refl _ _) | (with_reducible assumption) | (with_reducible refine below_drewN ?_ _) | (with_reducible refine Below.alloc ?_ ?_ _) | (with_reducible refine Below.drew ?_) | (with_reducible refine Below.setCell ?_ ?_ _) | go_size))⟩
          · have h2 : (i.k == 2) = false := by simpa using hk2
            have HE : Hid (hasB i lo hi n = ((n - i.f) % i.s == 0)) := by
              show _ = _
              rw [Bool.eq_iff_iff]
              simp only [hasB, decide_eq_true_eq, beq_iff_eq, bF, bT, bS, hk0, hk1, hk2]
              simp
              omega
            clear hm hb hk0 hk1 hk2
            obtain ⟨m1, m2, m3, m4⟩ := hm1
            go_enter Tryz.func93, Tryz.ntmps93
            go_wp2
            go_ret
            exact ⟨ret_bool HE.out.symm, by (repeat' (first | (with_reducible exact Below.refl _ _) | (with_reducible assumption) | (with_reducible refine below_drewN ?_ _) | (with_reducible refine Below.alloc ?_ ?_ _) | (with_reducible refine Below.drew ?_) | (with_reducible refine Below.setCell ?_ ?_ _) | go_size))⟩

/-- A number is one of an item's that may be. -/
def itHas (lo hi n : Int) (i : It) : Bool := mayIt i lo hi && hasB i lo hi n
def inB (l : List It) (lo hi n : Int) : Bool := l.any (itHas lo hi n)

set_option maxHeartbeats 1000000 in
theorem rin_any (A : Option Addr) (m c : Nat) (l : List It) (lo hi n : Int) (w : World) (hA : RdIts w A m l) (hm : m ≤ 9223372036854775806) :
    Calls Tryz.prog 57 #[.slice A m c, .int .i64 lo, .int .i64 hi, .int .i64 n] w (Ret (.bool (inB l lo hi n)) w) := by
  have HL : Hid (l.length = m) := hA.1
  have HA := Lib.hid hA
  clear hA
  go_enter Tryz.func57, Tryz.ntmps57
  go_wp2
  go_loopw [9] (fun i wr => ∃ k : Nat, k ≤ m ∧ i = .int .i64 k ∧ Hid (∀ j it, j < k → l[j]? = some it → itHas lo hi n it = false) ∧ Below w.heap.size w wr) (fun i _ => m - (intOf i).toNat)
  case atStart => exact ⟨0, Nat.zero_le _, rfl, fun j _ h => absurd h (Nat.not_lt_zero _), Below.refl _ _⟩
  case round =>
    obtain ⟨k, hk, rfl, H, hb⟩ := hrel
    have hsz := hb.size
    by_cases hlt : k < m
    · obtain ⟨b, o, it, rfl, hbl, hx, c0, c1, c2, c3⟩ := RdIts.at_ (HA.out.below hb (Nat.le_refl _)) hlt
      have hlt' : (k : Int) < (m : Int) := by omega
      have Hx := Lib.hid hx
      clear hx
      have HM := Lib.hid (fun W => rmay_any it lo hi W)
      cases hmy : mayIt it lo hi with
      | false =>
        have Hm : Hid (itHas lo hi n it = false) := by show _ = _; simp [itHas, hmy]
        rw [hmy] at HM
        clear hmy
        go_wp2_with (go_at_call 26; refine (HM.out _).mono ?_; rintro e w1 ⟨rfl, hb1⟩)
        go_roundw
        case rel => exact ⟨k + 1, by omega, by go_num, all_succ H.out Hx.out Hm.out, bthen hb hb1 hsz⟩
        case measure => simp [intOf]; omega
      | true =>
        have HH := Lib.hid (fun W => rhas_any it lo hi n W hmy)
        rw [hmy] at HM
        cases hh : hasB it lo hi n with
        | false =>
          have Hm : Hid (itHas lo hi n it = false) := by show _ = _; simp [itHas, hh]
          rw [hh] at HH
          clear hmy hh
          go_wp2_with fail
          refine (HM.out _).mono ?_
          rintro e w1 ⟨rfl, hb1⟩
          obtain ⟨hc1, hf1⟩ := bcell hb1
          go_wp2_with fail
          refine (HH.out _).mono ?_
          rintro e w2 ⟨rfl, hb2⟩
          have hb3 := bthen hb1 hb2 hb1.size
          go_wp2
          go_roundw
          case rel => exact ⟨k + 1, by omega, by go_num, all_succ H.out Hx.out Hm.out, bthen hb hb3 hsz⟩
          case measure => simp [intOf]; omega
        | true =>
          have HT : Hid (inB l lo hi n = true) := by
            show _ = _
            simp only [inB, List.any_eq_true]
            exact ⟨it, List.mem_of_getElem? Hx.out, by simp [itHas, hmy, hh]⟩
          rw [hh] at HH
          clear hmy hh
          go_wp2_with fail
          refine (HM.out _).mono ?_
          rintro e w1 ⟨rfl, hb1⟩
          obtain ⟨hc1, hf1⟩ := bcell hb1
          go_wp2_with fail
          refine (HH.out _).mono ?_
          rintro e w2 ⟨rfl, hb2⟩
          have hb3 := bthen hb1 hb2 hb1.size
          go_wp2
          go_ret
          exact ⟨ret_bool HT.out.symm, bthen hb hb3 hsz⟩
    · obtain rfl : k = m := by omega
      have HT : Hid (inB l lo hi n = false) := by
        show _ = _
        simp only [inB, List.any_eq_false]
        intro it hit
        obtain ⟨j, hj, e⟩ := List.mem_iff_getElem.1 hit
        have := H.out j it (by have := HL.out; omega) (by rw [List.getElem?_eq_getElem hj, e])
        simp [this]
      clear H
      go_wp2
      go_ret
      exact ⟨ret_bool HT.out.symm, hb⟩

/-- The numbers from a to b (at most 9999) of which a list of items tells. -/
def refVal (l : List It) (lo hi : Int) : List Int := ((List.range (min hi 9999 - max 0 lo + 1).toNat).map fun (k : Nat) => max 0 lo + (k : Int)).filter (inB l lo hi)
def refN (lo hi : Int) : Nat := (min hi 9999 - max 0 lo + 1).toNat
def refTo (l : List It) (lo hi : Int) (k : Nat) : List Int := ((List.range k).map fun (k : Nat) => max 0 lo + (k : Int)).filter (inB l lo hi)
theorem refTo_all (l : List It) (lo hi : Int) : refTo l lo hi (refN lo hi) = refVal l lo hi := rfl
theorem refTo_succ (l : List It) (lo hi : Int) (k : Nat) : refTo l lo hi (k + 1) = refTo l lo hi k ++ (if inB l lo hi (max 0 lo + (k : Int)) then [max 0 lo + (k : Int)] else []) := by
  simp only [refTo, List.range_succ, List.map_append, List.map_cons, List.map_nil, List.filter_append]
  congr 1
  simp [List.filter_cons]
theorem refTo_len (l : List It) (lo hi : Int) (k : Nat) : (refTo l lo hi k).length ≤ k := by
  unfold refTo
  refine Nat.le_trans (List.length_filter_le _ _) ?_
  simp

set_option maxHeartbeats 2000000 in
theorem rvalues_any (A : Option Addr) (n c : Nat) (l : List It) (lo hi : Int) (w : World) (hA : RdIts w A n l) (hn : n ≤ 9223372036854775806) (hlo : In64 lo) (hhi : In64 hi) :
    Calls Tryz.prog 29 #[.slice A n c, .int .i64 lo, .int .i64 hi] w (RetOwn (refVal l lo hi) w) := by
  obtain ⟨i0, hi0, hz0, hz1, hz2⟩ := info_parts info_int
  have HA := Lib.hid hA
  clear hA
  have HR := Lib.hid (refTo_all l lo hi)
  have HN : Hid (refN lo hi = (min hi 9999 - max 0 lo + 1).toNat) := rfl
  generalize refN lo hi = N at *
  have hlo' := hlo.2
  have hhi' := hhi.1
  clear hlo hhi
  go_enter Tryz.func29, Tryz.ntmps29
  go_wp2
  go_loopw [7, 8] (fun v i wr => ∃ (vo : Value) (k : Nat), vo = v ∧ k ≤ N ∧ i = .int .i64 (max 0 lo + k) ∧ Hid (OwnInts wr w.heap.size vo (refTo l lo hi k)) ∧ Below w.heap.size w wr) (fun _ i _ => N - (intOf i - max 0 lo).toNat)
  case atStart => exact ⟨_, 0, rfl, Nat.zero_le _, by go_num, World.ownsRow_nil _ _ _ _, Below.refl _ _⟩
  case round =>
    obtain ⟨vo, k, rfl, hk, rfl, HO, hb⟩ := hrel
    have hsz := hb.size
    have HS := Lib.hid (refTo_succ l lo hi k)
    have hln := refTo_len l lo hi k
    have HI := Lib.hid (fun x W (hW : Below w.heap.size w W) => rin_any A n c l lo hi x W (HA.out.below hW (Nat.le_refl _)) hn)
    have hN := HN.out
    have hL0 : 0 ≤ max 0 lo := by omega
    have hL1 : max 0 lo ≤ 9223372036854775807 := by omega
    generalize hL : max 0 lo = L at *
    have HLL := Lib.hid hL
    clear hL
    by_cases hlt : k < N
    · have hc1 : L + (k : Int) ≤ hi := by omega
      have hc2 : L + (k : Int) ≤ 9999 := by omega
      clear hN
      cases hv : inB l lo hi (L + k) with
      | false =>
        have HI1 := Lib.hid (HI.out (L + k) wr hb)
        rw [hv] at HS HI1
        clear hv
        go_wp2_with fail
        refine HI1.out.mono ?_
        rintro e w1 ⟨rfl, hb1⟩
        go_wp2
        go_roundw
        case rel =>
          have HS' : Hid (refTo l lo hi (k + 1) = refTo l lo hi k) := by show _ = _; rw [HS.out]; simp
          exact ⟨_, k + 1, rfl, by omega, by go_num, by rw [HS'.out]; exact own_below HO.out hb1, bthen hb hb1 hsz⟩
        case measure => simp [intOf]; omega
      | true =>
        have HI1 := Lib.hid (HI.out (L + k) wr hb)
        rw [hv] at HS HI1
        have HS1 : Hid (refTo l lo hi (k + 1) = refTo l lo hi k ++ [L + (k : Int)]) := by show _ = _; rw [HS.out]; simp
        clear hv HS
        have HSN : Hid ((refTo l lo hi k).map (Value.int .i64) ++ [.int .i64 (L + (k : Int))] = (refTo l lo hi (k + 1)).map (Value.int .i64)) := by
          show _ = _
          rw [HS1.out]; simp
        have HNL : Hid ((refTo l lo hi (k + 1)).length = (refTo l lo hi k).length + 1) := by
          show _ = _
          rw [HS1.out]; simp
        generalize hX1 : refTo l lo hi (k + 1) = X1 at *
        have HX1 := Lib.hid hX1
        clear hX1
        generalize refTo l lo hi k = X0 at *
        go_wp2_with fail
        refine HI1.out.mono ?_
        rintro e w1 ⟨rfl, hb1⟩
        have HO1 := Lib.hid (own_below HO.out hb1)
        have hb2 := bthen hb hb1 hsz
        have hsz2 := hb2.size
        go_wp2_with (at_builtin; refine wpList_append_own _ rfl _ _ 62 rfl w.heap.size 3 i0 (.int .i64 0) 1 8 Tryz.underlying62 hi0 hz0 hz1 hz2 rfl (by decide) _ X0.length _ rfl (HO1.out.alloc _) ⟨w1.heap.size, 0, none⟩ 1 1 [.int .i64 (L + (k : Int))] rfl rfl ?c1 ?c2 ?c3 ?c4 ?c5 ?c6)
        case c1 =>
          intro j' u hu
          rcases j' with _ | j'
          · simp at hu; subst hu
            exact cell_new rfl rfl
          · simp at hu
        case c2 => intro u hu; simp at hu; subst hu; rfl
        case c3 => simp only [maxLen]; omega
        case c4 => omega
        case c5 => simp; omega
        case c6 =>
          intro v' w' hown hg _
          have HV : Hid (OwnInts w' w.heap.size v' X1) := by
            show World.ownsRow _ _ _ _ _ _ _
            rw [HNL.out, ← HSN.out]
            exact hown
          have hbn : Below w.heap.size w w' := grown_below (HO1.out.alloc _) (hb2.alloc (by omega) _) (by simp; omega) hg
          clear hown hg
          go_wp2
          go_roundw
          case rel => exact ⟨_, k + 1, rfl, by omega, by go_num, by rw [HX1.out]; exact HV.out, hbn⟩
          case measure => simp [intOf]; omega
    · obtain rfl : k = N := by omega
      have HO2 : Hid (OwnInts wr w.heap.size vo (refVal l lo hi)) := by rw [← HR.out]; exact HO.out
      by_cases hc1 : L + (k : Int) ≤ hi
      · have hc2 : ¬ L + (k : Int) ≤ 9999 := by omega
        clear hN
        go_wp2
        go_ret
        exact ⟨_, rfl, HO2.out, hb⟩
      · clear hN
        go_wp2
        go_ret
        exact ⟨_, rfl, HO2.out, hb⟩
end Go.Proofs.YtochhmkdhdadhaaGreat
