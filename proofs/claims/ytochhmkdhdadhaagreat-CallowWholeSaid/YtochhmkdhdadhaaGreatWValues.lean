/- The walk of item.Values. -/
import Derived.Test.YtochhmkdhdadhaaGreatWCron
import Derived.Test.YtochhmkdhdadhaaGreatWArr
import Derived.Test.YtochhmkdhdadhaaGreatShelf
namespace Go.Proofs.YtochhmkdhdadhaaGreat
open Go.RowKit
set_option linter.unusedSimpArgs false
set_option linter.unusedVariables false

def bF (i : It) (lo : Int) : Int := if i.k = 0 then lo else i.f
def bT (i : It) (hi : Int) : Int := if i.k = 1 then i.f else if i.k = 2 then i.t else hi
def bS (i : It) : Int := if i.k = 1 then 1 else i.s
set_option maxHeartbeats 400000 in
theorem ibounds_any (i : It) (lo hi : Int) (w : World) : Calls Tryz.prog 89 #[.agg #[.int .i64 i.k, .int .i64 i.f, .int .i64 i.t, .int .i64 i.s], .int .i64 lo, .int .i64 hi] w (Ret (.tuple #[.int .i64 (bF i lo), .int .i64 (bT i hi), .int .i64 (bS i)]) w) := by
  by_cases h0 : i.k = 0
  · have h0' : (i.k == 0) = true := by simpa using h0
    have e1 : bF i lo = lo := if_pos h0
    have e2 : bT i hi = hi := by simp [bT, h0]
    have e3 : bS i = i.s := by simp [bS, h0]
    rw [e1, e2, e3]
    clear h0 e1 e2 e3
    go_enter Tryz.func89, Tryz.ntmps89
    go_wp2
    go_quiet (fail)
    go_wp2
    go_ret3
    exact ⟨rfl, by (repeat' (first | (with_reducible exact Below.refl _ _) | (with_reducible assumption) | (with_reducible refine below_drewN ?_ _) | (with_reducible refine Below.alloc ?_ ?_ _) | (with_reducible refine Below.drew ?_) | (with_reducible refine Below.setCell ?_ ?_ _) | go_size))⟩
  have h0' : (i.k == 0) = false := by simpa using h0
  have e1 : bF i lo = i.f := if_neg h0
  by_cases h1 : i.k = 1
  · have h1' : (i.k == 1) = true := by simpa using h1
    have e2 : bT i hi = i.f := if_pos h1
    have e3 : bS i = 1 := if_pos h1
    rw [e1, e2, e3]
    clear h0 h1 e1 e2 e3
    go_enter Tryz.func89, Tryz.ntmps89
    go_wp2
    go_quiet (fail)
    go_wp2
    go_ret3
    exact ⟨rfl, by (repeat' (first | (with_reducible exact Below.refl _ _) | (with_reducible assumption) | (with_reducible refine below_drewN ?_ _) | (with_reducible refine Below.alloc ?_ ?_ _) | (with_reducible refine Below.drew ?_) | (with_reducible refine Below.setCell ?_ ?_ _) | go_size))⟩
  have h1' : (i.k == 1) = false := by simpa using h1
  have e3 : bS i = i.s := if_neg h1
  by_cases h2 : i.k = 2
  · have h2' : (i.k == 2) = true := by simpa using h2
    have e2 : bT i hi = i.t := by simp [bT, h2]
    rw [e1, e2, e3]
    clear h0 h1 h2 e1 e2 e3
    go_enter Tryz.func89, Tryz.ntmps89
    go_wp2
    go_quiet (fail)
    go_wp2
    go_ret3
    exact ⟨rfl, by (repeat' (first | (with_reducible exact Below.refl _ _) | (with_reducible assumption) | (with_reducible refine below_drewN ?_ _) | (with_reducible refine Below.alloc ?_ ?_ _) | (with_reducible refine Below.drew ?_) | (with_reducible refine Below.setCell ?_ ?_ _) | go_size))⟩
  · have h2' : (i.k == 2) = false := by simpa using h2
    have e2 : bT i hi = hi := by simp [bT, h1, h2]
    rw [e1, e2, e3]
    clear h0 h1 h2 e1 e2 e3
    go_enter Tryz.func89, Tryz.ntmps89
    go_wp2
    go_quiet (fail)
    go_wp2
    go_ret3
    exact ⟨rfl, by (repeat' (first | (with_reducible exact Below.refl _ _) | (with_reducible assumption) | (with_reducible refine below_drewN ?_ _) | (with_reducible refine Below.alloc ?_ ?_ _) | (with_reducible refine Below.drew ?_) | (with_reducible refine Below.setCell ?_ ?_ _) | go_size))⟩

theorem may_bd {i : It} {lo hi : Int} (h : mayIt i lo hi = true) : 0 ≤ bF i lo ∧ bF i lo ≤ bT i hi ∧ bT i hi ≤ 9999 ∧ 1 ≤ bS i ∧ bS i ≤ 999 := by
  simp only [mayIt, MayP, decide_eq_true_eq] at h
  unfold bF bT bS
  split <;> split <;> (try split) <;> omega

/-- The numbers of an item that may be. -/
def itL (i : It) (lo hi : Int) : List Int := (List.range ((bT i hi - bF i lo) / bS i + 1).toNat).map fun (k : Nat) => bF i lo + (k : Int) * bS i
/-- The numbers of items, one behind the other. -/
def rawL (lo hi : Int) (l : List It) : List Int := l.flatMap fun i => if mayIt i lo hi then itL i lo hi else []
theorem itL_len {i : It} {lo hi : Int} (h : mayIt i lo hi = true) : (itL i lo hi).length ≤ 10000 := by
  have hb := may_bd h
  simp only [itL, List.length_map, List.length_range]
  have : (bT i hi - bF i lo) / bS i ≤ bT i hi - bF i lo := Int.ediv_le_self _ (by omega)
  omega
theorem rawL_len (lo hi : Int) (l : List It) : (rawL lo hi l).length ≤ l.length * 10000 := by
  induction l with
  | nil => simp [rawL]
  | cons i l ih =>
    simp only [rawL, List.flatMap_cons, List.length_append, List.length_cons] at ih ⊢
    have : (if mayIt i lo hi = true then itL i lo hi else []).length ≤ 10000 := by
      split
      · exact itL_len (by assumption)
      · simp
    omega
theorem rawL_snoc (lo hi : Int) (l : List It) (i : It) : rawL lo hi (l ++ [i]) = rawL lo hi l ++ (if mayIt i lo hi then itL i lo hi else []) := by simp [rawL]
def valL (lo hi : Int) (l : List It) : List Int := Lib.compact ((rawL lo hi l).mergeSort fun x y => decide (x ≤ y))

theorem own_tail {w w' : World} {B : Nat} {v : Value} {l : List Int} (h : OwnInts w B v l) (hb : w'.ownsRow B 3 1 v l.length (l.map (Value.int .i64))) : OwnInts w' B v l := hb
theorem grown_below {B n : Nat} {w0 w w' : World} {v : Value} {t : TypeId} {k : Nat} {xs : List Value} (h : w.ownsRow B t k v n xs) (hb : Below B w0 w) (hB : B ≤ w.heap.size) (hg : w.grownBy w' v.ownBlock) : Below B w0 w' := by
  refine hb.grown hg hB ?_
  intro b hb'
  rcases own_some h with ⟨h1, _⟩ | ⟨g, cap, h1, h2, h3⟩
  · rw [h1] at hb'; simp [Value.ownBlock] at hb'
  · rw [h1] at hb'; simp [Value.ownBlock] at hb'; subst hb'; exact h2
theorem compact_len (l : List Int) : (Lib.compact l).length ≤ l.length := Lib.compact_length_le l
theorem sortL_len (l : List Int) : (l.mergeSort fun x y => decide (x ≤ y)).length = l.length := List.length_mergeSort ..
/-- Behind Compact. -/
theorem own_compacted {w : World} {B g cap q : Nat} {l : List Int} (h : OwnInts w B (.slice (some ⟨g, 0, none⟩) l.length cap) l) :
    OwnInts (Go.Sort.putRow (Value.int .i64) (Sort.ahead w q) g 0 (Lib.compact l ++ List.replicate (l.length - (Lib.compact l).length) 0).toArray) B (.slice (some ⟨g, 0, none⟩) (Lib.compact l).length cap) (Lib.compact l) := by
  have h1 := Lib.ownsRow_putRow (enc := Value.int .i64) (q := q) (k := (Lib.compact l).length) (ys := Lib.compact l ++ List.replicate (l.length - (Lib.compact l).length) 0) h (by have := compact_len l; simp; omega) (compact_len l)
  rw [List.take_left' rfl] at h1
  exact h1
theorem own_sorted {w : World} {B g cap q : Nat} {os : Array Obj} {l : List Int} (h : OwnInts w B (.slice (some ⟨g, 0, none⟩) l.length cap) l) :
    OwnInts (Go.Sort.grow (Go.Sort.putRow (Value.int .i64) (Sort.ahead w q) g 0 (l.mergeSort fun x y => decide (x ≤ y)).toArray) os) B (.slice (some ⟨g, 0, none⟩) (l.mergeSort fun x y => decide (x ≤ y)).length cap) (l.mergeSort fun x y => decide (x ≤ y)) := by
  rcases h.2 with ⟨h0, _⟩ | ⟨g', cap', cur, hv, hg, hb, hn, hcap, hs, ht⟩
  · cases h0
  cases hv
  have h2 := ownsRow_sortedI (n := q) (os := os) (sortL_len l) hg hb hn hcap hs
  rw [← sortL_len] at h2
  exact h2

set_option maxHeartbeats 2000000 in
theorem values_any (lo hi : Int) (A : Option Addr) (n c : Nat) (l : List It) (w : World) (hA : RdIts w A n l) (hn : n ≤ 100000) :
    Calls Tryz.prog 54 #[.int .i64 lo, .int .i64 hi, .slice A n c] w (RetOwn (valL lo hi l) w) := by
  have HL : Hid (l.length = n) := hA.1
  obtain ⟨i0, hi0, hz0, hz1, hz2⟩ := info_parts info_int
  have HA := Lib.hid hA
  clear hA
  go_enter Tryz.func54, Tryz.ntmps54
  go_wp2
  go_loopw [7, 16] (fun v i wr => ∃ (vo : Value) (k : Nat), vo = v ∧ k ≤ n ∧ i = .int .i64 k ∧ Hid (OwnInts wr w.heap.size vo (rawL lo hi (l.take k))) ∧ Below w.heap.size w wr) (fun _ i _ => n - (intOf i).toNat)
  case atStart => exact ⟨_, 0, rfl, Nat.zero_le _, rfl, World.ownsRow_nil _ _ _ _, Below.refl _ _⟩
  case round =>
    obtain ⟨vo, k, rfl, hk, rfl, HO, hb⟩ := hrel
    have hsz := hb.size
    by_cases hlt : k < n
    · obtain ⟨b, o, it, rfl, hbl, hx, c0, c1, c2, c3⟩ := RdIts.at_ (HA.out.below hb (Nat.le_refl _)) hlt
      have hlt' : (k : Int) < (n : Int) := by omega
      have Hx := Lib.hid hx
      have hts : l.take (k + 1) = l.take k ++ [it] := by rw [List.take_add_one, hx]; rfl
      have hlk : (l.take k).length = k := List.length_take_of_le (by have := HL.out; omega)
      have hrl := rawL_len lo hi (l.take k)
      rw [hlk] at hrl
      clear hx
      cases hm : mayIt it lo hi with
      | false =>
        have HE : Hid (rawL lo hi (l.take (k + 1)) = rawL lo hi (l.take k)) := by
          show _ = _
          rw [hts, rawL_snoc, hm]; simp
        clear hts hrl hlk
        have HM := Lib.hid (fun W => may_any it lo hi W)
        rw [hm] at HM
        clear hm
        go_wp2_with fail
        refine (HM.out _).mono ?_
        rintro e w1 ⟨rfl, hb1⟩
        have hb2 : Below wr.heap.size wr w1 := ((Below.refl _ wr).alloc (Nat.le_refl _) _).trans (hb1.mono (by simp))
        go_wp2
        go_roundw
        case rel => exact ⟨_, k + 1, rfl, by omega, by go_num, by rw [HE.out]; exact own_below HO.out hb2, bthen hb hb2 hsz⟩
        case measure => simp [intOf]; omega
      | true =>
        have hbd := may_bd hm
        have hil := itL_len hm
        have HE : Hid (rawL lo hi (l.take (k + 1)) = rawL lo hi (l.take k) ++ itL it lo hi) := by
          show _ = _
          rw [hts, rawL_snoc, hm]; simp
        have HM := Lib.hid (fun W => may_any it lo hi W)
        rw [hm] at HM
        have HBd := Lib.hid (fun W => ibounds_any it lo hi W)
        unfold itL at HE hil
        generalize bF it lo = F at *
        generalize bT it hi = T at *
        generalize bS it = S at *
        obtain ⟨hF, hFT, hT, hS, hS9⟩ := hbd
        have hq0 : 0 ≤ (T - F) / S := Int.ediv_nonneg (by omega) (by omega)
        obtain ⟨m, hmm⟩ : ∃ m : Nat, (m : Int) = (T - F) / S + 1 := ⟨((T - F) / S + 1).toNat, by omega⟩
        rw [← hmm, Int.toNat_natCast] at HE hil
        have hmul : ((m : Int) - 1) * S ≤ T - F := by
          rw [hmm, Int.add_sub_cancel]
          have := Int.ediv_mul_le (T - F) (show S ≠ 0 by omega)
          exact this
        simp only [List.length_map, List.length_range] at hil
        have hmq : (T - F) / S + 1 = (m : Int) := hmm.symm
        have HMM := Lib.hid hmm
        have hq1 : (T - F) / S ≤ 9999 := by omega
        clear hts hlk hm hmm
        go_wp2_with fail
        refine (HM.out _).mono ?_
        rintro e w1 ⟨rfl, hb1⟩
        obtain ⟨hc1, hf1⟩ := bcell hb1
        have hb2 : Below wr.heap.size wr w1 := ((Below.refl _ wr).alloc (Nat.le_refl _) _).trans (hb1.mono (by simp))
        have hsz1 : wr.heap.size < w1.heap.size := by have := hb1.size; simp at this; omega
        go_wp2_with fail
        refine (HBd.out _).mono ?_
        rintro e w2 ⟨rfl, hb3⟩
        have hb4 := bthen hb2 hb3 hb2.size
        have hb5 := bthen hb hb4 hsz
        clear hc1 hf1
        obtain ⟨wo, rfl⟩ : ∃ wo : World, wo = wr := ⟨_, rfl⟩
        go_wp2
        go_loopw [7, 39] (fun v i wq => ∃ (vo : Value) (j : Nat), vo = v ∧ j ≤ m ∧ i = .int .i64 j ∧ Hid (OwnInts wq w.heap.size vo (rawL lo hi (l.take k) ++ ((List.range j).map fun (k : Nat) => F + (k : Int) * S))) ∧ Below w.heap.size w wq) (fun _ i _ => m - (intOf i).toNat)
        case atStart =>
          refine ⟨_, 0, rfl, Nat.zero_le _, rfl, ?_, hb5⟩
          show OwnInts _ _ _ _
          rw [List.range_zero, List.map_nil, List.append_nil]
          exact own_below HO.out hb4
        case round =>
          obtain ⟨vq, j, rfl, hj, rfl, HQ, hbq⟩ := hrel
          have hszq := hbq.size
          clear hb1 hb3 hb4 hb5 hb2 hb hsz1
          by_cases hlj : j < m
          · have hlj' : (j : Int) < (m : Int) := by omega
            have hm1 : 0 ≤ (j : Int) * S := Int.mul_nonneg (by omega) (by omega)
            have hm2 : (j : Int) * S ≤ ((m : Int) - 1) * S := Int.mul_le_mul_of_nonneg_right (by omega) (by omega)
            have hm3 : (j : Int) * S ≤ 9999 := by omega
            clear hm2 hmul
            have hnl : (rawL lo hi (l.take k) ++ ((List.range j).map fun (k : Nat) => F + (k : Int) * S)).length = (rawL lo hi (l.take k)).length + j := by simp
            have HSN : Hid ((rawL lo hi (l.take k) ++ ((List.range j).map fun (k : Nat) => F + (k : Int) * S)).map (Value.int .i64) ++ [.int .i64 (F + (j : Int) * S)] = (rawL lo hi (l.take k) ++ ((List.range (j + 1)).map fun (k : Nat) => F + (k : Int) * S)).map (Value.int .i64)) := by
              simp [Hid, List.range_succ]
            have HQ' : Hid (wr.ownsRow w.heap.size 3 1 vq ((rawL lo hi (l.take k)).length + j) ((rawL lo hi (l.take k) ++ ((List.range j).map fun (k : Nat) => F + (k : Int) * S)).map (Value.int .i64))) := by
              show World.ownsRow _ _ _ _ _ _ _
              rw [← hnl]; exact HQ.out
            have HNL : Hid ((rawL lo hi (l.take k) ++ ((List.range (j + 1)).map fun (k : Nat) => F + (k : Int) * S)).length = (rawL lo hi (l.take k)).length + j + 1) := by simp [Hid]; omega
            clear hnl HQ
            generalize (rawL lo hi (l.take k) ++ ((List.range j).map fun (k : Nat) => F + (k : Int) * S)).map (Value.int .i64) = xs at *
            generalize hL2 : (rawL lo hi (l.take k) ++ ((List.range (j + 1)).map fun (k : Nat) => F + (k : Int) * S)) = L2 at *
            have HL2 := Lib.hid hL2
            clear hL2
            generalize (rawL lo hi (l.take k)).length = q at *
            go_wp2_with (at_builtin; refine wpList_append_own _ rfl _ _ 62 rfl w.heap.size 3 i0 (.int .i64 0) 1 8 Tryz.underlying62 hi0 hz0 hz1 hz2 rfl (by decide) _ (q + j) xs rfl (HQ'.out.alloc _) ⟨wr.heap.size, 0, none⟩ 1 1 [.int .i64 (F + (j : Int) * S)] rfl rfl ?c1 ?c2 ?c3 ?c4 ?c5 ?c6)
            case c1 =>
              intro j' u hu
              rcases j' with _ | j'
              · simp at hu; subst hu
                exact cell_new rfl rfl
              · simp at hu
            case c2 => intro u hu; simp at hu; subst hu; rfl
            case c3 => simp only [maxLen]; omega
            case c4 => omega
            case c5 => simp; omega
            case c6 =>
              intro v' w' hown hg _
              have HV : Hid (OwnInts w' w.heap.size v' L2) := by
                show World.ownsRow _ _ _ _ _ _ _
                rw [HNL.out, ← HSN.out]
                exact hown
              have hbn : Below w.heap.size w w' := grown_below (HQ'.out.alloc _) (hbq.alloc (by omega) _) (by simp; omega) hg
              clear hown hg
              go_wp2
              go_roundw
              case rel => exact ⟨_, j + 1, rfl, by omega, by go_num, by rw [HL2.out]; exact HV.out, hbn⟩
              case measure => simp [intOf]; omega
          · obtain rfl : j = m := by omega
            go_wp2
            go_roundw
            case rel => exact ⟨_, k + 1, rfl, by omega, by go_num, by rw [HE.out]; exact HQ.out, hbq⟩
            case measure => simp [intOf]; omega
    · obtain rfl : k = n := by omega
      have HE : Hid (rawL lo hi (l.take k) = rawL lo hi l) := by
        show _ = _
        rw [List.take_of_length_le (by have := HL.out; omega)]
      have hrl := rawL_len lo hi l
      have HO2 : OwnInts wr w.heap.size vo (rawL lo hi l) := by rw [← HE.out]; exact HO.out
      rw [HL.out] at hrl
      clear HO
      have hRL : ∃ R, R = rawL lo hi l := ⟨_, rfl⟩
      obtain ⟨R, hR⟩ := hRL
      have HV : Hid (valL lo hi l = Lib.compact (R.mergeSort fun x y => decide (x ≤ y))) := by rw [hR]; rfl
      rw [← hR] at HO2 hrl
      clear hR HE
      obtain ⟨B, hB⟩ : ∃ B, B = w.heap.size := ⟨_, rfl⟩
      by_cases h0 : R.length = 0
      · obtain rfl := List.length_eq_zero_iff.1 h0
        obtain ⟨A', c', rfl, -, -, -⟩ := OwnInts.rd HO2
        have HO := Lib.hid HO2
        clear HO2 h0
        have e0 : Lib.compact (([] : List Int).mergeSort fun x y => decide (x ≤ y)) = [] := by simp [List.mergeSort]; rfl
        rw [e0] at HV
        clear e0
        have H1 := Lib.hid (fun W => Tryz.slices_Sort_int_none A' c' W)
        have H2 := Lib.hid (fun W => Tryz.slices_Compact_int_empty A' c' W)
        go_wp2_with fail
        refine (H1.out _).mono ?_
        rintro e w1 ⟨rfl, rfl⟩
        go_wp2_with fail
        refine (H2.out _).mono ?_
        rintro e w1 ⟨rfl, rfl⟩
        go_wp2
        go_ret
        exact ⟨_, rfl, by rw [HV.out]; exact HO.out, hb⟩
      · obtain ⟨g, cap, rfl, hg, hgs, hc1, hc2, -, HH⟩ := Lib.holds_of_ownsRow HO2 (by
          rintro rfl
          rcases own_some HO2 with ⟨_, h2⟩ | ⟨g, cap, h1, _⟩
          · exact h0 h2
          · cases h1)
        have HO := Lib.hid HO2
        have H1 := Tryz.slices_Sort_int g 0 cap R wr HH hgs (by omega)
        have hsl := sortL_len R
        have HS1 : Hid (∀ q os, OwnInts (Go.Sort.grow (Go.Sort.putRow (Value.int .i64) (Sort.ahead wr q) g 0 (R.mergeSort fun x y => decide (x ≤ y)).toArray) os) w.heap.size (.slice (some ⟨g, 0, none⟩) (R.mergeSort fun x y => decide (x ≤ y)).length cap) (R.mergeSort fun x y => decide (x ≤ y))) := fun q os => own_sorted HO2
        have HB1 : Hid (∀ q os, Below w.heap.size w (Go.Sort.grow (Go.Sort.putRow (Value.int .i64) (Sort.ahead wr q) g 0 (R.mergeSort fun x y => decide (x ≤ y)).toArray) os)) := fun q os => hb.grown (grownBy_sortedI _) hsz (fun b hb' => by simp at hb'; omega)
        clear HO2 HH HO
        generalize (R.mergeSort fun x y => decide (x ≤ y)) = T at *
        have H1' := Lib.hid H1
        clear H1
        go_wp2_with fail
        refine H1'.out.mono ?_
        intro e w1 hp
        have hp1 := hp.1
        obtain ⟨q, os, hw⟩ := hp.2
        clear hp
        subst hp1
        have HT := HS1.out q os
        have HBT := HB1.out q os
        rw [← hw] at HT HBT
        clear HS1 HB1 H1' hw
        obtain ⟨g', cap', hv, _, _, _, _, _, HH⟩ := Lib.holds_of_ownsRow HT (by simp)
        cases hv
        have H2 := Lib.hid (Tryz.slices_Compact_int g 0 cap T w1 HH (by omega) (by omega))
        have HF : Hid (∀ q, OwnInts _ _ _ _) := fun q => own_compacted (q := q) HT
        have HFB : Hid (∀ q, Below w.heap.size w _) := fun q => Lib.below_putRow (q := q) (d := (Lib.compact T ++ List.replicate (T.length - (Lib.compact T).length) 0).toArray) (enc := Value.int .i64) HBT hg
        clear HH HT HBT
        rw [hsl] at H2 HF HFB
        go_wp2_with fail
        refine H2.out.mono ?_
        rintro e w2 ⟨rfl, q2, rfl⟩
        go_wp2
        go_ret
        exact ⟨_, rfl, by rw [HV.out]; exact HF.out q2, HFB.out q2⟩
end Go.Proofs.YtochhmkdhdadhaaGreat
