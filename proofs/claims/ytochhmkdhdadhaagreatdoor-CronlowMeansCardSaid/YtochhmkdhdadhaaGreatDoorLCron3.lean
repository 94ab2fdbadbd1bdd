/- The law CronWeeks: its walks. -/
import Derived.Test.YtochhmkdhdadhaaGreatDoorLItem
import Derived.Test.YtochhmkdhdadhaaGreatDoorLCron
namespace Go.Proofs.YtochhmkdhdadhaaGreatDoor
open Go.RowKit
set_option linter.unusedSimpArgs false
set_option linter.unusedVariables false

theorem and_one {M : Int} (h0 : 0 ≤ M) (h1 : M < 18446744073709551616) : bits .and .u64 M 1 = M % 2 := by
  rw [u64_and M 1 h0 h1 (by decide) (by decide)]
  have : M.toNat &&& (1 : Int).toNat = M.toNat % 2 := Nat.and_one_is_mod _
  rw [this]
  omega

set_option maxHeartbeats 400000 in
/-- mask.Has at 0. -/
theorem has0_any (l : List Int) (w : World) : Calls Tryz.prog 63 #[.int .u64 (maskL l), .int .i64 0] w (RetQ (.bool (decide ((0 : Int) ∈ l))) w) := by
  have hb := maskL_lt l
  have hm := maskL_mod l 0 (by decide)
  have he := and_one hb.1 hb.2
  have HQ : Hid (decide ((0 : Int) ∈ l) = (maskL l % 2 == 1)) := by
    show _ = _
    have e1 : maskL l / 2 ^ 0 = maskL l := by simp
    rw [e1] at hm
    rw [hm]
    by_cases h : (0 : Int) ∈ l <;> simp [h]
  clear hm
  generalize maskL l = M at *
  obtain ⟨h0, h1⟩ := hb
  go_enter Tryz.func63, Tryz.ntmps63
  go_wp2
  go_ret
  exact ⟨ret_bool HQ.out.symm, rfl⟩

theorem mkN_and_lit : mkN (fun i => decide (i ≠ 0)) 64 = 18446744073709551614 := by decide +kernel
/-- Without 0. -/
theorem maskL_wo (l : List Int) : bits .andNot .u64 (maskL l) 1 = maskL (l.filter fun x => decide (x ≠ 0)) := by
  have hb := maskL_lt l
  rw [u64_andNot _ 1 hb.1 hb.2 (by decide) (by decide)]
  have e1 : (18446744073709551615 - (1 : Int).toNat) = 18446744073709551614 := rfl
  have e2 : (maskL l).toNat = mkN (inL l) 64 := by unfold maskL; simp
  rw [e1, e2, ← mkN_and_lit, mkN_and]
  unfold maskL
  congr 1
  apply mkN_ext
  intro i hi
  simp only [inL, List.mem_filter, decide_eq_true_eq]
  by_cases h : (i : Int) ∈ l <;> by_cases h0 : i = 0 <;> simp [h, h0]
/-- With more. -/
theorem maskL_or (l m : List Int) : bits .or .u64 (maskL l) (maskL m) = maskL (l ++ m) := by
  have h1 := mkN_lt (inL l) 64
  have h2 := mkN_lt (inL m) 64
  unfold maskL
  rw [u64_or_nat _ _ h1 h2, mkN_or]
  congr 1
  apply mkN_ext
  intro i hi
  simp only [inL, List.mem_append]
  by_cases h : (i : Int) ∈ l <;> by_cases h0 : (i : Int) ∈ m <;> simp [h, h0]

def wkL (V : List Int) : List Int := (if (0 : Int) ∈ V then V ++ [7] else V).filter fun x => decide (x ≠ 0)
theorem mem_wkL {V : List Int} {x : Int} : x ∈ wkL V ↔ x ≠ 0 ∧ (x ∈ V ∨ ((0 : Int) ∈ V ∧ x = 7)) := by
  unfold wkL
  rw [List.mem_filter]
  split
  · rename_i h
    simp only [List.mem_append, List.mem_singleton, decide_eq_true_eq]
    constructor
    · rintro ⟨h1, h2⟩; exact ⟨h2, h1.imp id fun e => ⟨h, e⟩⟩
    · rintro ⟨h1, h2⟩; exact ⟨h2.imp id fun e => e.2, h1⟩
  · rename_i h
    simp only [decide_eq_true_eq]
    constructor
    · rintro ⟨h1, h2⟩; exact ⟨h2, .inl h1⟩
    · rintro ⟨h1, h2⟩; exact ⟨h2.elim id fun e => absurd e.1 h, h1⟩

set_option maxHeartbeats 1000000 in
theorem weekdays_any (A : Option Addr) (n c : Nat) (l : List It) (w : World) (hA : RdIts w A n l) (hn : n ≤ 100000) :
    Calls Tryz.prog 25 #[.slice A n c] w (Ret (.int .u64 (maskL (wkL (refVal l 0 7)))) w) := by
  have HA := Lib.hid hA
  clear hA
  have HB := Lib.hid (bounds_in 4 (by decide))
  have HM := Lib.hid (fun W (hW : Below w.heap.size w W) => imask_any 0 7 A n c l W (HA.out.below hW (Nat.le_refl _)) hn)
  have HO := Lib.hid (fun b W h => maskOf_any (some ⟨b, 0, none⟩) 1 1 [7] W h (by decide))
  generalize refVal l 0 7 = V at *
  have HH := Lib.hid (fun W => has0_any V W)
  by_cases h0 : (0 : Int) ∈ V
  · have HE : Hid (maskL (wkL V) = bits .andNot .u64 (bits .or .u64 (maskL V) (maskL [7])) 1) := by
      show _ = _
      rw [maskL_or, maskL_wo]
      unfold wkL
      rw [if_pos h0]
    have hd : decide ((0 : Int) ∈ V) = true := decide_eq_true h0
    rw [hd] at HH
    clear h0 hd
    generalize maskL V = M at *
    go_enter Tryz.func25, Tryz.ntmps25
    go_wp2_with fail
    refine (HB.out _).mono ?_
    rintro e w1 ⟨rfl, hb1⟩
    go_wp2_with fail
    refine (HM.out _ hb1).mono ?_
    rintro e w2 ⟨rfl, hb2⟩
    have hb12 := bthen hb1 hb2 hb1.size
    go_wp2_with fail
    refine (HH.out _).mono ?_
    rintro e w3 ⟨rfl, rfl⟩
    go_wp2_with fail
    refine (HO.out _ _ ?_).mono ?_
    · exact rdInts_one _ _ 7 (by simp) (by simp [go_sem])
    rintro e w4 ⟨rfl, rfl⟩
    have hsz := hb12.size
    go_wp2
    go_ret
    exact ⟨by rw [HE.out]; rfl, by (repeat' (first | (with_reducible exact Below.refl _ _) | (with_reducible assumption) | (with_reducible refine below_drewN ?_ _) | (with_reducible refine Below.alloc ?_ ?_ _) | (with_reducible refine Below.drew ?_) | (with_reducible refine Below.setCell ?_ ?_ _) | go_size))⟩
  · have HE : Hid (maskL (wkL V) = bits .andNot .u64 (maskL V) 1) := by
      show _ = _
      rw [maskL_wo]
      unfold wkL
      rw [if_neg h0]
    have hd : decide ((0 : Int) ∈ V) = false := decide_eq_false h0
    rw [hd] at HH
    clear h0 hd
    generalize maskL V = M at *
    go_enter Tryz.func25, Tryz.ntmps25
    go_wp2_with fail
    refine (HB.out _).mono ?_
    rintro e w1 ⟨rfl, hb1⟩
    go_wp2_with fail
    refine (HM.out _ hb1).mono ?_
    rintro e w2 ⟨rfl, hb2⟩
    have hb12 := bthen hb1 hb2 hb1.size
    go_wp2_with fail
    refine (HH.out _).mono ?_
    rintro e w3 ⟨rfl, rfl⟩
    go_wp2
    go_ret
    exact ⟨by rw [HE.out]; rfl, hb12⟩

/-- The document's list of weekdays. -/
def outTo (l : List It) (k : Nat) : List Int := ((List.range k).filter fun (n : Nat) => inB l 0 7 (n : Int)).map fun (n : Nat) => if n = 0 then (7 : Int) else (n : Int)
theorem outTo_succ (l : List It) (k : Nat) : outTo l (k + 1) = outTo l k ++ (if inB l 0 7 (k : Int) then [if k = 0 then 7 else (k : Int)] else []) := by
  unfold outTo
  rw [List.range_succ, List.filter_append, List.map_append]
  congr 1
  by_cases h : inB l 0 7 (k : Int) = true <;> simp [h]
theorem outTo_len (l : List It) (k : Nat) : (outTo l k).length ≤ k := by
  unfold outTo
  rw [List.length_map]
  exact Nat.le_trans (List.length_filter_le _ _) (by simp)
theorem out_mask (l : List It) : maskL (outTo l 8) = maskL (wkL (refVal l 0 7)) := by
  apply maskL_ext
  intro i hi
  rw [mem_wkL, (refVal_spec 0 7 l).2, (refVal_spec 0 7 l).2]
  simp only [outTo, List.mem_map, List.mem_filter, List.mem_range]
  constructor
  · rintro ⟨n, ⟨hn, hb⟩, e⟩
    by_cases h0 : n = 0
    · subst h0
      rw [if_pos rfl] at e
      exact ⟨by omega, .inr ⟨hb, by omega⟩⟩
    · rw [if_neg h0] at e
      have : n = i := by omega
      subst this
      exact ⟨by omega, .inl hb⟩
  · rintro ⟨h1, h2 | ⟨h2, h3⟩⟩
    · have h4 : (i : Int) ≤ 7 := by
        have h5 := ((refVal_spec 0 7 l).2 i).2 h2
        unfold refVal at h5
        have h6 := (List.mem_filter.1 h5).1
        simp only [List.mem_map, List.mem_range] at h6
        obtain ⟨a, ha, e⟩ := h6
        omega
      exact ⟨i, ⟨by omega, h2⟩, by rw [if_neg (by omega)]⟩
    · exact ⟨0, ⟨by omega, h2⟩, by rw [if_pos rfl]; omega⟩

set_option maxRecDepth 20000 in
set_option maxHeartbeats 2000000 in
theorem rweekdays_any (A : Option Addr) (n c : Nat) (l : List It) (w : World) (hA : RdIts w A n l) (hn : n ≤ 9223372036854775806) :
    Calls Tryz.prog 32 #[.slice A n c] w (Ret (.int .u64 (maskL (wkL (refVal l 0 7)))) w) := by
  obtain ⟨i0, hi0, hz0, hz1, hz2⟩ := info_parts info_int
  have HI0 := Lib.hid hi0
  have HZ0 := Lib.hid hz0
  have HZ1 := Lib.hid hz1
  have HZ2 := Lib.hid hz2
  clear hi0 hz0 hz1 hz2
  have HI := Lib.hid (fun (k : Nat) W (hW : Below w.heap.size w W) => rin_any A n c l 0 7 (k : Int) W (hA.below hW (Nat.le_refl _)) hn)
  have HW := Lib.hid (out_mask l)
  clear hA
  go_enter Tryz.func32, Tryz.ntmps32
  go_wp2
  go_loopw [3, 4] (fun v i wr => ∃ (vo : Value) (k : Nat), vo = v ∧ k ≤ 8 ∧ i = .int .i64 k ∧ Hid (OwnInts wr w.heap.size vo (outTo l k)) ∧ Below w.heap.size w wr) (fun _ i _ => 8 - (intOf i).toNat)
  case atStart => exact ⟨_, 0, rfl, Nat.zero_le _, by go_num, World.ownsRow_nil _ _ _ _, Below.refl _ _⟩
  case round =>
    obtain ⟨vo, k, rfl, hk, rfl, HO, hb⟩ := hrel
    have hsz := hb.size
    by_cases hlt : k < 8
    · have hlt' : (k : Int) < 8 := by omega
      have HS := Lib.hid (outTo_succ l k)
      have hln := outTo_len l k
      have HI1 := Lib.hid (HI.out k wr hb)
      cases hv : inB l 0 7 (k : Int) with
      | false =>
        have HS1 : Hid (outTo l (k + 1) = outTo l k) := by show _ = _; rw [HS.out, hv]; simp
        rw [hv] at HI1
        clear hv HS
        go_wp2_with fail
        refine HI1.out.mono ?_
        rintro e w1 ⟨rfl, hb1⟩
        go_wp2
        go_roundw
        case rel => exact ⟨_, k + 1, rfl, by omega, by go_num, by rw [HS1.out]; exact own_below HO.out hb1, bthen hb hb1 hsz⟩
        case measure => simp [intOf]; omega
      | true =>
        have hS1 : outTo l (k + 1) = outTo l k ++ [if k = 0 then 7 else (k : Int)] := by rw [HS.out, hv]; simp
        rw [hv] at HI1
        clear hv HS
        by_cases h0 : k = 0
        · rw [if_pos h0] at hS1
          have h0' : ((k : Int) == 0) = true := by simp; omega
          clear h0
          have HSN : Hid ((outTo l k).map (Value.int .i64) ++ [.int .i64 7] = (outTo l (k + 1)).map (Value.int .i64)) := by
            show _ = _
            rw [hS1]; simp
          have HNL : Hid ((outTo l (k + 1)).length = (outTo l k).length + 1) := by
            show _ = _
            rw [hS1]; simp
          obtain ⟨X0, hX0⟩ : ∃ X, X = outTo l k := ⟨_, rfl⟩
          obtain ⟨X1, hX1⟩ : ∃ X, X = outTo l (k + 1) := ⟨_, rfl⟩
          rw [← hX0] at HO HSN HNL hln
          rw [← hX1] at HSN HNL
          have HX1 := Lib.hid hX1
          clear hX0 hX1 hS1
          go_wp2_with fail
          refine HI1.out.mono ?_
          rintro e w1 ⟨rfl, hb1⟩
          have HO1 := Lib.hid (own_below HO.out hb1)
          have hb2 := bthen hb hb1 hsz
          have hsz2 := hb2.size
          have hi0 := HI0.out
          have hz0 := HZ0.out
          have hz1 := HZ1.out
          have hz2 := HZ2.out
          go_wp2_with (at_builtin; refine wpList_append_own _ rfl _ _ 63 rfl w.heap.size 3 i0 (.int .i64 0) 1 8 Tryz.underlying63 hi0 hz0 hz1 hz2 rfl (by decide) _ X0.length _ rfl (HO1.out.alloc _) ⟨w1.heap.size, 0, none⟩ 1 1 [.int .i64 7] rfl rfl ?c1 ?c2 ?c3 ?c4 ?c5 ?c6)
          case c1 =>
            intro j' u hu
            rcases j' with _ | j'
            · simp at hu; subst hu
              exact cell_new rfl rfl
            · simp at hu
          case c2 => intro u hu; simp at hu; subst hu; rfl
          case c3 => simp only [maxLen]; omega
          case c4 => omega
          case c5 => simp; omega
          case c6 =>
            intro v' w' hown hg _
            have HV : Hid (OwnInts w' w.heap.size v' X1) := by
              show World.ownsRow _ _ _ _ _ _ _
              rw [HNL.out, ← HSN.out]
              exact hown
            have hbn : Below w.heap.size w w' := grown_below (HO1.out.alloc _) (hb2.alloc (by omega) _) (by simp; omega) hg
            clear hown hg hi0 hz0 hz1 hz2
            go_wp2
            go_roundw
            case rel => exact ⟨_, k + 1, rfl, by omega, by go_num, by rw [← HX1.out]; exact HV.out, hbn⟩
            case measure => simp [intOf]; omega
        · rw [if_neg h0] at hS1
          have h0' : ((k : Int) == 0) = false := by simp; omega
          clear h0
          have HSN : Hid ((outTo l k).map (Value.int .i64) ++ [.int .i64 (k : Int)] = (outTo l (k + 1)).map (Value.int .i64)) := by
            show _ = _
            rw [hS1]; simp
          have HNL : Hid ((outTo l (k + 1)).length = (outTo l k).length + 1) := by
            show _ = _
            rw [hS1]; simp
          obtain ⟨X0, hX0⟩ : ∃ X, X = outTo l k := ⟨_, rfl⟩
          obtain ⟨X1, hX1⟩ : ∃ X, X = outTo l (k + 1) := ⟨_, rfl⟩
          rw [← hX0] at HO HSN HNL hln
          rw [← hX1] at HSN HNL
          have HX1 := Lib.hid hX1
          clear hX0 hX1 hS1
          go_wp2_with fail
          refine HI1.out.mono ?_
          rintro e w1 ⟨rfl, hb1⟩
          have HO1 := Lib.hid (own_below HO.out hb1)
          have hb2 := bthen hb hb1 hsz
          have hsz2 := hb2.size
          have hi0 := HI0.out
          have hz0 := HZ0.out
          have hz1 := HZ1.out
          have hz2 := HZ2.out
          go_wp2_with (at_builtin; refine wpList_append_own _ rfl _ _ 63 rfl w.heap.size 3 i0 (.int .i64 0) 1 8 Tryz.underlying63 hi0 hz0 hz1 hz2 rfl (by decide) _ X0.length _ rfl (HO1.out.alloc _) ⟨w1.heap.size, 0, none⟩ 1 1 [.int .i64 (k : Int)] rfl rfl ?c1 ?c2 ?c3 ?c4 ?c5 ?c6)
          case c1 =>
            intro j' u hu
            rcases j' with _ | j'
            · simp at hu; subst hu
              exact cell_new rfl rfl
            · simp at hu
          case c2 => intro u hu; simp at hu; subst hu; rfl
          case c3 => simp only [maxLen]; omega
          case c4 => omega
          case c5 => simp; omega
          case c6 =>
            intro v' w' hown hg _
            have HV : Hid (OwnInts w' w.heap.size v' X1) := by
              show World.ownsRow _ _ _ _ _ _ _
              rw [HNL.out, ← HSN.out]
              exact hown
            have hbn : Below w.heap.size w w' := grown_below (HO1.out.alloc _) (hb2.alloc (by omega) _) (by simp; omega) hg
            clear hown hg hi0 hz0 hz1 hz2
            go_wp2
            go_roundw
            case rel => exact ⟨_, k + 1, rfl, by omega, by go_num, by rw [← HX1.out]; exact HV.out, hbn⟩
            case measure => simp [intOf]; omega
    · obtain rfl : k = 8 := by omega
      obtain ⟨A', c', rfl, _, _, hrd, _⟩ := OwnInts.rd HO.out
      have hln := outTo_len l 8
      have HM := Lib.hid (rmaskOf_any A' (outTo l 8).length c' (outTo l 8) wr hrd (by omega))
      rw [HW.out] at HM
      generalize maskL (wkL (refVal l 0 7)) = M at *
      clear hrd HO
      go_wp2_with fail
      refine HM.out.mono ?_
      rintro e w1 ⟨rfl, rfl⟩
      go_wp2
      go_ret
      exact ⟨rfl, hb⟩

theorem wk_even (V : List Int) : maskL (wkL V) % 2 = 0 := by
  have h := maskL_mod (wkL V) 0 (by decide)
  have e1 : maskL (wkL V) / 2 ^ 0 = maskL (wkL V) := by simp
  rw [e1, if_neg] at h
  · exact h
  · rw [mem_wkL]
    rintro ⟨h0, _⟩
    exact h0 rfl
theorem mkN_cut (p : Nat → Bool) (m : Nat) : ∀ k, m ≤ k → (∀ i, m ≤ i → p i = false) → mkN p k = mkN p m
  | 0, h, _ => by obtain rfl : m = 0 := by omega
                  rfl
  | k + 1, h, hp => by
    rcases Nat.lt_or_eq_of_le h with h1 | rfl
    · rw [mkN, mkN_cut p m k (by omega) hp, hp k (by omega)]; simp
    · rfl
theorem wk_small (l : List It) : maskL (wkL (refVal l 0 7)) < 256 := by
  unfold maskL
  rw [mkN_cut _ 8 64 (by decide)]
  · have := mkN_lt (inL (wkL (refVal l 0 7))) 8
    omega
  · intro i hi
    simp only [inL, decide_eq_false_iff_not]
    rw [mem_wkL]
    rintro ⟨h0, h1 | ⟨_, h1⟩⟩
    · unfold refVal at h1
      have h6 := (List.mem_filter.1 h1).1
      simp only [List.mem_map, List.mem_range] at h6
      obtain ⟨a, ha, e⟩ := h6
      omega
    · omega
theorem wk_some {l : List It} (h : rightB 0 7 200 l = true) : maskL (wkL (refVal l 0 7)) ≠ 0 := by
  simp only [rightB, Bool.and_eq_true, decide_eq_true_eq, List.all_eq_true] at h
  obtain ⟨⟨h1, _⟩, h2⟩ := h
  rcases l with _ | ⟨it, l⟩
  · simp at h1
  have hm := h2 it (by simp)
  obtain ⟨b1, b2, b3, b4, b5⟩ := may_bd hm
  obtain ⟨c1, c2, c3, c4⟩ := may_bd2 hm
  have hin : inB (it :: l) 0 7 (bF it 0) = true := by
    simp only [inB, List.any_cons, itHas, hm, Bool.true_and, Bool.or_eq_true]
    left
    simp [hasB, b2]
  have hv := ((refVal_spec 0 7 (it :: l)).2 _).2 hin
  have key : ∃ n : Nat, n < 64 ∧ (n : Int) ∈ wkL (refVal (it :: l) 0 7) := by
    by_cases h0 : bF it 0 = 0
    · exact ⟨7, by decide, mem_wkL.2 ⟨by decide, .inr ⟨by rw [h0] at hv; exact hv, rfl⟩⟩⟩
    · have e : (((bF it 0).toNat : Nat) : Int) = bF it 0 := by omega
      exact ⟨(bF it 0).toNat, by omega, by rw [e]; exact mem_wkL.2 ⟨h0, .inl hv⟩⟩
  obtain ⟨n, hn, hmem⟩ := key
  intro hz
  have := maskL_mod (wkL (refVal (it :: l) 0 7)) n hn
  rw [hz, if_pos hmem] at this
  simp at this

end Go.Proofs.YtochhmkdhdadhaaGreatDoor
