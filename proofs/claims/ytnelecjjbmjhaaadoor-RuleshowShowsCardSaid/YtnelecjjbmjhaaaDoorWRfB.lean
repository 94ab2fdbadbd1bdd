/- The walks of the references of rules: lists. -/
import Derived.Test.YtnelecjjbmjhaaaDoorWRfA
import Derived.Test.YtnelecjjbmjhaaaDoorWRuI
namespace Go.Proofs.YtnelecjjbmjhaaaDoor
open Go.RowKit
set_option linter.unusedSimpArgs false
set_option linter.unusedVariables false

/-- The weekdays' names in short, in memory. -/
def dyV (k : Nat) : Value := .string (strB (dyNm k))
set_option maxRecDepth 10000 in
set_option maxHeartbeats 2000000 in
theorem weekday34_any (p : Int × Int) (h : In64 p.1) (w : World) : Calls Tryd.prog 14 #[.agg #[.int .i64 p.1, .int .i64 p.2]] w (Ret (.string (strB (nthT p))) w) := by
  obtain ⟨x, d⟩ := p
  dsimp only at h ⊢
  have HI := Lib.hid (fun W => num_any x h W)
  have hz := itoa_size h
  by_cases h1 : d < 1
  · have HR : Hid (nthT (x, d) = []) := by show _ = _; unfold nthT; rw [if_pos (.inl h1)]
    clear h HI
    go_enter Tryd.func14, Tryd.ntmps14
    go_wp2
    go_ret
    exact ⟨ret_str (by rw [HR.out]), by (repeat' (first | (with_reducible exact Below.refl _ _) | (with_reducible assumption) | (with_reducible refine below_drewN ?_ _) | (with_reducible refine Below.alloc ?_ ?_ _) | (with_reducible refine Below.drew ?_) | (with_reducible refine Below.setCell ?_ ?_ _) | go_size))⟩
  by_cases h7 : 7 < d
  · have HR : Hid (nthT (x, d) = []) := by show _ = _; unfold nthT; rw [if_pos (.inr h7)]
    clear h HI
    go_enter Tryd.func14, Tryd.ntmps14
    go_wp2
    go_ret
    exact ⟨ret_str (by rw [HR.out]), by (repeat' (first | (with_reducible exact Below.refl _ _) | (with_reducible assumption) | (with_reducible refine below_drewN ?_ _) | (with_reducible refine Below.alloc ?_ ?_ _) | (with_reducible refine Below.drew ?_) | (with_reducible refine Below.setCell ?_ ?_ _) | go_size))⟩
  obtain ⟨k, hk, rfl⟩ : ∃ k : Nat, k < 7 ∧ d = (k : Int) + 1 := ⟨d.toNat - 1, by omega, by omega⟩
  have e1 : (k : Int) + 1 - 1 = (k : Int) := by omega
  have hk7 : (k : Int) < 7 := by omega
  have hV : nthT (x, (k : Int) + 1) = if x = 0 then dyNm k else Lib.itoa x ++ dyNm k := by
    unfold nthT
    dsimp only
    rw [if_neg (by omega), show ((k : Int) + 1).toNat - 1 = k by omega]
  have HV := Lib.hid hV
  have hzd : (strB (dyNm k)).size = 2 := by rw [strB_size]; exact dyNm_len k
  have HD := Lib.hid (strB_data (dyNm k))
  have HDi := Lib.hid (strB_data (Lib.itoa x))
  have HArr := Lib.hid (arr_new (w.alloc (.cells #[.int .i64 x, .int .i64 ((k : Int) + 1)] 38)) #[.string ⟨#[77, 79]⟩, .string ⟨#[84, 85]⟩, .string ⟨#[87, 69]⟩, .string ⟨#[84, 72]⟩, .string ⟨#[70, 82]⟩, .string ⟨#[83, 65]⟩, .string ⟨#[83, 85]⟩] 9 dyV (by
    intro j hj
    obtain rfl | rfl | rfl | rfl | rfl | rfl | rfl : j = 0 ∨ j = 1 ∨ j = 2 ∨ j = 3 ∨ j = 4 ∨ j = 5 ∨ j = 6 := by simp at hj; omega
    all_goals rfl))
  have HA : Hid ((w.alloc (.cells #[.int .i64 x, .int .i64 ((k : Int) + 1)] 38)).heap.size = w.heap.size + 1) := by simp [Hid]
  rw [HA.out] at HArr
  have hc := HArr.out.1 k hk
  unfold dyV at hc
  have Hc := Lib.hid hc
  clear hV h hc HArr HA
  generalize nthT (x, (k : Int) + 1) = R at *
  generalize strB (dyNm k) = G at *
  generalize strB (Lib.itoa x) = S at *
  have hzg : G.size ≤ 2 := by omega
  clear hzd
  by_cases h0 : x = 0
  · have HR : Hid (R = dyNm k) := by show _ = _; rw [HV.out, if_pos h0]
    have h0' : (x == 0) = true := by simpa using h0
    clear h0 HV
    have hc := Hc.out
    go_enter Tryd.func14, Tryd.ntmps14
    go_wp2
    go_ret
    exact ⟨ret_str (by rw [HR.out, HD.out]), by (repeat' (first | (with_reducible exact Below.refl _ _) | (with_reducible assumption) | (with_reducible refine below_drewN ?_ _) | (with_reducible refine Below.alloc ?_ ?_ _) | (with_reducible refine Below.drew ?_) | (with_reducible refine Below.setCell ?_ ?_ _) | go_size))⟩
  · have HR : Hid (R = Lib.itoa x ++ dyNm k) := by show _ = _; rw [HV.out, if_neg h0]
    have h0' : (x == 0) = false := by simpa using h0
    clear h0 HV
    go_enter Tryd.func14, Tryd.ntmps14
    go_wp2
    generalize hW : World.alloc (World.alloc w _) _ = W1
    have hbW : Below w.heap.size w W1 := by rw [← hW]; exact ((Below.refl _ w).alloc (Nat.le_refl _) _).alloc (by simp) _
    have q0 : ∀ x' : Ext W1, x'.W.cell? ⟨w.heap.size, 0, none⟩ = some (.int .i64 x) := fun x' => x'.cell (by rw [← hW]; exact (((Below.refl _ (w.alloc (.cells #[.int .i64 x, .int .i64 ((k : Int) + 1)] 38))).alloc (Nat.le_refl _) _).cell (p := ⟨_, 0, none⟩) (by simp)).trans (cell_new rfl rfl))
    have q1 : ∀ x' : Ext W1, x'.W.cell? ⟨w.heap.size, 1, none⟩ = some (.int .i64 ((k : Int) + 1)) := fun x' => x'.cell (by rw [← hW]; exact (((Below.refl _ (w.alloc (.cells #[.int .i64 x, .int .i64 ((k : Int) + 1)] 38))).alloc (Nat.le_refl _) _).cell (p := ⟨_, 1, none⟩) (by simp)).trans (cell_new rfl rfl))
    have q2 : ∀ x' : Ext W1, x'.W.cell? ⟨w.heap.size + 1, k, none⟩ = some (.string G) := fun x' => x'.cell (by rw [← hW]; exact Hc.out)
    clear hW
    refine wp_region_grew (by kernel_rfl) (by kernel_rfl) ?_
    repeat (first | go_big_quiet_skip | (go_big_quiet_want; go_big_quiet_op; (first | go_big_quiet_on | go_big_quiet_call ((with_reducible exact ext_call _ (HI.out _))))))
    refine wpQuiet_nil ?_
    rintro _ ⟨xw, rfl⟩
    go_wp2
    go_ret
    exact ⟨ret_str (by rw [HR.out, str_app, HD.out, HDi.out]), bthen hbW xw.h hbW.size⟩
set_option maxHeartbeats 1000000 in
theorem out32_any (A : Option Addr) (n c : Nat) (l : List Int) (lo hi : Int) (w : World) (hA : RdInts w A n l) (hn : n ≤ 9223372036854775806) :
    Calls Tryd.prog 69 #[.slice A n c, .int .i64 lo, .int .i64 hi] w (RetQ (.bool (l.any (outC lo hi))) w) := by
  have HL : Hid (l.length = n) := hA.1
  have HA := Lib.hid hA
  clear hA
  go_enter Tryd.func69, Tryd.ntmps69
  go_wp2
  go_loop [7] (fun i => ∃ k : Nat, k ≤ n ∧ i = .int .i64 k ∧ Hid (∀ j x, j < k → l[j]? = some x → outC lo hi x = false)) (fun i => n - (intOf i).toNat)
  case atStart => exact ⟨0, Nat.zero_le _, rfl, fun j _ h => absurd h (Nat.not_lt_zero _)⟩
  case round =>
    obtain ⟨k, hk, rfl, H⟩ := hrel
    by_cases hlt : k < n
    · obtain ⟨b, o, x, rfl, hbl, hx, c0⟩ := RdInts.at_ HA.out hlt
      have hlt' : (k : Int) < (n : Int) := by omega
      have Hx := Lib.hid hx
      clear hx
      by_cases hm : x < lo ∨ hi < x
      · have Hm : Hid (l.any (outC lo hi) = true) := by
          show _ = _
          rw [List.any_eq_true]
          exact ⟨x, List.mem_of_getElem? Hx.out, decide_eq_true hm⟩
        by_cases h1 : x < lo
        · clear hm
          go_wp2
          go_ret
          exact ⟨ret_bool Hm.out.symm, rfl⟩
        · have h2 : hi < x := by omega
          clear hm
          go_wp2
          go_ret
          exact ⟨ret_bool Hm.out.symm, rfl⟩
      · have Hm : Hid (outC lo hi x = false) := decide_eq_false hm
        have h1 : ¬ x < lo := by omega
        have h2 : ¬ hi < x := by omega
        clear hm
        go_wp2
        go_round
        case rel => exact ⟨k + 1, by omega, by go_num, allG_succ (p := outC lo hi) H.out Hx.out Hm.out⟩
        case measure => simp [intOf]; omega
    · obtain rfl : k = n := by omega
      have Hm : Hid (l.any (outC lo hi) = false) := by
        show _ = _
        rw [List.any_eq_false]
        intro x hx
        obtain ⟨j, hj⟩ := List.getElem?_of_mem hx
        have h1 := H.out j x (by rw [← HL.out]; exact (List.getElem?_eq_some_iff.1 hj).1) hj
        simp [h1]
      go_wp2
      go_ret
      exact ⟨ret_bool Hm.out.symm, rfl⟩
set_option maxHeartbeats 1000000 in
theorem list32_any (A : Option Addr) (n c : Nat) (l : List Int) (lo hi : Int) (w : World) (hA : RdInts w A n l) (hn : n ≤ 9223372036854775806) :
    Calls Tryd.prog 46 #[.slice A n c, .int .i64 lo, .int .i64 hi] w (RetQ (.int .i64 (listE l lo hi)) w) := by
  have HO := Lib.hid (out32_any A n c l lo hi w hA hn)
  have HL : Hid (l.length = n) := hA.1
  by_cases h : 64 < n
  · have HR : Hid (listE l lo hi = 5) := by show _ = _; unfold listE; rw [HL.out, if_pos h]
    have h' : (64 : Int) < (n : Int) := by omega
    clear h hA
    go_enter Tryd.func46, Tryd.ntmps46
    go_wp2
    go_ret
    exact ⟨ret_int HR.out.symm, rfl⟩
  · have h' : ¬ (64 : Int) < (n : Int) := by omega
    cases hq : l.any (outC lo hi) with
    | true =>
      have HR : Hid (listE l lo hi = 4) := by show _ = _; unfold listE; rw [HL.out, if_neg h, if_pos hq]
      rw [hq] at HO
      clear h hA hq
      go_enter Tryd.func46, Tryd.ntmps46
      go_wp2_with fail
      refine HO.out.mono ?_
      rintro e w1 ⟨rfl, rfl⟩
      go_wp2
      go_ret
      exact ⟨ret_int HR.out.symm, rfl⟩
    | false =>
      have HR : Hid (listE l lo hi = 0) := by show _ = _; unfold listE; rw [HL.out, if_neg h, if_neg (by rw [hq]; decide)]
      rw [hq] at HO
      clear h hA hq
      go_enter Tryd.func46, Tryd.ntmps46
      go_wp2_with fail
      refine HO.out.mono ?_
      rintro e w1 ⟨rfl, rfl⟩
      go_wp2
      go_ret
      exact ⟨ret_int HR.out.symm, rfl⟩
/-- Two numbers are of unlike signs. -/
def unlike (x y : Int) : Bool := ((decide (x < 0)) != (decide (y < 0))) || ((decide (x = 0)) != (decide (y = 0)))
theorem unlike_iff (x y : Int) : unlike x y = true ↔ ¬ ((x < 0 ↔ y < 0) ∧ (x = 0 ↔ y = 0)) := by
  unfold unlike
  by_cases h1 : x < 0 <;> by_cases h2 : y < 0 <;> by_cases h3 : x = 0 <;> by_cases h4 : y = 0 <;> simp [h1, h2, h3, h4]
theorem cnt_pos {p : Int → Bool} {l : List Int} {x : Int} (hx : x ∈ l) (h : p x = true) : 0 < l.countP p := List.countP_pos_iff.2 ⟨x, hx, h⟩
theorem mixC_yes {l : List Int} {x y : Int} (hx : x ∈ l) (hy : y ∈ l) (h : unlike x y = true) : mixC l = true := by
  rw [unlike_iff] at h
  have hb : ∀ z ∈ l, z < 0 → 0 < cntB l := fun z hz hq => cnt_pos hz (by simpa using hq)
  have ha : ∀ z ∈ l, 0 < z → 0 < cntA l := fun z hz hq => cnt_pos hz (by simpa using hq)
  have hzz : ∀ z ∈ l, z = 0 → 0 < cntZ l := fun z hz hq => cnt_pos hz (by simpa using hq)
  unfold mixC
  simp only [Bool.or_eq_true, Bool.and_eq_true, decide_eq_true_eq]
  rcases Int.lt_trichotomy x 0 with h1 | h1 | h1 <;> rcases Int.lt_trichotomy y 0 with h2 | h2 | h2
  · exact absurd ⟨by omega, by omega⟩ h
  · left; exact ⟨hb x hx h1, by have := hzz y hy h2; omega⟩
  · left; exact ⟨hb x hx h1, by have := ha y hy h2; omega⟩
  · left; exact ⟨hb y hy h2, by have := hzz x hx h1; omega⟩
  · exact absurd ⟨by omega, by omega⟩ h
  · right; exact ⟨ha y hy h2, hzz x hx h1⟩
  · left; exact ⟨hb y hy h2, by have := ha x hx h1; omega⟩
  · right; exact ⟨ha x hx h1, hzz y hy h2⟩
  · exact absurd ⟨by omega, by omega⟩ h
theorem mixC_no {l : List Int} {x : Int} (H : ∀ y ∈ l, unlike y x = false) : mixC l = false := by
  have key : ∀ y ∈ l, (y < 0 ↔ x < 0) ∧ (y = 0 ↔ x = 0) := by
    intro y hy
    have := H y hy
    false_or_by_contra
    rename_i h
    rw [(unlike_iff y x).2 h] at this
    cases this
  have hb : 0 < cntB l → x < 0 := fun h => by
    obtain ⟨y, hy, hq⟩ := List.countP_pos_iff.1 h
    exact (key y hy).1.1 (by simpa using hq)
  have ha : 0 < cntA l → 0 < x := fun h => by
    obtain ⟨y, hy, hq⟩ := List.countP_pos_iff.1 h
    have h1 := key y hy
    have h2 : 0 < y := by simpa using hq
    omega
  have hz : 0 < cntZ l → x = 0 := fun h => by
    obtain ⟨y, hy, hq⟩ := List.countP_pos_iff.1 h
    exact (key y hy).2.1 (by simpa using hq)
  unfold mixC
  rw [Bool.or_eq_false_iff]
  refine ⟨?_, ?_⟩
  · rw [Bool.and_eq_false_iff]
    by_cases h1 : 0 < cntB l
    · right
      rw [decide_eq_false_iff_not]
      intro h2
      have := hb h1
      rcases Nat.lt_or_ge 0 (cntA l) with h3 | h3
      · have := ha h3; omega
      · have := hz (by omega); omega
    · left; simpa using h1
  · rw [Bool.and_eq_false_iff]
    by_cases h1 : 0 < cntA l
    · right
      rw [decide_eq_false_iff_not]
      intro h2
      have := ha h1
      have := hz h2
      omega
    · left; simpa using h1
end Go.Proofs.YtnelecjjbmjhaaaDoor
