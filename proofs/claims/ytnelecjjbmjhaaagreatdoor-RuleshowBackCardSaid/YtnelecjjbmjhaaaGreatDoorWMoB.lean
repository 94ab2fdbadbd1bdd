/- The walks of moment.text and moment.Basic. -/
import Derived.Test.YtnelecjjbmjhaaaGreatDoorWMoA
import Derived.Test.YtnelecjjbmjhaaaGreatDoorWLex5
import Derived.Test.YtnelecjjbmjhaaaGreatDoorWRead
import Derived.Test.YtnelecjjbmjhaaaGreatDoorWBox
import Derived.Deep.RegionWith
import Derived.Laws.IdiomStrings
import Derived.StillTailTactics
namespace Go.Proofs.YtnelecjjbmjhaaaGreatDoor
open Go.RowKit
set_option linter.unusedSimpArgs false
set_option linter.unusedVariables false

/-- A number's last m digits. -/
def digsL : Nat → Int → List UInt8
  | 0, _ => []
  | m + 1, n => digsL m (n / 10) ++ [UInt8.ofNat (48 + (n % 10).toNat)]
theorem digsL_len (m : Nat) (n : Int) : (digsL m n).length = m := by
  induction m generalizing n with
  | zero => rfl
  | succ m ih => simp [digsL, ih]
theorem digsL_get (m : Nat) (n : Int) (h : 0 ≤ n) : ∀ j, j < m → (digsL m n)[j]? = some (UInt8.ofNat (48 + (n / 10 ^ (m - 1 - j) % 10).toNat)) := by
  induction m generalizing n with
  | zero => intro j hj; omega
  | succ m ih =>
    intro j hj
    rw [digsL]
    by_cases e : j = m
    · subst e
      rw [List.getElem?_append_right (by rw [digsL_len]; exact Nat.le_refl _), digsL_len, Nat.sub_self]
      rw [show j + 1 - 1 - j = 0 by omega]
      simp
    · rw [List.getElem?_append_left (by rw [digsL_len]; omega), ih (n / 10) (by omega) j (by omega)]
      have : n / 10 / 10 ^ (m - 1 - j) = n / 10 ^ (m + 1 - 1 - j) := by
        rw [Int.ediv_ediv_of_nonneg (by decide), show m + 1 - 1 - j = (m - 1 - j) + 1 by omega, Int.pow_succ, Int.mul_comm]
      rw [this]
/-- The cell of a digit, of m, k of which are there. -/
def digV (m : Nat) (n : Int) (k j : Nat) : Value := .int .u8 (if m - k ≤ j ∧ j < m then 48 + n / 10 ^ (m - 1 - j) % 10 else 0)
/-- A text in a cell. -/
def StrAt (w : World) (b : Nat) (S : ByteArray) : Prop := w.cell? ⟨b, 0, none⟩ = some (.string S) ∧ w.frozen? ⟨b, 0, none⟩ = false
/-- Nothing but a cell has turned: it holds another text. -/
def RetApp (b : Nat) (S : ByteArray) (w : World) (e : Ending) (w' : World) : Prop := e = .returned (.tuple #[]) ∧ StrAt w' b S ∧ Chg b w w'
theorem strAt_new (w : World) (S : ByteArray) (t : TypeId) {b : Nat} (h : b = w.heap.size) : StrAt (w.alloc (.cells #[.string S] t)) b S := by
  subst h
  refine ⟨cell_new rfl rfl, ?_⟩
  have h1 := heap_alloc_new w (.cells #[.string S] t)
  unfold World.frozen?
  rw [h1]
  rfl
theorem conv_digs {W : World} {b m : Nat} {n : Int} (hn : 0 ≤ n) (hm : m ≤ 4) (h : Arr W b 4 (digV m n m)) :
    (convert 113 9 (.slice (some ⟨b, 0, none⟩) m 4)).run Tryz.prog W = .ok (.string (strB (digsL m n))) W := by
  have h0 := run_convert_bytes_back (P := Tryz.prog) W 113 9 5 ⟨b, 0, none⟩ 4 (digsL m n) Tryz.underlying113 Tryz.underlying5 Tryz.underlying9 (by
    intro j hj
    rw [digsL_len] at hj
    have e : (⟨b, 0, none⟩ : Addr).add j = ⟨b, j, none⟩ := by unfold Addr.add; split <;> simp_all
    have hg := digsL_get m n hn j hj
    have hv : (digsL m n)[j]'(by rw [digsL_len]; exact hj) = UInt8.ofNat (48 + (n / 10 ^ (m - 1 - j) % 10).toNat) := by
      have := List.getElem?_eq_getElem (l := digsL m n) (i := j) (by rw [digsL_len]; exact hj)
      rw [hg] at this
      exact (Option.some.inj this).symm
    rw [e, h.1 j (by omega), hv]
    unfold digV
    rw [if_pos ⟨by omega, hj⟩]
    have hb : 0 ≤ n / 10 ^ (m - 1 - j) % 10 ∧ n / 10 ^ (m - 1 - j) % 10 < 10 := by omega
    have e2 : (UInt8.ofNat (48 + (n / 10 ^ (m - 1 - j) % 10).toNat)).toNat = 48 + (n / 10 ^ (m - 1 - j) % 10).toNat := by simp; omega
    rw [e2]
    congr 2
    omega)
  rw [digsL_len] at h0
  exact h0
theorem div_pow_succ (n : Int) (k : Nat) : n / 10 ^ k / 10 = n / 10 ^ (k + 1) := by
  rw [Int.ediv_ediv_of_nonneg (Int.le_of_lt (Int.pow_pos (by decide))), Int.pow_succ]
theorem div_pow_bd (n : Int) (h : 0 ≤ n) (k : Nat) : 0 ≤ n / 10 ^ k ∧ n / 10 ^ k ≤ n :=
  ⟨Int.ediv_nonneg h (Int.le_of_lt (Int.pow_pos (by decide))), Int.ediv_le_self _ h⟩
set_option maxRecDepth 10000 in
set_option maxHeartbeats 2000000 in
theorem digits_app (n : Int) (m b : Nat) (sg S : ByteArray) (w : World) (h0 : 0 ≤ n) (h1 : n ≤ 1000000) (hm : 1 ≤ m) (hm4 : m ≤ 4) (hs : sg.size ≤ 100) (hS : S.size ≤ 1000) (hb : StrAt w b S) :
    Calls Tryz.prog 123 #[.int .i64 n, .int .i64 m, .string sg, .pointer (some ⟨b, 0, none⟩)] w (RetApp b (S ++ (strB (digsL m n) ++ sg)) w) := by
  have hbw : b < w.heap.size := World.block_lt_of_cell? _ _ hb.1
  have HS0 := Lib.hid hb
  have HC := Lib.hid (fun W (h : Arr W w.heap.size 4 (digV m n m)) => conv_digs h0 hm4 h)
  have HD := Lib.hid (div_pow_succ n)
  have HB := Lib.hid (div_pow_bd n h0)
  have hzD : (strB (digsL m n)).size ≤ 4 := by rw [strB_size, digsL_len]; exact hm4
  have HA0 := Lib.hid (arr_new w #[.int .u8 0, .int .u8 0, .int .u8 0, .int .u8 0] 155 (digV m n 0) (by
    intro j hj
    unfold digV
    rw [if_neg (by omega)]
    obtain rfl | rfl | rfl | rfl : j = 0 ∨ j = 1 ∨ j = 2 ∨ j = 3 := by simp at hj; omega
    all_goals rfl))
  clear hb
  go_enter Tryz.func123, Tryz.ntmps123
  go_wp2
  go_loopw [0, 8] (fun nv iv wr => ∃ (k : Nat) (i : Int), k ≤ m ∧ nv = .int .i64 (n / 10 ^ k) ∧ iv = .int .i64 i ∧ i + k + 1 = m ∧ Hid (Arr wr w.heap.size 4 (digV m n k)) ∧ Hid (StrAt wr b S) ∧ w.heap.size < wr.heap.size ∧ Chg b w wr) (fun _ iv _ => (intOf iv + 1).toNat)
  case atStart => exact ⟨0, (m : Int) - 1, Nat.zero_le _, by simp, rfl, by omega, HA0, ⟨(((Below.refl _ w).alloc (Nat.le_refl _) _).cell (p := ⟨b, 0, none⟩) hbw).trans HS0.out.1, (((Below.refl _ w).alloc (Nat.le_refl _) _).frozen (p := ⟨b, 0, none⟩) hbw).trans HS0.out.2⟩, by simp, (Chg.refl b w).alloc _⟩
  case round =>
    obtain ⟨k, i, hk, rfl, rfl, hi, HA, HS, hlt, hg⟩ := hrel
    obtain ⟨b0, b1⟩ := HB.out k
    have hne : ¬ w.heap.size = b := by omega
    by_cases h0i : 0 ≤ i
    · obtain ⟨j, rfl⟩ := Int.eq_ofNat_of_zero_le h0i
      have HQ := Lib.hid (HD.out k)
      have hj4 : j < 4 := by omega
      have hj4' : (j : Int) < 4 := by omega
      have ck := HA.out.1 j hj4
      have fk := HA.out.2 j
      have HV : Hid (48 + n / 10 ^ k % 10 = 48 + n / 10 ^ (m - 1 - j) % 10) := by show _ = _; rw [show m - 1 - j = k by omega]
      generalize n / 10 ^ k = q at *
      have hq0 : 0 ≤ q % 10 := by omega
      have hq1 : q % 10 ≤ 9 := by omega
      go_wp2
      go_roundw
      case rel =>
        refine ⟨k + 1, (j : Int) - 1, by omega, by rw [← HQ.out], rfl, by omega, ?_, ⟨?_, ?_⟩, by simp [World.setCell]; exact hlt, ?_⟩
        · refine HA.out.set j hj4 _ ?_ ?_
          · unfold digV
            rw [if_pos (by omega), HV.out]
          · intro j' hj' hne'
            unfold digV
            by_cases hc : m - k ≤ j' ∧ j' < m
            · rw [if_pos hc, if_pos (by omega)]
            · rw [if_neg hc, if_neg (by omega)]
        · rw [World.cell?_setCell_other _ _ _ _ (by intro e; injection e with e2; exact hne e2)]; exact HS.out.1
        · rw [World.frozen?_setCell]; exact HS.out.2
        · exact Chg.setNew hg (Nat.le_refl _)
      case measure => simp [intOf] <;> omega
    · obtain rfl : i = -1 := by omega
      obtain rfl : k = m := by omega
      have hcv := HC.out _ HA.out
      have hcv2 := HC.out wr.drew HA.out.drew
      have hs1 := HS.out.1
      have hs2 := HS.out.2
      have hs1' : wr.drew.cell? ⟨b, 0, none⟩ = some (.string S) := hs1
      have hs2' : wr.drew.frozen? ⟨b, 0, none⟩ = false := hs2
      go_wp2
      have hk4 : (k : Int) ≤ 4 := by omega
      have hk0 : (0 : Int) ≤ (k : Int) := by omega
      have q1 : ¬ 9223372036854775807 < (strB (digsL k n)).size + sg.size := by omega
      have q2 : ¬ 9223372036854775807 < S.size + (strB (digsL k n) ++ sg).size := by rw [ByteArray.size_append]; omega
      have q3 : ¬ 9223372036854775807 < S.size + ((strB (digsL k n)).size + sg.size) := by omega
      go_still_tail 7, (by kernel_rfl)
      change wpList _ _ _ _ _ wr.drew
      go_wp2
      go_end0
      refine ⟨rfl, ⟨?_, ?_⟩, ?_⟩
      · exact World.cell?_setCell_same _ _ _ hs1
      · change (wr.setCell _ _).frozen? _ = false
        rw [World.frozen?_setCell]; exact hs2
      · exact (hg.set 0 _).drewN 1

/-- An instant's parts, as numbers. -/
def partC (t : Int) (k : Nat) : Int := if k = 0 then yD (t / 86400) else if k = 1 then mD (t / 86400) else if k = 2 then dD (t / 86400) else if k = 3 then t % 86400 / 3600 else if k = 4 then t % 86400 / 60 % 60 else t % 86400 % 60
/-- The text of an instant, with signs between, as far as a part. -/
def txtP (v : Nat → Int) (g : Nat → List UInt8) : Nat → List UInt8
  | 0 => digsL 4 (v 0) ++ g 0
  | k + 1 => txtP v g k ++ (digsL 2 (v (k + 1)) ++ g (k + 1))
theorem txtP_len (v : Nat → Int) (g : Nat → List UInt8) (hg : ∀ k, (g k).length ≤ 10) : ∀ k, (txtP v g k).length ≤ 14 * (k + 1)
  | 0 => by have := hg 0; simp [txtP, digsL_len]; omega
  | k + 1 => by have := txtP_len v g hg k; have := hg (k + 1); simp [txtP, digsL_len]; omega
theorem partC_bd {t : Int} (h : inC t = true) (k : Nat) : 0 ≤ partC t k ∧ partC t k ≤ 10000 := by
  unfold inC at h
  rw [decide_eq_true_eq] at h
  obtain ⟨hm, hy0, hy1⟩ := date_may (n := t / 86400) (by omega) (by omega)
  unfold mayC at hm
  rw [decide_eq_true_eq] at hm
  obtain ⟨l0, l1, l2⟩ := lft_bd (offD_bd (n := t / 86400) (by omega)).1 (offD_bd (n := t / 86400) (by omega)).2
  obtain ⟨_, _, d0, d1, q0, q1⟩ := mm_bd l1 l2
  change 1 ≤ dD (t / 86400) at d0
  change dD (t / 86400) ≤ 31 at d1
  change 1 ≤ mD (t / 86400) at q0
  change mD (t / 86400) ≤ 12 at q1
  unfold partC
  repeat' split
  all_goals omega
def partV (t : Int) (k : Nat) : Value := .int .i64 (partC t k)
def partV1 (t : Int) (k : Nat) : Value := .int .i64 (partC t (k + 1))
def sigV (g : Nat → ByteArray) (k : Nat) : Value := .string (g k)
set_option maxRecDepth 20000 in
set_option maxHeartbeats 4000000 in
theorem text_ok (t : Int) (h : inC t = true) (g : Nat → ByteArray) (hg : ∀ k, (g k).size ≤ 10) (w : World) :
    Calls Tryz.prog 64 #[.int .i64 t, .agg #[.string (g 0), .string (g 1), .string (g 2), .string (g 3), .string (g 4), .string (g 5)]] w (Ret (.string (strB (txtP (partC t) (fun k => (g k).data.toList) 5))) w) := by
  have HS := Lib.hid (stamp_ok t h)
  have HB := Lib.hid (partC_bd h)
  have HG := Lib.hid hg
  have HLn := Lib.hid (txtP_len (partC t) (fun k => (g k).data.toList) (fun k => by have := hg k; rw [← len_data] at this; exact this))
  have HA := Lib.hid (arr_new w #[.string (g 0), .string (g 1), .string (g 2), .string (g 3), .string (g 4), .string (g 5)] 107 (sigV g) (by
    intro j hj
    obtain rfl | rfl | rfl | rfl | rfl | rfl : j = 0 ∨ j = 1 ∨ j = 2 ∨ j = 3 ∨ j = 4 ∨ j = 5 := by simp at hj; omega
    all_goals rfl))
  have HV : Hid (stV t = .agg #[.int .i64 (partC t 0), .int .i64 (partC t 1), .int .i64 (partC t 2), .int .i64 (partC t 3), .int .i64 (partC t 4), .int .i64 (partC t 5)]) := rfl
  rw [HV.out] at HS
  clear h hg HV
  go_enter Tryz.func64, Tryz.ntmps64
  go_wp2_with fail
  refine (HS.out _).mono ?_
  rintro e w1 ⟨rfl, hb1⟩
  have hbw : Below w.heap.size w w1 := ((Below.refl _ w).alloc (Nat.le_refl _) _).trans (hb1.mono (by simp))
  have hz1 : w.heap.size < w1.heap.size := by have := hb1.size; simp at this; omega
  have HA1 : Hid (Arr w1 w.heap.size 6 (sigV g)) := Arr.below HA.out (by simp) hb1
  clear hb1 HA
  have hg0 := HA1.out.1 0 (by omega)
  unfold sigV at hg0
  have hz0 := HG.out 0
  obtain ⟨b0, b1⟩ := HB.out 0
  have hbo : w1.heap.size + 1 = (w1.alloc (.cells #[.int .i64 (partC t 0), .int .i64 (partC t 1), .int .i64 (partC t 2), .int .i64 (partC t 3), .int .i64 (partC t 4), .int .i64 (partC t 5)] 152)).heap.size := by simp
  have HSt := Lib.hid ((arr_new w1 #[.int .i64 (partC t 0), .int .i64 (partC t 1), .int .i64 (partC t 2), .int .i64 (partC t 3), .int .i64 (partC t 4), .int .i64 (partC t 5)] 152 (partV t) (by
    intro j hj
    obtain rfl | rfl | rfl | rfl | rfl | rfl : j = 0 ∨ j = 1 ∨ j = 2 ∨ j = 3 ∨ j = 4 ∨ j = 5 := by simp at hj; omega
    all_goals rfl)).alloc (by simp) (.cells #[.string ⟨#[]⟩] 9))
  have HO := Lib.hid (strAt_new _ ⟨#[]⟩ 9 hbo)
  have HA2 := Lib.hid ((HA1.out.alloc hz1 (.cells #[.int .i64 (partC t 0), .int .i64 (partC t 1), .int .i64 (partC t 2), .int .i64 (partC t 3), .int .i64 (partC t 4), .int .i64 (partC t 5)] 152)).alloc (by simp; omega) (.cells #[.string ⟨#[]⟩] 9))
  clear hbo
  go_wp2_with fail
  refine (digits_app (partC t 0) 4 (w1.heap.size + 1) (g 0) ⟨#[]⟩ _ b0 (by omega) (by decide) (by decide) (by omega) (by decide) HO.out).mono ?_
  rintro e w2 ⟨rfl, hS2, hg2⟩
  have hbw2 : Below w.heap.size w w2 := Chg.below ((hbw.alloc hbw.size _).alloc (by simp; omega) _) hg2 (by omega) (by simp; omega)
  have HO2 := Lib.hid hS2
  have HA3 : Hid (Arr w2 w.heap.size 6 (sigV g)) := Arr.chg HA2.out (by decide) hg2 (by omega)
  have HSt2 : Hid (Arr w2 w1.heap.size 6 (partV t)) := Arr.chg HSt.out (by decide) hg2 (by omega)
  have hz2 : w1.heap.size + 1 < w2.heap.size := World.block_lt_of_cell? _ _ hS2.1
  clear hS2 hg2 HA2 HSt HO HA1 hg0 b0 b1 hz0
  have c1 := HSt2.out.1 1 (by decide)
  have c2 := HSt2.out.1 2 (by decide)
  have c3 := HSt2.out.1 3 (by decide)
  have c4 := HSt2.out.1 4 (by decide)
  have c5 := HSt2.out.1 5 (by decide)
  unfold partV at c1 c2 c3 c4 c5
  go_wp2
  have HI0 := Lib.hid (arr_new w2 #[.int .i64 (partC t 1), .int .i64 (partC t 2), .int .i64 (partC t 3), .int .i64 (partC t 4), .int .i64 (partC t 5)] 3 (partV1 t) (by
    intro j hj
    obtain rfl | rfl | rfl | rfl | rfl : j = 0 ∨ j = 1 ∨ j = 2 ∨ j = 3 ∨ j = 4 := by simp at hj; omega
    all_goals rfl))
  have hbN := (Below.refl _ w2).alloc (Nat.le_refl _) (.cells #[.int .i64 (partC t 1), .int .i64 (partC t 2), .int .i64 (partC t 3), .int .i64 (partC t 4), .int .i64 (partC t 5)] 3)
  go_loopw [37] (fun i wr => ∃ k : Nat, k ≤ 5 ∧ i = .int .i64 k ∧ Hid (StrAt wr (w1.heap.size + 1) (strB (txtP (partC t) (fun k => (g k).data.toList) k))) ∧ Hid (Arr wr w.heap.size 6 (sigV g)) ∧ Hid (Arr wr w2.heap.size 5 (partV1 t)) ∧ Below w.heap.size w wr) (fun i _ => 5 - (intOf i).toNat)
  case atStart =>
    refine ⟨0, by omega, rfl, ⟨(hbN.cell (p := ⟨_, 0, none⟩) (by omega)).trans ?_, (hbN.frozen (p := ⟨_, 0, none⟩) (by omega)).trans HO2.out.2⟩, Arr.alloc HA3.out (by omega) _, HI0.out, hbw2.alloc hbw2.size _⟩
    rw [HO2.out.1]
    congr 2
  case round =>
    clear c1 c2 c3 c4 c5 hbN HI0 HA3 HO2 HSt2
    obtain ⟨k, hk, rfl, HT, HA, HI, hb⟩ := hrel
    have hsz := hb.size
    by_cases h5 : k < 5
    · have h5' : (k : Int) < 5 := by omega
      have d1 := HI.out.1 k h5
      have d2 := HA.out.1 (k + 1) (by omega)
      have hz := HG.out (k + 1)
      obtain ⟨b0, b1⟩ := HB.out (k + 1)
      have hlen := HLn.out k
      have HTk := HT.out
      have hlB : w2.heap.size < wr.heap.size := HI.out.lt (by decide)
      unfold sigV at d2
      unfold partV1 at d1
      have hsT : (strB (txtP (partC t) (fun k => (g k).data.toList) k)).size ≤ 1000 := by rw [strB_size]; omega
      have hk1 : ((k : Int) + 1).toNat = k + 1 := by omega
      go_wp2_with fail
      refine (digits_app (partC t (k + 1)) 2 (w1.heap.size + 1) (g (k + 1)) _ _ b0 (by omega) (by decide) (by decide) (by omega) hsT HT.out).mono ?_
      rintro e w3 ⟨rfl, hS3, hg3⟩
      have hb3 : Below w.heap.size w w3 := Chg.below hb hg3 (by omega) hsz
      have HA4 : Hid (Arr w3 w.heap.size 6 (sigV g)) := Arr.chg HA.out (by decide) hg3 (by omega)
      have HI4 : Hid (Arr w3 w2.heap.size 5 (partV1 t)) := Arr.chg HI.out (by decide) hg3 (by omega)
      have HS4 : Hid (StrAt w3 (w1.heap.size + 1) (strB (txtP (partC t) (fun k => (g k).data.toList) (k + 1)))) := by
        have e : strB (txtP (partC t) (fun k => (g k).data.toList) (k + 1)) = strB (txtP (partC t) (fun k => (g k).data.toList) k) ++ (strB (digsL 2 (partC t (k + 1))) ++ g (k + 1)) := by
          refine (strB_of ?_).symm
          rw [str_app, str_app, strB_data, strB_data]
          rfl
        show StrAt _ _ _
        rw [e]; exact hS3
      clear d1 d2 hS3 hg3 HTk
      go_wp2
      go_roundw
      case rel => exact ⟨k + 1, by omega, by go_num, HS4, HA4, HI4, hb3⟩
      case measure => simp [intOf] <;> omega
    · obtain rfl : k = 5 := by omega
      have hx := HT.out.1
      go_wp2
      go_ret
      exact ⟨rfl, hb⟩
theorem text_bad (t : Int) (h : inC t = false) (g : Nat → ByteArray) (w : World) :
    Calls Tryz.prog 64 #[.int .i64 t, .agg #[.string (g 0), .string (g 1), .string (g 2), .string (g 3), .string (g 4), .string (g 5)]] w (Ret (.string ⟨#[]⟩) w) := by
  have HS := Lib.hid (stamp_bad t h)
  clear h
  go_enter Tryz.func64, Tryz.ntmps64
  go_wp2_with fail
  refine (HS.out _).mono ?_
  rintro e w1 ⟨rfl, hb1⟩
  have hbw : Below w.heap.size w w1 := ((Below.refl _ w).alloc (Nat.le_refl _) _).trans (hb1.mono (by simp))
  have hz := hbw.size
  go_wp2
  go_ret
  exact ⟨rfl, by (repeat' (first | (with_reducible exact Below.refl _ _) | (with_reducible assumption) | (with_reducible refine below_drewN ?_ _) | (with_reducible refine Below.alloc ?_ ?_ _) | (with_reducible refine Below.drew ?_) | (with_reducible refine Below.setCell ?_ ?_ _) | go_size))⟩
def basG (k : Nat) : List UInt8 := if k = 2 then [84] else if k = 5 then [90] else []
/-- An instant in short. -/
def basicT (t : Int) : List UInt8 := if inC t = true then txtP (partC t) basG 5 else []
theorem basG_eq : (fun k => (strB (basG k)).data.toList) = basG := by funext k; exact strB_data _
theorem basic_any (t : Int) (w : World) : Calls Tryz.prog 25 #[.int .i64 t] w (Ret (.string (strB (basicT t))) w) := by
  have hG : ∀ k, (strB (basG k)).size ≤ 10 := by
    intro k
    rw [strB_size]
    unfold basG
    repeat' split
    all_goals decide
  cases h : inC t with
  | true =>
    have HT := Lib.hid (text_ok t h (fun k => strB (basG k)) hG)
    rw [basG_eq] at HT
    have HR : Hid (basicT t = txtP (partC t) basG 5) := by show _ = _; unfold basicT; rw [if_pos h]
    have e : (.agg #[.string (strB (basG 0)), .string (strB (basG 1)), .string (strB (basG 2)), .string (strB (basG 3)), .string (strB (basG 4)), .string (strB (basG 5))] : Value) = .agg #[.string ⟨#[]⟩, .string ⟨#[]⟩, .string ⟨#[84]⟩, .string ⟨#[]⟩, .string ⟨#[]⟩, .string ⟨#[90]⟩] := rfl
    rw [e] at HT
    clear h hG e
    go_enter Tryz.func25, Tryz.ntmps25
    go_wp2_with fail
    refine (HT.out _).mono ?_
    rintro e w1 ⟨rfl, hb1⟩
    go_wp2
    go_ret
    exact ⟨by rw [HR.out]; rfl, hb1⟩
  | false =>
    have HT := Lib.hid (text_bad t h (fun k => strB (basG k)))
    have HR : Hid (basicT t = []) := by show _ = _; unfold basicT; rw [h]; rfl
    have e : (.agg #[.string (strB (basG 0)), .string (strB (basG 1)), .string (strB (basG 2)), .string (strB (basG 3)), .string (strB (basG 4)), .string (strB (basG 5))] : Value) = .agg #[.string ⟨#[]⟩, .string ⟨#[]⟩, .string ⟨#[84]⟩, .string ⟨#[]⟩, .string ⟨#[]⟩, .string ⟨#[90]⟩] := rfl
    rw [e] at HT
    clear h hG e
    go_enter Tryz.func25, Tryz.ntmps25
    go_wp2_with fail
    refine (HT.out _).mono ?_
    rintro e w1 ⟨rfl, hb1⟩
    go_wp2
    go_ret
    exact ⟨ret_str (by rw [HR.out]), hb1⟩
theorem basicT_len (t : Int) : (basicT t).length ≤ 100 := by
  unfold basicT
  split
  · have := txtP_len (partC t) basG (by intro k; unfold basG; repeat' split
                                        all_goals decide) 5
    omega
  · simp
/-- The units' names. -/
def unNm (k : Nat) : List UInt8 := if k = 0 then [83, 69, 67, 79, 78, 68, 76, 89] else if k = 1 then [77, 73, 78, 85, 84, 69, 76, 89] else if k = 2 then [72, 79, 85, 82, 76, 89] else if k = 3 then [68, 65, 73, 76, 89] else if k = 4 then [87, 69, 69, 75, 76, 89] else if k = 5 then [77, 79, 78, 84, 72, 76, 89] else [89, 69, 65, 82, 76, 89]
def unNames : Value := .agg #[.string (strB (unNm 0)), .string (strB (unNm 1)), .string (strB (unNm 2)), .string (strB (unNm 3)), .string (strB (unNm 4)), .string (strB (unNm 5)), .string (strB (unNm 6))]
theorem unNames_any (w : World) : Calls Tryz.prog 65 #[] w (Ret unNames w) := by
  go_enter Tryz.func65, Tryz.ntmps65
  go_wp2
  refine bodyPost_ret (v := unNames) ?_ rfl ⟨rfl, by (repeat' (first | (with_reducible exact Below.refl _ _) | (with_reducible assumption) | (with_reducible refine below_drewN ?_ _) | (with_reducible refine Below.alloc ?_ ?_ _) | (with_reducible refine Below.drew ?_) | (with_reducible refine Below.setCell ?_ ?_ _) | go_size))⟩
  rw [results_cell1 rfl]
  unfold unNames
  go_simp
  exact ⟨rfl, rfl, rfl, rfl, rfl, rfl, rfl⟩
theorem unNames_at (k : Nat) (hk : k < 7) (W : World) : (Instr.index 101 unNames (.int .i64 (k : Int))).run Tryz.prog W = .ok (.string (strB (unNm k))) W := by
  obtain rfl | rfl | rfl | rfl | rfl | rfl | rfl : k = 0 ∨ k = 1 ∨ k = 2 ∨ k = 3 ∨ k = 4 ∨ k = 5 ∨ k = 6 := by omega
  all_goals kernel_rfl
def unT (u : Int) : List UInt8 := if 0 ≤ u ∧ u < 7 then unNm u.toNat else []
theorem unT_ne {u : Int} : unT u = [] ↔ ¬ (0 ≤ u ∧ u < 7) := by
  unfold unT
  split
  · rename_i h
    constructor
    · intro e
      exfalso
      unfold unNm at e
      repeat' split at e
      all_goals cases e
    · intro h2; exact absurd h h2
  · rename_i h
    exact ⟨fun _ => h, fun _ => rfl⟩
theorem unT_len (u : Int) : (unT u).length ≤ 8 := by
  unfold unT
  split
  · unfold unNm
    repeat' split
    all_goals decide
  · simp
theorem uname_any (u : Int) (w : World) : Calls Tryz.prog 26 #[.int .i64 u] w (Ret (.string (strB (unT u))) w) := by
  by_cases h : 0 ≤ u ∧ u < 7
  · obtain ⟨k, rfl⟩ := Int.eq_ofNat_of_zero_le h.1
    have hk : k < 7 := by omega
    have HR : Hid (unT (k : Int) = unNm k) := by show _ = _; unfold unT; rw [if_pos h, Int.toNat_natCast]
    have hix := fun W => unNames_at k hk W
    have h0 : ¬ (k : Int) < 0 := by omega
    have h7 : ¬ 7 ≤ (k : Int) := by omega
    clear h
    go_enter Tryz.func26, Tryz.ntmps26
    go_wp2_with fail
    refine (unNames_any _).mono ?_
    rintro e w1 ⟨rfl, hb1⟩
    go_wp2
    go_ret
    exact ⟨ret_str (by rw [HR.out, strB_data]), hb1⟩
  · have HR : Hid (unT u = []) := unT_ne.2 h
    by_cases h0 : u < 0
    · clear h
      go_enter Tryz.func26, Tryz.ntmps26
      go_wp2
      go_ret
      exact ⟨ret_str (by rw [HR.out]), Below.refl _ _⟩
    · have h7 : 7 ≤ u := by omega
      clear h
      go_enter Tryz.func26, Tryz.ntmps26
      go_wp2
      go_ret
      exact ⟨ret_str (by rw [HR.out]), Below.refl _ _⟩
end Go.Proofs.YtnelecjjbmjhaaaGreatDoor
