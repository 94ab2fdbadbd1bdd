/- The walks of package feriaref11: Class, Must, Some, Number, End, New, in words of the reader's states. -/
import Derived.Test.YtpfcgjneeboamaaDoorWRefR
namespace Go.Proofs.YtpfcgjneeboamaaDoor
open Go.RowKit
set_option linter.unusedSimpArgs false
set_option linter.unusedVariables false

theorem OfR.of_suf {s : ByteArray} {σ : PS} (h : σ.l <:+ s.data.toList) : OfR s σ := by
  obtain ⟨t, ht⟩ := h
  refine ⟨t.length, ?_, ?_⟩
  · have := congrArg List.length ht
    rw [List.length_append, len_data] at this
    omega
  · rw [← ht]; simp
theorem OfR.suf {s : ByteArray} {σ : PS} (h : OfR s σ) : σ.l <:+ s.data.toList := by
  obtain ⟨k, _, hl⟩ := h
  rw [hl]; exact List.drop_suffix _ _
theorem ofR_fail {s : ByteArray} {σ : PS} (h : OfR s σ) (p q : Int) : OfR s (failP p q σ) := by
  refine .of_suf ?_
  unfold failP
  split <;> exact h.suf
theorem ofR_is {s : ByteArray} {σ : PS} (h : OfR s σ) (cs : List UInt8) : OfR s (isP cs σ).1 := by
  refine .of_suf ?_
  unfold isP
  split
  · split
    · rename_i r hr; exact (pIs_suf hr).trans h.suf
    · exact h.suf
  · exact h.suf
theorem ofR_must {s : ByteArray} {σ : PS} (h : OfR s σ) (N : Nat) (cs : List UInt8) : OfR s (mustP N cs σ).1 := by
  unfold mustP
  split
  · exact ofR_is h cs
  · exact ofR_fail h _ _
theorem ofR_some {s : ByteArray} {σ : PS} (h : OfR s σ) (p : UInt8 → Bool) : OfR s (someP p σ).1 := by
  refine .of_suf ?_
  unfold someP
  split
  · exact (drop_suf _ _).trans h.suf
  · exact h.suf
theorem ofR_num {s : ByteArray} {σ : PS} (h : OfR s σ) (N most : Nat) : OfR s (numP N most σ).1 := by
  refine .of_suf ?_
  unfold numP
  split
  · split
    · exact (drop_suf _ _).trans h.suf
    · exact h.suf
  · exact h.suf
theorem ofR_new (s : ByteArray) : OfR s (newP s) := .of_suf (List.suffix_refl _)
theorem ofR_end {s : ByteArray} {σ : PS} (h : OfR s σ) (N : Nat) : OfR s (endP N σ) := by
  unfold endP
  split
  · exact h
  · exact ofR_fail h _ _

def clsP (q : Int) : UInt8 → Bool := if q = 0 then blankP else if q = 1 then digitP else letterP
theorem rclass_any (c : UInt8) (q : Int) (w : World) : Calls Tryd.prog 34 #[.int .u8 (c.toNat : Int), .int .i64 q] w (Ret (.bool (if q = 0 then blankP c else if q = 1 then digitP c else letterP c)) w) := by
  have h0 : (0 : Int) ≤ (c.toNat : Int) := by omega
  have h1 : (c.toNat : Int) ≤ 255 := by have := c.toNat_lt; omega
  have hB : Hid (blankP c = decide ((c.toNat : Int) = 32 ∨ (c.toNat : Int) = 9)) := by
    show _ = _
    have e1 : c = 32 ↔ c.toNat = 32 := (u8_lit c 32 (by decide)).symm
    have e2 : c = 9 ↔ c.toNat = 9 := (u8_lit c 9 (by decide)).symm
    unfold blankP
    rw [Bool.eq_iff_iff, decide_eq_true_eq, decide_eq_true_eq, e1, e2]
    omega
  have hD : Hid (digitP c = decide (48 ≤ (c.toNat : Int) ∧ (c.toNat : Int) ≤ 57)) := by
    show _ = _
    unfold digitP
    rw [Bool.eq_iff_iff, decide_eq_true_eq, decide_eq_true_eq]
    omega
  have hL : Hid (letterP c = decide ((97 ≤ (c.toNat : Int) ∧ (c.toNat : Int) ≤ 122) ∨ (65 ≤ (c.toNat : Int) ∧ (c.toNat : Int) ≤ 90))) := by
    show _ = _
    unfold letterP
    rw [Bool.eq_iff_iff, decide_eq_true_eq, decide_eq_true_eq]
    omega
  generalize (c.toNat : Int) = z at *
  by_cases q0 : q = 0
  · subst q0
    go_enter Tryd.func34, Tryd.ntmps34
    go_wp2
    all_goals go_ret
    all_goals (refine ⟨ret_bool ?_, by (repeat' (first | (with_reducible exact Below.refl _ _) | (with_reducible assumption) | (with_reducible refine below_drewN ?_ _) | (with_reducible refine Below.alloc ?_ ?_ _) | (with_reducible refine Below.drew ?_) | (with_reducible refine Below.setCell ?_ ?_ _) | go_size))⟩; rw [hB.out, Bool.eq_iff_iff]; simp at *; try omega)
  · by_cases q1 : q = 1
    · subst q1
      go_enter Tryd.func34, Tryd.ntmps34
      go_wp2
      all_goals go_ret
      all_goals (refine ⟨ret_bool ?_, by (repeat' (first | (with_reducible exact Below.refl _ _) | (with_reducible assumption) | (with_reducible refine below_drewN ?_ _) | (with_reducible refine Below.alloc ?_ ?_ _) | (with_reducible refine Below.drew ?_) | (with_reducible refine Below.setCell ?_ ?_ _) | go_size))⟩; rw [hD.out, Bool.eq_iff_iff]; simp at *; try omega)
    · have q0' : (q == 0) = false := by simpa using q0
      have q1' : (q == 1) = false := by simpa using q1
      go_enter Tryd.func34, Tryd.ntmps34
      go_wp2
      all_goals go_ret
      all_goals (refine ⟨ret_bool ?_, by (repeat' (first | (with_reducible exact Below.refl _ _) | (with_reducible assumption) | (with_reducible refine below_drewN ?_ _) | (with_reducible refine Below.alloc ?_ ?_ _) | (with_reducible refine Below.drew ?_) | (with_reducible refine Below.setCell ?_ ?_ _) | go_size))⟩; rw [hL.out, Bool.eq_iff_iff]; simp at *; try omega)
theorem rclass_at (c : UInt8) (q : Int) (w : World) : Calls Tryd.prog 34 #[.int .u8 (c.toNat : Int), .int .i64 q] w (Ret (.bool (clsP q c)) w) := by
  have := rclass_any c q w
  unfold clsP
  split
  · rename_i h; simpa [h] using this
  · split
    · rename_i h1 h; simpa [h] using this
    · rename_i h0 h1; simpa [h0, h1] using this
def rvG (s : ByteArray) (k a e : Int) (j : Nat) : Value := if j = 0 then .string s else .int .i64 (if j = 1 then k else if j = 2 then a else e)
/-- The document's reader in a block of its own. -/
abbrev RvAt (w : World) (B : Nat) (s : ByteArray) (k a e : Int) : Prop := Arr w B 4 (rvG s k a e)
theorem RvAt.cells {w : World} {B : Nat} {s : ByteArray} {k a e : Int} (h : RvAt w B s k a e) : w.cell? ⟨B, 0, none⟩ = some (.string s) ∧ w.cell? ⟨B, 1, none⟩ = some (.int .i64 k) ∧ w.cell? ⟨B, 2, none⟩ = some (.int .i64 a) ∧ w.cell? ⟨B, 3, none⟩ = some (.int .i64 e) ∧ ∀ j, w.frozen? ⟨B, j, none⟩ = false :=
  ⟨h.1 0 (by decide), h.1 1 (by decide), h.1 2 (by decide), h.1 3 (by decide), h.2⟩
theorem rvAt_new (w : World) (s : ByteArray) (k a e : Int) (ty : TypeId) : RvAt (w.alloc (.cells #[.string s, .int .i64 k, .int .i64 a, .int .i64 e] ty)) w.heap.size s k a e :=
  arr_new w #[.string s, .int .i64 k, .int .i64 a, .int .i64 e] ty (rvG s k a e) (by
    intro j hj
    obtain rfl | rfl | rfl | rfl : j = 0 ∨ j = 1 ∨ j = 2 ∨ j = 3 := by simp at hj; omega
    all_goals rfl)
theorem rvAt_set1 {w : World} {B : Nat} {s : ByteArray} {k a e : Int} (h : RvAt w B s k a e) (v : Int) : RvAt (w.setCell ⟨B, 1, none⟩ (.int .i64 v)) B s v a e :=
  Arr.set h 1 (by decide) _ rfl (fun j hj hn => by
    obtain rfl | rfl | rfl | rfl : j = 0 ∨ j = 1 ∨ j = 2 ∨ j = 3 := by omega
    all_goals first | rfl | exact absurd rfl hn)
theorem rv_new2 (w : World) (s : ByteArray) (k a e : Int) (ty ty' : TypeId) : RvAt ((w.alloc (.cells #[.string s, .int .i64 k, .int .i64 a, .int .i64 e] ty)).alloc (.cells #[.string ⟨#[]⟩, .int .i64 0, .int .i64 0, .int .i64 0] ty')) w.heap.size s k a e ∧
    RvAt ((w.alloc (.cells #[.string s, .int .i64 k, .int .i64 a, .int .i64 e] ty)).alloc (.cells #[.string ⟨#[]⟩, .int .i64 0, .int .i64 0, .int .i64 0] ty')) (w.heap.size + 1) ⟨#[]⟩ 0 0 0 := by
  refine ⟨Arr.alloc (rvAt_new w s k a e ty) (Arr.lt (rvAt_new w s k a e ty) (by decide)) _, ?_⟩
  have := rvAt_new (w.alloc (.cells #[.string s, .int .i64 k, .int .i64 a, .int .i64 e] ty)) ⟨#[]⟩ 0 0 0 ty'
  simpa using this
theorem rdone_yes (s : ByteArray) (k : Int) (a : Int) (hk : (s.size : Int) ≤ k) (w : World) : Calls Tryd.prog 20 #[rV s k a 0] w (Ret (.bool true) w) := by
  unfold rV
  go_enter Tryd.func20, Tryd.ntmps20
  go_wp2
  go_ret
  exact ⟨rfl, by (repeat' (first | (with_reducible exact Below.refl _ _) | (with_reducible assumption) | (with_reducible refine below_drewN ?_ _) | (with_reducible refine Below.alloc ?_ ?_ _) | (with_reducible refine Below.drew ?_) | (with_reducible refine Below.setCell ?_ ?_ _) | go_size))⟩
theorem rdone_no (s : ByteArray) (k : Int) (a : Int) (hk : ¬ (s.size : Int) ≤ k) (w : World) : Calls Tryd.prog 20 #[rV s k a 0] w (Ret (.bool false) w) := by
  unfold rV
  go_enter Tryd.func20, Tryd.ntmps20
  go_wp2
  go_ret
  exact ⟨rfl, by (repeat' (first | (with_reducible exact Below.refl _ _) | (with_reducible assumption) | (with_reducible refine below_drewN ?_ _) | (with_reducible refine Below.alloc ?_ ?_ _) | (with_reducible refine Below.drew ?_) | (with_reducible refine Below.setCell ?_ ?_ _) | go_size))⟩
theorem rdone_dead (s : ByteArray) (k a e : Int) (he : e ≠ 0) (w : World) : Calls Tryd.prog 20 #[rV s k a e] w (Ret (.bool true) w) := by
  have he' : (e != 0) = true := by simpa using he
  clear he
  unfold rV
  go_enter Tryd.func20, Tryd.ntmps20
  go_wp2
  go_ret
  exact ⟨rfl, by (repeat' (first | (with_reducible exact Below.refl _ _) | (with_reducible assumption) | (with_reducible refine below_drewN ?_ _) | (with_reducible refine Below.alloc ?_ ?_ _) | (with_reducible refine Below.drew ?_) | (with_reducible refine Below.setCell ?_ ?_ _) | go_size))⟩

set_option maxHeartbeats 1000000 in
theorem rsome_live (s : ByteArray) (k : Nat) (a q : Int) (hs : s.size ≤ 9223372036854775807) (hk : k ≤ s.size) (w : World) :
    Calls Tryd.prog 19 #[rV s k a 0, .int .i64 q] w (Ret (.tuple #[rV s ((k + runLen (clsP q) s k : Nat) : Int) a 0, .string (s.extract k (k + runLen (clsP q) s k))]) w) := by
  have HP := Lib.hid (fun W (c : UInt8) => rclass_at c q W)
  have HY := Lib.hid (fun (j : Nat) (h : (s.size : Int) ≤ (j : Int)) W => rdone_yes s j a h W)
  have HN := Lib.hid (fun (j : Nat) (h : ¬ (s.size : Int) ≤ (j : Int)) W => rdone_no s j a h W)
  generalize clsP q = p at *
  generalize hr : k + runLen p s k = r
  have HR := Lib.hid hr
  clear hr
  unfold rV at *
  go_enter Tryd.func19, Tryd.ntmps19
  go_wp2
  have H0 := Lib.hid (rv_new2 w s k a 0 50 50)
  go_loopg [] (s.size - k) (fun gg wr => ∃ j : Nat, k ≤ j ∧ j ≤ s.size ∧ gg = s.size - j ∧ Hid (∀ i x, k ≤ i → i < j → s.data.toList[i]? = some x → p x = true) ∧ Hid (RvAt wr w.heap.size s j a 0) ∧ Hid (RvAt wr (w.heap.size + 1) ⟨#[]⟩ 0 0 0) ∧ Below w.heap.size w wr)
  case atStart => exact ⟨k, Nat.le_refl _, by omega, rfl, fun i x h1 h2 => by omega, H0.out.1, H0.out.2, by (repeat' (first | (with_reducible exact Below.refl _ _) | (with_reducible assumption) | (with_reducible refine below_drewN ?_ _) | (with_reducible refine Below.alloc ?_ ?_ _) | (with_reducible refine Below.drew ?_) | (with_reducible refine Below.setCell ?_ ?_ _) | go_size))⟩
  case round =>
    obtain ⟨j, hkj, hj, hgj, HI, HJ, HC, hb⟩ := hrel
    obtain ⟨d0, d1, d2, d3, df⟩ := RvAt.cells HJ.out
    have hz1 := Arr.lt HJ.out (by decide)
    have hz2 := Arr.lt HC.out (by decide)
    have hsz := hb.size
    by_cases hlj : j < s.size
    · have hlj' : (j : Int) < (s.size : Int) := by omega
      have hln : ¬ (s.size : Int) ≤ (j : Int) := by omega
      go_wp2_with fail
      refine (HN.out j hln _).mono ?_
      rintro x w1 ⟨rfl, hb1⟩
      have HJ1 := Lib.hid (Arr.below HJ.out hz1 hb1)
      have HC1 := Lib.hid (Arr.below HC.out hz2 hb1)
      have hbA := bthen hb hb1 hsz
      have hzA := Nat.lt_of_lt_of_le hz1 hb1.size
      have hzB := Nat.lt_of_lt_of_le hz2 hb1.size
      clear d0 d1 d2 d3 df
      obtain ⟨d0, d1, d2, d3, df⟩ := RvAt.cells HJ1.out
      cases hq : p s[j] with
      | true =>
        have Hq : Hid (p s[j] = true) := hq
        have HQ := Lib.hid (fun W => by have := HP.out W s[j]; rw [hq] at this; exact this)
        clear hq
        go_wp2_with fail
        refine (HQ.out _).mono ?_
        rintro x w2 ⟨rfl, hb2⟩
        have HJ2 := Lib.hid (Arr.below HJ1.out hzA hb2)
        have HC2 := Lib.hid (Arr.below HC1.out hzB hb2)
        have hbB := bthen hbA hb2 hbA.size
        have hzA2 := Nat.lt_of_lt_of_le hzA hb2.size
        clear d0 d1 d2 d3 df
        obtain ⟨d0, d1, d2, d3, df⟩ := RvAt.cells HJ2.out
        go_wp2
        go_roundg (s.size - (j + 1))
        case measure => omega
        case rel =>
          refine ⟨j + 1, by omega, by omega, rfl, ?_, rvAt_set1 HJ2.out _, Arr.other HC2.out (by omega), hbB.setCell (by simp) _⟩
          intro i x h1 h2 hx
          rcases Nat.lt_or_ge i j with h3 | h3
          · exact HI.out i x h1 h3 hx
          · obtain rfl : i = j := by omega
            rw [byte_at s i hlj] at hx; cases hx
            exact Hq.out
      | false =>
        have Hr : Hid (r = j) := by
          show r = j
          rw [← HR.out, runLen_stop hkj hj HI.out (fun x hx => by rw [byte_at s j hlj] at hx; cases hx; exact hq)]
          omega
        have HQ := Lib.hid (fun W => by have := HP.out W s[j]; rw [hq] at this; exact this)
        clear hq
        go_wp2_with fail
        refine (HQ.out _).mono ?_
        rintro x w2 ⟨rfl, hb2⟩
        have HJ2 := Lib.hid (Arr.below HJ1.out hzA hb2)
        have HC2 := Lib.hid (Arr.below HC1.out hzB hb2)
        have hbB := bthen hbA hb2 hbA.size
        have hzA2 := Nat.lt_of_lt_of_le hzA hb2.size
        have hzB2 := Nat.lt_of_lt_of_le hzB hb2.size
        clear d0 d1 d2 d3 df
        obtain ⟨d0, d1, d2, d3, df⟩ := RvAt.cells HJ2.out
        obtain ⟨e0, e1, e2, e3, ef⟩ := RvAt.cells HC2.out
        have Hr2 : r = j := Hr.out
        subst Hr2
        go_wp2
        go_region_with (fail)
        all_goals (
          (try go_wp2)
          (try simp only [Exit.inBlock, Exit.then])
          refine bodyPost_ret (v := .tuple #[.agg #[.string s, .int .i64 r, .int .i64 a, .int .i64 0], .string (s.extract k r)]) ?_ rfl ⟨rfl, by (repeat' (first | (with_reducible exact Below.refl _ _) | (with_reducible assumption) | (with_reducible refine below_drewN ?_ _) | (with_reducible refine Below.alloc ?_ ?_ _) | (with_reducible refine Below.drew ?_) | (with_reducible refine Below.setCell ?_ ?_ _) | go_size))⟩
          rw [results_cell_r2 rfl]
          go_simp)
    · obtain rfl : j = s.size := by omega
      have Hr : Hid (r = s.size) := by
        show r = s.size
        rw [← HR.out, runLen_stop hkj (Nat.le_refl _) HI.out (fun x hx => by
          have := (List.getElem?_eq_some_iff.1 hx).1
          rw [Array.length_toList] at this; have e : s.data.size = s.size := rfl; omega)]
        omega
      have hln : (s.size : Int) ≤ (s.size : Int) := Int.le_refl _
      go_wp2_with fail
      refine (HY.out _ hln _).mono ?_
      rintro x w1 ⟨rfl, hb1⟩
      have HJ1 := Lib.hid (Arr.below HJ.out hz1 hb1)
      have HC1 := Lib.hid (Arr.below HC.out hz2 hb1)
      have hbA := bthen hb hb1 hsz
      have hzA := Nat.lt_of_lt_of_le hz1 hb1.size
      have hzB := Nat.lt_of_lt_of_le hz2 hb1.size
      clear d0 d1 d2 d3 df
      obtain ⟨d0, d1, d2, d3, df⟩ := RvAt.cells HJ1.out
      obtain ⟨e0, e1, e2, e3, ef⟩ := RvAt.cells HC1.out
      go_wp2
      go_region_with (fail)
      all_goals (
        (try go_wp2)
        (try simp only [Exit.inBlock, Exit.then])
        refine bodyPost_ret (v := .tuple #[.agg #[.string s, .int .i64 (s.size : Int), .int .i64 a, .int .i64 0], .string (s.extract k s.size)]) ?_ rfl ⟨by rw [Hr.out], by (repeat' (first | (with_reducible exact Below.refl _ _) | (with_reducible assumption) | (with_reducible refine below_drewN ?_ _) | (with_reducible refine Below.alloc ?_ ?_ _) | (with_reducible refine Below.drew ?_) | (with_reducible refine Below.setCell ?_ ?_ _) | go_size))⟩
        rw [results_cell_r2 rfl]
        go_simp)
set_option maxHeartbeats 1000000 in
theorem rsome_dead (s : ByteArray) (k a e q : Int) (he : e ≠ 0) (w : World) :
    Calls Tryd.prog 19 #[rV s k a e, .int .i64 q] w (Ret (.tuple #[rV s k a e, .string ⟨#[]⟩]) w) := by
  have HY := Lib.hid (fun W => rdone_dead s k a e he W)
  have he' : (e != 0) = true := by simpa using he
  clear he
  unfold rV at *
  go_enter Tryd.func19, Tryd.ntmps19
  go_wp2
  have H0 := Lib.hid (rv_new2 w s k a e 50 50)
  go_loopg [] (0 : Nat) (fun gg wr => Hid (RvAt wr w.heap.size s k a e) ∧ Hid (RvAt wr (w.heap.size + 1) ⟨#[]⟩ 0 0 0) ∧ Below w.heap.size w wr)
  case atStart => exact ⟨H0.out.1, H0.out.2, by (repeat' (first | (with_reducible exact Below.refl _ _) | (with_reducible assumption) | (with_reducible refine below_drewN ?_ _) | (with_reducible refine Below.alloc ?_ ?_ _) | (with_reducible refine Below.drew ?_) | (with_reducible refine Below.setCell ?_ ?_ _) | go_size))⟩
  case round =>
    obtain ⟨HJ, HC, hb⟩ := hrel
    obtain ⟨d0, d1, d2, d3, df⟩ := RvAt.cells HJ.out
    have hz1 := Arr.lt HJ.out (by decide)
    have hz2 := Arr.lt HC.out (by decide)
    have hsz := hb.size
    go_wp2_with fail
    refine (HY.out _).mono ?_
    rintro x w1 ⟨rfl, hb1⟩
    have HJ1 := Lib.hid (Arr.below HJ.out hz1 hb1)
    have HC1 := Lib.hid (Arr.below HC.out hz2 hb1)
    have hbA := bthen hb hb1 hsz
    have hzA := Nat.lt_of_lt_of_le hz1 hb1.size
    have hzB := Nat.lt_of_lt_of_le hz2 hb1.size
    clear d0 d1 d2 d3 df
    obtain ⟨d0, d1, d2, d3, df⟩ := RvAt.cells HJ1.out
    obtain ⟨e0, e1, e2, e3, ef⟩ := RvAt.cells HC1.out
    go_wp2
    all_goals (
      (try simp only [Exit.inBlock, Exit.then])
      refine bodyPost_ret (v := .tuple #[.agg #[.string s, .int .i64 k, .int .i64 a, .int .i64 e], .string ⟨#[]⟩]) ?_ rfl ⟨rfl, by (repeat' (first | (with_reducible exact Below.refl _ _) | (with_reducible assumption) | (with_reducible refine below_drewN ?_ _) | (with_reducible refine Below.alloc ?_ ?_ _) | (with_reducible refine Below.drew ?_) | (with_reducible refine Below.setCell ?_ ?_ _) | go_size))⟩
      rw [results_cell_r2 rfl]
      go_simp)

theorem some_k {s : ByteArray} {p : UInt8 → Bool} {k : Nat} (hk : k ≤ s.size) : k + runLen p s k = someK p s k 0 := by
  unfold someK
  rw [doneB_ok]
  split
  · rename_i h
    simp at h; subst h
    unfold runLen
    rw [drop_end]; rfl
  · rfl
section
variable (s : ByteArray) (hs : s.size ≤ 1000000) (σ : PS) (hσ : OfR s σ) (w : World)
include hs hσ
theorem some_rf (q : Int) : Calls Tryd.prog 19 #[rvP s σ, .int .i64 q] w (Ret (tupR s (someP (clsP q) σ).1 (.string (strB (someP (clsP q) σ).2))) w) := by
  obtain ⟨k, hk, hl, ha⟩ := hσ.at_
  by_cases he : σ.e = 0
  · obtain ⟨h1, h2, h3, h4, h5⟩ := someP_k (p := clsP q) hk hl
    rw [he] at h1 h2 h3 h5
    have := rsome_live s k σ.a q (by omega) hk w
    rw [some_k hk] at this
    unfold tupR
    unfold rvP
    rw [ha, he, h4, h5, atP_eq h1 h2, ← strB_of h3.symm]
    exact this
  · unfold someP tupR rvP
    rw [if_neg he, ha]
    exact rsome_dead s k σ.a σ.e q he w
omit hs in
set_option maxHeartbeats 1000000 in
theorem end_rf : Calls Tryd.prog 24 #[rvP s σ] w (Ret (rvP s (endP s.size σ)) w) := by
  have HD := Lib.hid (fun W => done_rf s σ hσ W)
  have HF := Lib.hid (fun p q W => fail_rf s σ p q W)
  obtain ⟨k, hk, hl, ha⟩ := hσ.at_
  unfold endP
  cases hd : doneP σ with
  | true =>
    rw [if_pos rfl]
    rw [hd] at HD
    unfold rvP rV at *
    generalize atP s.size σ = kx at *
    clear hl ha hσ hd HF
    go_enter Tryd.func24, Tryd.ntmps24
    go_wp2_with fail
    refine (HD.out _).mono ?_
    rintro e w1 ⟨rfl, hb1⟩
    obtain ⟨hc, hf⟩ := bcell hb1
    have hz1 : w.heap.size + 1 < w1.heap.size := by have := hb1.size; simp at this; omega
    have hbw : Below w.heap.size w w1 := (((Below.refl _ w).alloc (Nat.le_refl _) _).alloc (by simp) _).trans (hb1.mono (by simp; omega))
    go_wp2
    refine bodyPost_ret (v := .agg #[.string s, .int .i64 kx, .int .i64 σ.a, .int .i64 σ.e]) ?_ rfl ⟨rfl, ?_⟩
    · rw [results_cell1 rfl]
      go_simp
    · clear HD hb1
      (repeat' (first | (with_reducible exact Below.refl _ _) | (with_reducible assumption) | (with_reducible refine below_drewN ?_ _) | (with_reducible refine Below.alloc ?_ ?_ _) | (with_reducible refine Below.drew ?_) | (with_reducible refine Below.setCell ?_ ?_ _) | go_size))
  | false =>
    rw [if_neg (by simp), ha]
    have HF2 := Lib.hid (fun W => HF.out (k : Int) 3 W)
    rw [hd] at HD
    have hX : atP s.size (failP (k : Int) 3 σ) = (k : Int) := by rw [← ha]; unfold atP failP; split <;> rfl
    generalize failP (k : Int) 3 σ = X at *
    clear HF
    unfold rvP rV at *
    rw [ha] at HD HF2 ⊢
    rw [hX] at HF2 ⊢
    clear hl ha hσ hd hX
    go_enter Tryd.func24, Tryd.ntmps24
    go_wp2_with fail
    refine (HD.out _).mono ?_
    rintro e w1 ⟨rfl, hb1⟩
    obtain ⟨hc, hf⟩ := bcell hb1
    have hz1 : w.heap.size + 1 < w1.heap.size := by have := hb1.size; simp at this; omega
    have hbw : Below w.heap.size w w1 := (((Below.refl _ w).alloc (Nat.le_refl _) _).alloc (by simp) _).trans (hb1.mono (by simp; omega))
    go_wp2_with fail
    refine (HF2.out _).mono ?_
    rintro e w2 ⟨rfl, hb2⟩
    have hbx := bthen hbw hb2 hbw.size
    obtain ⟨hc2, hf2⟩ := bcell hb2
    have hz2 : w.heap.size + 1 < w2.heap.size := by have := hb2.size; omega
    clear HD HF2 hb1 hb2
    go_wp2
    refine bodyPost_ret (v := .agg #[.string s, .int .i64 k, .int .i64 X.a, .int .i64 X.e]) ?_ rfl ⟨rfl, ?_⟩
    · rw [results_cell1 rfl]
      go_simp
    · (repeat' (first | (with_reducible exact Below.refl _ _) | (with_reducible assumption) | (with_reducible refine below_drewN ?_ _) | (with_reducible refine Below.alloc ?_ ?_ _) | (with_reducible refine Below.drew ?_) | (with_reducible refine Below.setCell ?_ ?_ _) | go_size))
omit hσ in
set_option maxHeartbeats 1000000 in
theorem new_rf : Calls Tryd.prog 18 #[.string s] w (Ret (rvP s (newP s)) w) := by
  have ha : atP s.size (newP s) = 0 := by unfold atP newP; dsimp only; rw [len_data]; omega
  unfold rvP rV
  rw [ha]
  unfold newP
  dsimp only
  unfold newBad newE
  by_cases hl : 8192 < s.size
  · have hl' : (8192 : Int) < (s.size : Int) := by omega
    rw [if_pos hl, if_pos hl]
    clear ha hl
    go_enter Tryd.func18, Tryd.ntmps18
    go_wp2
    refine bodyPost_ret (v := .agg #[.string s, .int .i64 (0), .int .i64 (8192), .int .i64 (5)]) ?_ rfl ⟨rfl, by (repeat' (first | (with_reducible exact Below.refl _ _) | (with_reducible assumption) | (with_reducible refine below_drewN ?_ _) | (with_reducible refine Below.alloc ?_ ?_ _) | (with_reducible refine Below.drew ?_) | (with_reducible refine Below.setCell ?_ ?_ _) | go_size))⟩
    rw [results_cell1 rfl]
    go_simp
  · have hl' : ¬ (8192 : Int) < (s.size : Int) := by omega
    rw [if_neg hl, if_neg hl]
    clear ha hl
    go_enter Tryd.func18, Tryd.ntmps18
    go_wp2
    refine bodyPost_ret (v := .agg #[.string s, .int .i64 (0), .int .i64 (0), .int .i64 (0)]) ?_ rfl ⟨rfl, by (repeat' (first | (with_reducible exact Below.refl _ _) | (with_reducible assumption) | (with_reducible refine below_drewN ?_ _) | (with_reducible refine Below.alloc ?_ ?_ _) | (with_reducible refine Below.drew ?_) | (with_reducible refine Below.setCell ?_ ?_ _) | go_size))⟩
    rw [results_cell1 rfl]
    go_simp
end
end Go.Proofs.YtpfcgjneeboamaaDoor
