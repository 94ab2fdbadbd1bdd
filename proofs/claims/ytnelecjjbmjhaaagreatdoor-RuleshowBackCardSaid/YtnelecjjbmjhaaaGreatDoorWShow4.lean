/- The walk of cronshow.Item. -/
import Derived.Test.YtnelecjjbmjhaaaGreatDoorWArr
import Derived.Test.YtnelecjjbmjhaaaGreatDoorOpen
import Derived.Test.YtnelecjjbmjhaaaGreatDoorShelf
import Derived.Deep.RegionWith
import Derived.Laws.IdiomStrings
import Derived.Lib.ItoaLen
import Derived.Test.YtnelecjjbmjhaaaGreatDoorRText
/- The walks of cronshow and of the document's texts of lines. -/
namespace Go.Proofs.YtnelecjjbmjhaaaGreatDoor
open Go.RowKit
set_option linter.unusedSimpArgs false
set_option linter.unusedVariables false

/-- A string out of bytes. -/
abbrev strV (l : List UInt8) : Value := .string ⟨l.toArray⟩

/-- One byte, made a string. -/
theorem conv_one (x : Int) (h0 : 0 ≤ x) (h1 : x < 256) (w : World) (t : TypeId) :
    (convert 113 9 (.slice (some ⟨w.heap.size, 0, none⟩) 1 1)).run Tryz.prog (w.alloc (.cells #[.int .u8 x] t)) = .ok (strV [UInt8.ofNat x.toNat]) (w.alloc (.cells #[.int .u8 x] t)) := by
  refine run_convert_bytes_back (w.alloc (.cells #[.int .u8 x] t)) 113 9 5 ⟨w.heap.size, 0, none⟩ 1 [UInt8.ofNat x.toNat] Tryz.underlying113 Tryz.underlying5 Tryz.underlying9 ?_
  intro j hj
  obtain rfl : j = 0 := by simp at hj; omega
  refine cell_new (by simp [Addr.add]) ?_
  have : (UInt8.ofNat x.toNat).toNat = x.toNat := by simp; omega
  simp [this]
  omega
theorem conv_at (x : Int) (h0 : 0 ≤ x) (h1 : x < 256) (W : World) (b : Nat) (h : W.cell? ⟨b, 0, none⟩ = some (.int .u8 x)) :
    (convert 113 9 (.slice (some ⟨b, 0, none⟩) 1 1)).run Tryz.prog W = .ok (strV [UInt8.ofNat x.toNat]) W := by
  refine run_convert_bytes_back W 113 9 5 ⟨b, 0, none⟩ 1 [UInt8.ofNat x.toNat] Tryz.underlying113 Tryz.underlying5 Tryz.underlying9 ?_
  intro j hj
  obtain rfl : j = 0 := by simp at hj; omega
  have e : (⟨b, 0, none⟩ : Addr).add 0 = ⟨b, 0, none⟩ := by simp [Addr.add]
  rw [e, h]
  have : (UInt8.ofNat x.toNat).toNat = x.toNat := by simp; omega
  simp [this]
  omega

set_option maxHeartbeats 1000000 in
theorem rnumber_small (n : Int) (h0 : 0 ≤ n) (h2 : n < 10) (w : World) : Calls Tryz.prog 51 #[.int .i64 n] w (Ret (strV (Lib.itoa n)) w) := by
  have h1 : ¬ (n < 0) := by omega
  have HE : Hid (Lib.itoa n = [UInt8.ofNat (48 + n).toNat]) := by
    obtain ⟨u, rfl⟩ := Int.eq_ofNat_of_zero_le h0
    show _ = _
    rw [Lib.itoa_nonneg, Lib.decDigits_one (by omega)]
    congr 1
  have hc := conv_one (48 + n) (by omega) (by omega) w 5
  generalize UInt8.ofNat (48 + n).toNat = ch at *
  go_enter Tryz.func51, Tryz.ntmps51
  go_wp2
  go_ret
  exact ⟨by rw [HE.out]; rfl, by (repeat' (first | (with_reducible exact Below.refl _ _) | (with_reducible assumption) | (with_reducible refine below_drewN ?_ _) | (with_reducible refine Below.alloc ?_ ?_ _) | (with_reducible refine Below.drew ?_) | (with_reducible refine Below.setCell ?_ ?_ _) | go_size))⟩

set_option maxHeartbeats 4000000 in
theorem rnumber_pos : ∀ (q : Nat) (n : Int), n.toNat < 10 ^ (q + 1) → 0 ≤ n → n ≤ 9223372036854775807 → ∀ w, Calls Tryz.prog 51 #[.int .i64 n] w (Ret (strV (Lib.itoa n)) w)
  | 0, n, hq, h0, hn, w => rnumber_small n h0 (by omega) w
  | q + 1, n, hq, h0, hn, w => by
    by_cases h10 : n < 10
    · exact rnumber_small n h0 h10 w
    · have h1 : ¬ (n < 0) := by omega
      have HC := Lib.hid (fun W => rnumber_pos q (n / 10) (by rw [Nat.pow_succ] at hq; omega) (by omega) (by omega) W)
      have HE : Hid (Lib.itoa n = Lib.itoa (n / 10) ++ [UInt8.ofNat (48 + n % 10).toNat]) := by
        obtain ⟨u, rfl⟩ := Int.eq_ofNat_of_zero_le h0
        show _ = _
        have e1 : (u : Int) / 10 = ((u / 10 : Nat) : Int) := by omega
        have e2 : (48 + (u : Int) % 10).toNat = 48 + u % 10 := by omega
        rw [e1, e2, Lib.itoa_nonneg, Lib.itoa_nonneg]
        rw [Lib.decDigits, dif_neg (by omega)]
      have hc := fun W b h => conv_at (48 + n % 10) (by omega) (by omega) W b h
      have hln := Lib.itoa_length_le (n / 10) (by omega) (by omega)
      obtain ⟨S, hS⟩ : ∃ S : ByteArray, S = ⟨(Lib.itoa (n / 10)).toArray⟩ := ⟨_, rfl⟩
      obtain ⟨T, hT⟩ : ∃ T : ByteArray, T = ⟨[UInt8.ofNat (48 + n % 10).toNat].toArray⟩ := ⟨_, rfl⟩
      have HR : Hid ((⟨(Lib.itoa n).toArray⟩ : ByteArray) = S ++ T) := by
        show _ = _
        rw [HE.out, hS, hT]
        ext1
        simp
      have hadd : ∀ W, (Op.stringOp .add S T).run Tryz.prog W = .ok (.string (S ++ T)) W := fun W => run_string_add_sum W S T (by
        rw [hS, hT]
        simp [ByteArray.size]
        omega)
      unfold strV at hc HC
      rw [← hS] at HC
      rw [← hT] at hc
      clear hS hT hln
      have hm0 : 0 ≤ n % 10 := by omega
      have hm1 : n % 10 < 10 := by omega
      have k1 : n.tdiv 10 = n / 10 := Int.tdiv_eq_ediv_of_nonneg h0
      have k2 : n.tmod 10 = n % 10 := Int.tmod_eq_emod_of_nonneg h0
      have k3 : IntKind.i64.wrap (n / 10) = n / 10 := by simp [IntKind.wrap, IntKind.bits, IntKind.signed]; omega
      have k4 : IntKind.i64.wrap (48 + n % 10) = 48 + n % 10 := by simp [IntKind.wrap, IntKind.bits, IntKind.signed]; omega
      have k5 : IntKind.u8.wrap (48 + n % 10) = 48 + n % 10 := by simp [IntKind.wrap, IntKind.bits, IntKind.signed]; omega
      clear hq
      go_enter Tryz.func51, Tryz.ntmps51
      go_wp2
      go_region_with (go_at_call 51; (with_reducible refine (HC.out _).mono ?_); rintro e w1 ⟨rfl, hb1⟩; obtain ⟨hq1, hq2⟩ := bcell hb1)
      all_goals (try go_wp2)
      all_goals go_ret
      all_goals refine ⟨?_, ?_⟩
      all_goals first
        | (show Ending.returned _ = Ending.returned (.string ⟨(Lib.itoa n).toArray⟩); rw [HR.out]; rfl)
        | (have hsz := hb1.size; (try simp at hsz); have hbx : Below w.heap.size w w1 := (by first | exact hb1 | exact ((Below.refl _ w).drew).trans hb1 | exact (((Below.refl _ w).alloc (Nat.le_refl _) _).drew).trans (hb1.mono (by simp)) | exact ((((Below.refl _ w).drew).alloc (Nat.le_refl _) _)).trans (hb1.mono (by simp))); (repeat' (first | (with_reducible exact Below.refl _ _) | (with_reducible assumption) | (with_reducible refine below_drewN ?_ _) | (with_reducible refine Below.alloc ?_ ?_ _) | (with_reducible refine Below.drew ?_) | (with_reducible refine Below.setCell ?_ ?_ _) | go_size)))

set_option maxHeartbeats 1000000 in
theorem rnumber_neg1 (n : Int) (h0 : n < 0) (h2 : -10 < n) (w : World) : Calls Tryz.prog 51 #[.int .i64 n] w (Ret (strV (Lib.itoa n)) w) := by
  have HE : Hid (Lib.itoa n = 45 :: [UInt8.ofNat (48 - n).toNat]) := by
    obtain ⟨u, hu⟩ : ∃ u : Nat, n = -(u : Int) := ⟨n.natAbs, by omega⟩
    subst hu
    show _ = _
    have e : (48 - -(u : Int)).toNat = 48 + u := by omega
    rw [Lib.itoa_neg u (by omega), Lib.decDigits_one (by omega), e]
  have hc := conv_one (48 - n) (by omega) (by omega) w 5
  generalize UInt8.ofNat (48 - n).toNat = ch at *
  go_enter Tryz.func51, Tryz.ntmps51
  go_wp2
  go_ret
  exact ⟨by show Ending.returned _ = Ending.returned (.string ⟨(Lib.itoa n).toArray⟩); rw [HE.out]; rfl, by (repeat' (first | (with_reducible exact Below.refl _ _) | (with_reducible assumption) | (with_reducible refine below_drewN ?_ _) | (with_reducible refine Below.alloc ?_ ?_ _) | (with_reducible refine Below.drew ?_) | (with_reducible refine Below.setCell ?_ ?_ _) | go_size))⟩

set_option maxHeartbeats 4000000 in
theorem rnumber_neg : ∀ (q : Nat) (n : Int), n.natAbs < 10 ^ (q + 1) → n < 0 → -9223372036854775808 ≤ n → ∀ w, Calls Tryz.prog 51 #[.int .i64 n] w (Ret (strV (Lib.itoa n)) w)
  | 0, n, hq, h0, hn, w => rnumber_neg1 n h0 (by omega) w
  | q + 1, n, hq, h0, hn, w => by
    by_cases h10 : -10 < n
    · exact rnumber_neg1 n h0 h10 w
    · have hD : n.tdiv 10 = -((-n) / 10) := by
        have := Int.neg_tdiv (-n) 10
        rw [Int.neg_neg] at this
        rw [this, Int.tdiv_eq_ediv_of_nonneg (by omega)]
      have hM : n.tmod 10 = -((-n) % 10) := by
        have := Int.neg_tmod (-n) 10
        rw [Int.neg_neg] at this
        rw [this, Int.tmod_eq_emod_of_nonneg (by omega)]
      obtain ⟨D, hDD⟩ : ∃ D, D = n.tdiv 10 := ⟨_, rfl⟩
      obtain ⟨M, hMM⟩ : ∃ M, M = n.tmod 10 := ⟨_, rfl⟩
      rw [← hDD] at hD
      rw [← hMM] at hM
      have HC := Lib.hid (fun W => rnumber_neg q D (by rw [Nat.pow_succ] at hq; omega) (by omega) (by omega) W)
      have HE : Hid (Lib.itoa n = Lib.itoa D ++ [UInt8.ofNat (48 - M).toNat]) := by
        obtain ⟨u, hu⟩ : ∃ u : Nat, n = -(u : Int) := ⟨n.natAbs, by omega⟩
        have e1 : D = -((u / 10 : Nat) : Int) := by omega
        have e2 : (48 - M).toNat = 48 + u % 10 := by omega
        show _ = _
        rw [e1, e2, hu, Lib.itoa_neg u (by omega), Lib.itoa_neg (u / 10) (by omega)]
        rw [Lib.decDigits, dif_neg (by omega)]
        rfl
      have hc := fun W b h => conv_at (48 - M) (by omega) (by omega) W b h
      have hln := Lib.itoa_length_le D (by omega) (by omega)
      obtain ⟨S, hS⟩ : ∃ S : ByteArray, S = ⟨(Lib.itoa D).toArray⟩ := ⟨_, rfl⟩
      obtain ⟨T, hT⟩ : ∃ T : ByteArray, T = ⟨[UInt8.ofNat (48 - M).toNat].toArray⟩ := ⟨_, rfl⟩
      have HR : Hid ((⟨(Lib.itoa n).toArray⟩ : ByteArray) = S ++ T) := by
        show _ = _
        rw [HE.out, hS, hT]
        ext1
        simp
      have hadd : ∀ W, (Op.stringOp .add S T).run Tryz.prog W = .ok (.string (S ++ T)) W := fun W => run_string_add_sum W S T (by
        rw [hS, hT]
        simp [ByteArray.size]
        omega)
      unfold strV at hc HC
      rw [← hS] at HC
      rw [← hT] at hc
      clear hS hT hln
      have k1 : n.tdiv 10 = D := hDD.symm
      have k2 : n.tmod 10 = M := hMM.symm
      have k3 : IntKind.i64.wrap D = D := by simp [IntKind.wrap, IntKind.bits, IntKind.signed]; omega
      have k4 : IntKind.i64.wrap (48 - M) = 48 - M := by simp [IntKind.wrap, IntKind.bits, IntKind.signed]; omega
      have k5 : IntKind.u8.wrap (48 - M) = 48 - M := by simp [IntKind.wrap, IntKind.bits, IntKind.signed]; omega
      have k6 : ¬ (-10 < n) := h10
      clear hq hD hM hDD hMM
      go_enter Tryz.func51, Tryz.ntmps51
      go_wp2
      go_region_with (go_at_call 51; (with_reducible refine (HC.out _).mono ?_); rintro e w1 ⟨rfl, hb1⟩; obtain ⟨hq1, hq2⟩ := bcell hb1)
      all_goals (try go_wp2)
      all_goals go_ret
      all_goals refine ⟨?_, ?_⟩
      all_goals first
        | (show Ending.returned _ = Ending.returned (.string ⟨(Lib.itoa n).toArray⟩); rw [HR.out]; rfl)
        | (have hsz := hb1.size; (try simp at hsz); have hbx : Below w.heap.size w w1 := (by first | exact hb1 | exact ((Below.refl _ w).drew).trans hb1 | exact (((Below.refl _ w).alloc (Nat.le_refl _) _).drew).trans (hb1.mono (by simp)) | exact ((((Below.refl _ w).drew).alloc (Nat.le_refl _) _)).trans (hb1.mono (by simp))); (repeat' (first | (with_reducible exact Below.refl _ _) | (with_reducible assumption) | (with_reducible refine below_drewN ?_ _) | (with_reducible refine Below.alloc ?_ ?_ _) | (with_reducible refine Below.drew ?_) | (with_reducible refine Below.setCell ?_ ?_ _) | go_size)))

theorem rnumber_any (n : Int) (h : In64 n) (w : World) : Calls Tryz.prog 51 #[.int .i64 n] w (Ret (strV (Lib.itoa n)) w) := by
  by_cases h0 : n < 0
  · exact rnumber_neg 19 n (by have := h.1; omega) h0 h.1 w
  · exact rnumber_pos 19 n (by have := h.2; omega) (by omega) h.2 w
end Go.Proofs.YtnelecjjbmjhaaaGreatDoor

/- The walks of cronshow.joined and cronshow.Item. -/
namespace Go.Proofs.YtnelecjjbmjhaaaGreatDoor
open Go.RowKit
set_option linter.unusedSimpArgs false
set_option linter.unusedVariables false

/-- The library's table lies in the world. -/
abbrev Pow (w : World) : Prop := Lib.TabIs Tryz.prog w "internal/strconv.uint64pow10" .u64 Lib.pow10Tab
theorem tab_below {P : Program} {nm : String} {k : IntKind} {zs : List Int} {w w' : World} (h : Lib.TabIs P w nm k zs) (hb : Below w.heap.size w w') : Lib.TabIs P w' nm k zs := by
  unfold Lib.TabIs World.var? at *
  cases hg : P.globalNamed nm with
  | none => rw [hg] at h; cases h
  | some g =>
    rw [hg] at h
    simp only [Option.bind_some] at h ⊢
    cases hw : w.heap[g]? with
    | none => rw [hw] at h; cases h
    | some o =>
      have hlt : g < w.heap.size := (Array.getElem?_eq_some_iff.1 hw).1
      rw [hb.block g hlt]
      exact h

theorem itoa_any (n : Int) (h : In64 n) (w : World) (hw : Pow w) : Calls Tryz.prog 30 #[.int .i64 n] w (Ret (strV (Lib.itoa n)) w) := by
  refine (Tryz.strconv_Itoa n h.1 h.2 w hw).mono ?_
  rintro e w' ⟨rfl, k, os, rfl⟩
  refine ⟨rfl, ⟨rfl, rfl, rfl, by simp [Go.Sort.grow, World.drewN], fun i hi => ?_⟩⟩
  have : i < (w.drewN k).heap.size := hi
  show ((w.drewN k).heap ++ os)[i]? = _
  rw [Array.getElem?_append_left this]
  rfl
end Go.Proofs.YtnelecjjbmjhaaaGreatDoor

/- The walks of the two texts of an item. -/
namespace Go.Proofs.YtnelecjjbmjhaaaGreatDoor
open Go.RowKit
set_option linter.unusedSimpArgs false
set_option linter.unusedVariables false

theorem itemT_len {i : It} (h : i.wf) : (itemT i).length ≤ 100 := by
  obtain ⟨_, h1, h2, h3⟩ := h
  have l1 := Lib.itoa_length_le i.f h1.1 h1.2
  have l2 := Lib.itoa_length_le i.t h2.1 h2.2
  have l3 := Lib.itoa_length_le i.s h3.1 h3.2
  unfold itemT stT
  split
  · split <;> simp <;> omega
  · split
    · omega
    · split
      · split <;> simp <;> omega
      · simp
theorem num_any (n : Int) (h : In64 n) (w : World) : Calls Tryz.prog 51 #[.int .i64 n] w (Ret (.string (strB (Lib.itoa n))) w) := rnumber_any n h w
theorem itoa_size {n : Int} (h : In64 n) : (strB (Lib.itoa n)).size ≤ 21 := by rw [strB_size]; exact itoa_le h

end Go.Proofs.YtnelecjjbmjhaaaGreatDoor

namespace Go.Proofs.YtnelecjjbmjhaaaGreatDoor
open Go.RowKit
set_option linter.unusedSimpArgs false
set_option linter.unusedVariables false

theorem itoaB_any (n : Int) (h : In64 n) (w : World) (hw : Pow w) : Calls Tryz.prog 30 #[.int .i64 n] w (Ret (.string (strB (Lib.itoa n))) w) := itoa_any n h w hw

end Go.Proofs.YtnelecjjbmjhaaaGreatDoor
