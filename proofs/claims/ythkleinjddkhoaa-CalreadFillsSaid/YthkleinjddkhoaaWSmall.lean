/- The walks of the functions that make a text small, in a slice of bytes. -/
import Derived.Test.YthkleinjddkhoaaWPs
import Derived.Laws.IdiomStrings
namespace Go.Proofs.Ythkleinjddkhoaa
open Go.RowKit
set_option linter.unusedSimpArgs false
set_option linter.unusedVariables false

/-- The bytes of a text, the first k of them made small. -/
def SmallAt (w : World) (B : Nat) (s : ByteArray) (k : Nat) : Prop :=
  ∀ j x, s.data.toList[j]? = some x → w.cell? ⟨B, j, none⟩ = some (.int .u8 ((if j < k then lowerB x else x).toNat : Int)) ∧ w.frozen? ⟨B, j, none⟩ = false
theorem smallAt_new (s : ByteArray) (w : World) (C : Array Value) (t : TypeId) (hC : ∀ (i : Nat) (x : UInt8), s.data.toList[i]? = some x → C[i]? = some (Value.int .u8 (x.toNat : Int))) :
    SmallAt (w.alloc (.cells C t (C.size, C.size + 1))) w.heap.size s 0 := by
  intro j x hx
  have h1 := heap_alloc_new w (.cells C t (C.size, C.size + 1))
  have h2 := hC j x hx
  have hj := (Array.getElem?_eq_some_iff.1 h2).1
  refine ⟨?_, ?_⟩
  · unfold World.cell?
    rw [h1, if_neg (Nat.not_lt_zero _)]
    exact h2
  · unfold World.frozen?
    rw [h1]
    simp
    omega
theorem lowerB_up {c : UInt8} (h : 65 ≤ c.toNat ∧ c.toNat ≤ 90) : (c.toNat : Int) + 32 = ((lowerB c).toNat : Int) := by
  unfold lowerB
  rw [if_pos h, UInt8.toNat_add]
  have : (32 : UInt8).toNat = 32 := rfl
  omega
theorem SmallAt.skip {w : World} {B k : Nat} {s : ByteArray} (h : SmallAt w B s k) {hk : k < s.size} (hv : lowerB s[k] = s[k]) (hk' : k < s.size) : SmallAt w B s (k + 1) := by
  intro j x hx
  obtain ⟨h1, h2⟩ := h j x hx
  refine ⟨?_, h2⟩
  rw [h1]
  by_cases hj : j < k
  · rw [if_pos hj, if_pos (by omega)]
  · rw [if_neg hj]
    by_cases hj2 : j < k + 1
    · obtain rfl : j = k := by omega
      rw [byte_at s j hk'] at hx
      cases hx
      rw [if_pos hj2, hv]
    · rw [if_neg hj2]
theorem SmallAt.step {w : World} {B k : Nat} {s : ByteArray} {v : Int} (h : SmallAt w B s k) (hk : k < s.size) (hv : v = ((lowerB s[k]).toNat : Int)) : SmallAt (w.setCell ⟨B, k, none⟩ (.int .u8 v)) B s (k + 1) := by
  intro j x hx
  obtain ⟨h1, h2⟩ := h j x hx
  refine ⟨?_, by rw [World.frozen?_setCell]; exact h2⟩
  by_cases hj : j = k
  · subst hj
    rw [World.cell?_setCell_same _ _ _ h1, if_pos (Nat.lt_succ_self _), hv]
    rw [byte_at s j hk] at hx
    cases hx; rfl
  · rw [World.cell?_setCell_other _ _ _ _ (by intro e; injection e with _ e2; exact hj e2.symm), h1]
    by_cases hj1 : j < k
    · rw [if_pos hj1, if_pos (by omega)]
    · rw [if_neg hj1, if_neg (by omega)]
theorem smallAt_end {w : World} {B : Nat} {s : ByteArray} (h : SmallAt w B s s.size) (cap : Nat) :
    (convert 70 9 (.slice (some ⟨B, 0, none⟩) s.size cap)).run Try.prog w = .ok (.string (strB (lowerL s.data.toList))) w := by
  have := run_convert_bytes_back (P := Try.prog) w 70 9 5 ⟨B, 0, none⟩ cap (lowerL s.data.toList) Try.underlying70 Try.underlying5 Try.underlying9 (by
    intro j hj
    have hj' : j < s.data.toList.length := by simpa [lowerL] using hj
    have hx : s.data.toList[j]? = some (s.data.toList[j]) := List.getElem?_eq_getElem hj'
    obtain ⟨h1, _⟩ := h j _ hx
    rw [if_pos (by rwa [len_data] at hj')] at h1
    have e : (⟨B, 0, none⟩ : Addr).add j = ⟨B, j, none⟩ := by unfold Addr.add; split <;> simp_all
    rw [e, h1]
    simp [lowerL])
  have hl : (lowerL s.data.toList).length = s.size := by simp [lowerL]
  rw [hl] at this
  exact this

set_option maxRecDepth 20000 in
set_option maxHeartbeats 1000000 in
theorem wsmall_any (s : ByteArray) (hs : s.size ≤ 9223372036854775807) (w : World) : Calls Try.prog 68 #[.string s] w (Ret (.string (strB (lowerL s.data.toList))) w) := by
  obtain ⟨cap, C, hconv, hC⟩ := conv_bytes s w
  have HC := Lib.hid hC
  clear hC
  have H0 : Hid (SmallAt (w.drew.alloc (.cells C 5 (C.size, C.size + 1))) w.heap.size s 0) := smallAt_new s w.drew C 5 HC.out
  have hconv := hconv
  go_enter Try.func68, Try.ntmps68
  go_wp2
  go_loopw [10] (fun i wr => ∃ k : Nat, k ≤ s.size ∧ i = .int .i64 k ∧ Hid (SmallAt wr w.heap.size s k) ∧ Below w.heap.size w wr) (fun i _ => s.size - (intOf i).toNat)
  case atStart => exact ⟨0, Nat.zero_le _, rfl, H0.out, by (repeat' (first | (with_reducible exact Below.refl _ _) | (with_reducible assumption) | (with_reducible refine below_drewN ?_ _) | (with_reducible refine Below.alloc ?_ ?_ _) | (with_reducible refine Below.drew ?_) | (with_reducible refine Below.setCell ?_ ?_ _) | go_size))⟩
  case round =>
    obtain ⟨k, hk, rfl, HS, hb⟩ := hrel
    have hsz := hb.size
    by_cases hlt : k < s.size
    · have hlt' : (k : Int) < (s.size : Int) := by omega
      obtain ⟨c0, f0⟩ := HS.out k s[k] (byte_at s k hlt)
      rw [if_neg (Nat.lt_irrefl k)] at c0
      have hx0 : (0 : Int) ≤ (s[k].toNat : Int) := by omega
      have hx1 : (s[k].toNat : Int) ≤ 255 := by have := s[k].toNat_lt; omega
      by_cases hup : 65 ≤ s[k].toNat ∧ s[k].toNat ≤ 90
      · have hu1 : (65 : Int) ≤ (s[k].toNat : Int) := by omega
        have hu2 : (s[k].toNat : Int) ≤ 90 := by omega
        have HV : Hid ((s[k].toNat : Int) + 32 = ((lowerB s[k]).toNat : Int)) := lowerB_up hup
        clear hup
        generalize hz : (s[k].toNat : Int) = z at *
        clear hz
        go_wp2
        go_roundw
        case rel => exact ⟨k + 1, by omega, by go_num, HS.out.step hlt (by have hv := HV.out; omega), hb.setCell (Nat.le_refl _) _⟩
        case measure => simp [intOf]; omega
      · have HV : Hid (lowerB s[k] = s[k]) := if_neg hup
        by_cases hu1 : (65 : Int) ≤ (s[k].toNat : Int)
        · have hu2 : ¬ (s[k].toNat : Int) ≤ 90 := by omega
          clear hup
          go_wp2
          go_roundw
          case rel => exact ⟨k + 1, by omega, by go_num, HS.out.skip HV.out hlt, hb⟩
          case measure => simp [intOf]; omega
        · clear hup
          go_wp2
          go_roundw
          case rel => exact ⟨k + 1, by omega, by go_num, HS.out.skip HV.out hlt, hb⟩
          case measure => simp [intOf]; omega
    · obtain rfl : k = s.size := by omega
      have hback := smallAt_end HS.out cap
      go_wp2
      go_ret
      exact ⟨rfl, hb⟩
set_option maxRecDepth 20000 in
set_option maxHeartbeats 1000000 in
theorem csmall_any (s : ByteArray) (hs : s.size ≤ 9223372036854775807) (w : World) : Calls Try.prog 17 #[.string s] w (Ret (.string (strB (lowerL s.data.toList))) w) := by
  obtain ⟨cap, C, hconv, hC⟩ := conv_bytes s w
  have HC := Lib.hid hC
  clear hC
  have H0 : Hid (SmallAt (w.drew.alloc (.cells C 5 (C.size, C.size + 1))) w.heap.size s 0) := smallAt_new s w.drew C 5 HC.out
  have hconv := hconv
  go_enter Try.func17, Try.ntmps17
  go_wp2
  go_loopw [10] (fun i wr => ∃ k : Nat, k ≤ s.size ∧ i = .int .i64 k ∧ Hid (SmallAt wr w.heap.size s k) ∧ Below w.heap.size w wr) (fun i _ => s.size - (intOf i).toNat)
  case atStart => exact ⟨0, Nat.zero_le _, rfl, H0.out, by (repeat' (first | (with_reducible exact Below.refl _ _) | (with_reducible assumption) | (with_reducible refine below_drewN ?_ _) | (with_reducible refine Below.alloc ?_ ?_ _) | (with_reducible refine Below.drew ?_) | (with_reducible refine Below.setCell ?_ ?_ _) | go_size))⟩
  case round =>
    obtain ⟨k, hk, rfl, HS, hb⟩ := hrel
    have hsz := hb.size
    by_cases hlt : k < s.size
    · have hlt' : (k : Int) < (s.size : Int) := by omega
      obtain ⟨c0, f0⟩ := HS.out k s[k] (byte_at s k hlt)
      rw [if_neg (Nat.lt_irrefl k)] at c0
      have hx0 : (0 : Int) ≤ (s[k].toNat : Int) := by omega
      have hx1 : (s[k].toNat : Int) ≤ 255 := by have := s[k].toNat_lt; omega
      by_cases hup : 65 ≤ s[k].toNat ∧ s[k].toNat ≤ 90
      · have hu1 : (65 : Int) ≤ (s[k].toNat : Int) := by omega
        have hu2 : (s[k].toNat : Int) ≤ 90 := by omega
        have HV : Hid ((s[k].toNat : Int) + 32 = ((lowerB s[k]).toNat : Int)) := lowerB_up hup
        clear hup
        generalize hz : (s[k].toNat : Int) = z at *
        clear hz
        go_wp2
        go_roundw
        case rel => exact ⟨k + 1, by omega, by go_num, HS.out.step hlt (by have hv := HV.out; omega), hb.setCell (Nat.le_refl _) _⟩
        case measure => simp [intOf]; omega
      · have HV : Hid (lowerB s[k] = s[k]) := if_neg hup
        by_cases hu1 : (65 : Int) ≤ (s[k].toNat : Int)
        · have hu2 : ¬ (s[k].toNat : Int) ≤ 90 := by omega
          clear hup
          go_wp2
          go_roundw
          case rel => exact ⟨k + 1, by omega, by go_num, HS.out.skip HV.out hlt, hb⟩
          case measure => simp [intOf]; omega
        · clear hup
          go_wp2
          go_roundw
          case rel => exact ⟨k + 1, by omega, by go_num, HS.out.skip HV.out hlt, hb⟩
          case measure => simp [intOf]; omega
    · obtain rfl : k = s.size := by omega
      have hback := smallAt_end HS.out cap
      go_wp2
      go_ret
      exact ⟨rfl, hb⟩
end Go.Proofs.Ythkleinjddkhoaa
