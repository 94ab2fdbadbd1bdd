/- The walks of the two texts of a line. -/
import Derived.Test.YtgliminiiciflaaDoorWShow6
import Derived.Test.YtgliminiiciflaaDoorWArr
import Derived.Test.YtgliminiiciflaaDoorWCron2
import Derived.Test.YtgliminiiciflaaDoorRText
namespace Go.Proofs.YtgliminiiciflaaDoor
open Go.RowKit
set_option linter.unusedSimpArgs false
set_option linter.unusedVariables false

def outAt (l : Nat → List It) (k j : Nat) : Value := .string (if j < k then strB (fieldT (l j)) else ⟨#[]⟩)
def lineStrs (l : Nat → List It) : List ByteArray := (List.range 5).map fun j => strB (fieldT (l j))
theorem lineStrs_join (l : Nat → List It) : Lib.join ((lineStrs l).map (·.data.toList)) [32] = lineT (rowsOf l) := by
  unfold lineStrs lineT rowsOf
  rw [List.map_map, List.map_map]
  congr 1
theorem lineT_len {l : Nat → List It} (h : ∀ k, ∀ it ∈ l k, it.wf) (hn : ∀ k, k < 5 → (l k).length ≤ 1000) : (lineT (rowsOf l)).length ≤ 600000 := by
  have := join_len ((rowsOf l).map fieldT) [32] 101000 (by
    intro x hx
    obtain ⟨y, hy, rfl⟩ := List.mem_map.1 hx
    obtain ⟨k, hk, rfl⟩ := List.mem_map.1 hy
    have h1 := fieldT_len (h k)
    have h2 := hn k (List.mem_range.1 hk)
    omega)
  unfold lineT
  have e : ((rowsOf l).map fieldT).length = 5 := rfl
  rw [e] at this
  simp at this
  omega

set_option maxRecDepth 20000 in
set_option maxHeartbeats 1000000 in
theorem show_bad (A : Nat → Option Addr) (n c : Nat → Nat) (l : Nat → List It) (w : World) (hA : RdLine w A n l) (hn : ∀ k, n k ≤ 9223372036854775807) (hc : (chk l).2 ≠ 0) :
    Calls Tryd.prog 16 #[crV A n c] w (Ret (.tuple #[.string ⟨#[]⟩, .int .i64 (chk l).2]) w) := by
  have HC := Lib.hid (fun W (hb : Below w.heap.size w W) => check_any A n c l W (hA.below hb (Nat.le_refl _)) hn)
  generalize (chk l).1 = q1 at HC
  generalize (chk l).2 = q2 at HC hc ⊢
  have hc' : (q2 != 0) = true := by simpa using hc
  clear hc hA hn
  go_enter Tryd.func16, Tryd.ntmps16
  go_wp2_with fail
  refine (HC.out _ (by (repeat' (first | (with_reducible exact Below.refl _ _) | (with_reducible assumption) | (with_reducible refine below_drewN ?_ _) | (with_reducible refine Below.alloc ?_ ?_ _) | (with_reducible refine Below.drew ?_) | (with_reducible refine Below.setCell ?_ ?_ _) | go_size)))).mono ?_
  rintro e w1 ⟨rfl, hb1⟩
  go_wp2
  go_ret2
  exact ⟨rfl, ((Below.refl _ w).alloc (Nat.le_refl _) _).trans (hb1.mono (by simp))⟩

set_option maxRecDepth 20000 in
set_option maxHeartbeats 1000000 in
theorem show_ok (A : Nat → Option Addr) (n c : Nat → Nat) (l : Nat → List It) (w : World) (hA : RdLine w A n l) (hn : ∀ k, n k ≤ 200) (hnil : ∀ k, A k = none → n k = 0) (hwf : ∀ k, ∀ it ∈ l k, it.wf) (hw : Pow w) (hc : chk l = (5, 0)) :
    Calls Tryd.prog 16 #[crV A n c] w (Ret (.tuple #[.string (strB (lineT (rowsOf l))), .int .i64 0]) w) := by
  have HC := Lib.hid (fun W (hb : Below w.heap.size w W) => check_any A n c l W (hA.below hb (Nat.le_refl _)) (fun k => by have := hn k; omega))
  rw [hc] at HC
  have HF := Lib.hid (fun k hk W (hb : Below w.heap.size w W) => field_in k hk A n c l W (hA.below hb (Nat.le_refl _)) (by have := hn k; omega) (hnil k))
  have HT := Lib.hid (fun k (hk : k < 5) A' c' W (hr : RdIts W A' (n k) (l k)) (hb : Below w.heap.size w W) => cfield_any A' (n k) c' (l k) W hr (by have := hn k; omega) (hwf k) (tab_below hw hb))
  have HLen : Hid ((lineT (rowsOf l)).length ≤ 600000) := lineT_len hwf (fun k hk => by rw [(hA k hk).1]; have := hn k; omega)
  clear hA hn hnil hwf hw hc
  go_enter Tryd.func16, Tryd.ntmps16
  go_wp2_with fail
  refine (HC.out _ (by (repeat' (first | (with_reducible exact Below.refl _ _) | (with_reducible assumption) | (with_reducible refine below_drewN ?_ _) | (with_reducible refine Below.alloc ?_ ?_ _) | (with_reducible refine Below.drew ?_) | (with_reducible refine Below.setCell ?_ ?_ _) | go_size)))).mono ?_
  rintro e w1 ⟨rfl, hb1⟩
  have hb2 : Below w.heap.size w w1 := ((Below.refl _ w).alloc (Nat.le_refl _) _).trans (hb1.mono (by simp))
  have hz1 : w.heap.size < w1.heap.size := by have := hb1.size; simp at this; omega
  obtain ⟨hq1, hq2⟩ := bcell hb1
  have HL : Hid (LineAt w1 w.heap.size 0 A n c) := ⟨by rw [hq1 _ _ (by simp)]; simp [go_sem], by rw [hq1 _ _ (by simp)]; simp [go_sem], by rw [hq1 _ _ (by simp)]; simp [go_sem], by rw [hq1 _ _ (by simp)]; simp [go_sem], by rw [hq1 _ _ (by simp)]; simp [go_sem]⟩
  clear hb1 hq1 hq2
  go_wp2_with fail
  have HO0 := Lib.hid (arr_new w1 #[.string ⟨#[]⟩, .string ⟨#[]⟩, .string ⟨#[]⟩, .string ⟨#[]⟩, .string ⟨#[]⟩] 55 (outAt l 0) (by
    intro j hj
    obtain rfl | rfl | rfl | rfl | rfl : j = 0 ∨ j = 1 ∨ j = 2 ∨ j = 3 ∨ j = 4 := by simp at hj; omega
    all_goals rfl))
  obtain ⟨B, hB⟩ : ∃ B, B = w1.heap.size := ⟨_, rfl⟩
  rw [← hB] at HO0
  have HB := Lib.hid hB
  go_loopw [16] (fun i wr => ∃ k : Nat, k ≤ 5 ∧ i = .int .i64 k ∧ Hid (Arr wr w1.heap.size 5 (outAt l k)) ∧ Hid (LineAt wr w.heap.size 0 A n c) ∧ Below w.heap.size w wr) (fun i _ => 5 - (intOf i).toNat)
  case atStart => exact ⟨0, by omega, rfl, by rw [hB] at HO0; exact HO0.out, LineAt.below HL.out (fun o => ((Below.refl _ w1).alloc (Nat.le_refl _) _).cell (p := ⟨_, o, none⟩) hz1), hb2.alloc hb2.size _⟩
  case round =>
    obtain ⟨k, hk, rfl, HO, HLr, hb⟩ := hrel
    have hsz := hb.size
    have hlt1 := HO.out.lt (by decide)
    by_cases h5 : k < 5
    · have h5' : (k : Int) < 5 := by omega
      have hk0 : (0 : Int) ≤ (k : Int) := by omega
      obtain ⟨c0, c1, c2, c3, c4⟩ := HLr.out
      simp only [Nat.zero_add] at c1 c2 c3 c4
      go_wp2_with fail
      refine (HF.out k h5 _ hb).mono ?_
      rintro e w2 ⟨A', c', rfl, hr, hb3⟩
      have hb4 := bthen hb hb3 hsz
      have hz4 := hb4.size
      have HO2 := Lib.hid (HO.out.below hlt1 hb3)
      have HL2 := Lib.hid (LineAt.below HLr.out (fun o => hb3.cell (p := ⟨_, o, none⟩) (Nat.lt_of_lt_of_le hz1 (Nat.le_of_lt hlt1))))
      have hlt2 := Nat.lt_of_lt_of_le hlt1 hb3.size
      clear c0 c1 c2 c3 c4
      go_wp2_with fail
      refine (HT.out k h5 _ _ _ hr hb4).mono ?_
      rintro e w3 ⟨rfl, hb5⟩
      have hb6 := bthen hb4 hb5 hz4
      have HO3 := Lib.hid (HO2.out.below hlt2 hb5)
      have HL3 := Lib.hid (LineAt.below HL2.out (fun o => hb5.cell (p := ⟨_, o, none⟩) (Nat.lt_of_lt_of_le hz1 (Nat.le_of_lt hlt2))))
      have ck := HO3.out.1 k h5
      have fk := HO3.out.2 k
      clear hb3 hb5 hr
      obtain ⟨T, hT⟩ : ∃ T, T = strB (fieldT (l k)) := ⟨_, rfl⟩
      rw [← hT]
      have HTk := Lib.hid hT
      clear hT
      unfold outAt at ck
      go_wp2
      go_roundw
      case rel =>
        refine ⟨k + 1, by omega, by go_num, ?_, ?_, hb6.setCell (by simp; omega) _⟩
        · exact HO3.out.set k h5 _ (by unfold outAt; rw [if_pos (by omega), HTk.out]) (fun j hj hne => by
            unfold outAt
            by_cases h : j < k
            · rw [if_pos h, if_pos (by omega)]
            · rw [if_neg h, if_neg (by omega)])
        · exact LineAt.below HL3.out (fun o => World.cell?_setCell_other _ _ _ _ (by intro e2; injection e2 with e3; omega))
      case measure => simp [intOf]; omega
    · obtain rfl : k = 5 := by omega
      have HJ := Lib.hid (joined_any ⟨#[32]⟩ w1.heap.size 0 5 (lineStrs l) wr (fun j x hx => by
        have hj : j < 5 := (List.getElem?_eq_some_iff.1 hx).1
        have h1 := HO.out.1 j hj
        rw [Nat.zero_add, h1]
        unfold lineStrs at hx
        rw [List.getElem?_map, List.getElem?_range hj] at hx
        simp only [Option.map_some, Option.some.injEq] at hx
        rw [← hx]
        unfold outAt
        rw [if_pos hj]) hlt1 (show 5 ≤ 140737488355328 by omega) (Nat.le_refl 5) (by
          have := lineStrs_join l
          show (Lib.join ((lineStrs l).map (·.data.toList)) [32]).length ≤ _
          rw [this]
          have := HLen.out; omega))
      have HF2 : Hid (Lib.join ((lineStrs l).map (·.data.toList)) [32] = lineT (rowsOf l)) := lineStrs_join l
      go_wp2_with fail
      refine HJ.out.mono ?_
      rintro e w2 ⟨rfl, hb3⟩
      go_wp2
      go_ret2
      exact ⟨by rw [← HF2.out]; rfl, bthen hb hb3 hsz⟩
end Go.Proofs.YtgliminiiciflaaDoor
