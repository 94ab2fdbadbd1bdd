/- The walk of package calread's nick: the words that are short for texts. -/
import Derived.Test.YtnelecjjbmjhaaaGreatDoorWCalA
namespace Go.Proofs.YtnelecjjbmjhaaaGreatDoor
open Go.RowKit
set_option linter.unusedSimpArgs false
set_option linter.unusedVariables false

def nickW (k : Nat) : List UInt8 := (knicks.getD k ([], [])).1
def nickT (k : Nat) : List UInt8 := (knicks.getD k ([], [])).2
def nickAgg : Value := .agg #[.string ⟨#[109, 105, 110, 117, 116, 101, 108, 121]⟩, .string ⟨#[42, 45, 42, 45, 42, 32, 42, 58, 42, 58, 48, 48]⟩, .string ⟨#[104, 111, 117, 114, 108, 121]⟩, .string ⟨#[42, 45, 42, 45, 42, 32, 42, 58, 48, 48, 58, 48, 48]⟩, .string ⟨#[100, 97, 105, 108, 121]⟩, .string ⟨#[42, 45, 42, 45, 42, 32, 48, 48, 58, 48, 48, 58, 48, 48]⟩, .string ⟨#[119, 101, 101, 107, 108, 121]⟩, .string ⟨#[77, 111, 110, 32, 42, 45, 42, 45, 42, 32, 48, 48, 58, 48, 48, 58, 48, 48]⟩, .string ⟨#[109, 111, 110, 116, 104, 108, 121]⟩, .string ⟨#[42, 45, 42, 45, 48, 49, 32, 48, 48, 58, 48, 48, 58, 48, 48]⟩, .string ⟨#[113, 117, 97, 114, 116, 101, 114, 108, 121]⟩, .string ⟨#[42, 45, 48, 49, 44, 48, 52, 44, 48, 55, 44, 49, 48, 45, 48, 49, 32, 48, 48, 58, 48, 48, 58, 48, 48]⟩, .string ⟨#[115, 101, 109, 105, 97, 110, 110, 117, 97, 108, 108, 121]⟩, .string ⟨#[42, 45, 48, 49, 44, 48, 55, 45, 48, 49, 32, 48, 48, 58, 48, 48, 58, 48, 48]⟩, .string ⟨#[121, 101, 97, 114, 108, 121]⟩, .string ⟨#[42, 45, 48, 49, 45, 48, 49, 32, 48, 48, 58, 48, 48, 58, 48, 48]⟩, .string ⟨#[97, 110, 110, 117, 97, 108, 108, 121]⟩, .string ⟨#[42, 45, 48, 49, 45, 48, 49, 32, 48, 48, 58, 48, 48, 58, 48, 48]⟩]
theorem nick_row (k : Nat) (hk : k < 9) (w : World) : (Instr.index 141 nickAgg (.int .i64 (k : Int))).run Tryz.prog w = .ok (.agg #[.string (strB (nickW k)), .string (strB (nickT k))]) w := by
  obtain rfl | rfl | rfl | rfl | rfl | rfl | rfl | rfl | rfl : k = 0 ∨ k = 1 ∨ k = 2 ∨ k = 3 ∨ k = 4 ∨ k = 5 ∨ k = 6 ∨ k = 7 ∨ k = 8 := by omega
  all_goals kernel_rfl
theorem nick_hit {l : List UInt8} {k : Nat} (hk : k < 9) (H : ∀ j, j < k → lowerL l ≠ nickW j) (h : lowerL l = nickW k) : knick l = nickT k := by
  have hf : knicks.find? (fun p => decide (lowerL l = p.1)) = some (nickW k, nickT k) := by
    rw [List.find?_eq_some_iff_getElem]
    refine ⟨decide_eq_true h, k, hk, ?_, fun j hj => ?_⟩
    · unfold nickW nickT
      rw [List.getD_eq_getElem?_getD, List.getElem?_eq_getElem hk]; rfl
    · have hj9 : j < knicks.length := Nat.lt_trans hj hk
      have := H j hj
      unfold nickW at this
      rw [List.getD_eq_getElem?_getD, List.getElem?_eq_getElem hj9] at this
      simpa using this
  unfold knick
  rw [hf]
theorem nick_miss {l : List UInt8} (H : ∀ j, j < 9 → lowerL l ≠ nickW j) : knick l = [] := by
  have hf : knicks.find? (fun p => decide (lowerL l = p.1)) = none := by
    rw [List.find?_eq_none]
    intro p hp
    obtain ⟨j, hj⟩ := List.getElem?_of_mem hp
    have hj9 : j < 9 := (List.getElem?_eq_some_iff.1 hj).1
    have := H j hj9
    unfold nickW at this
    rw [List.getD_eq_getElem?_getD, hj] at this
    simpa using this
  unfold knick
  rw [hf]
set_option maxRecDepth 20000 in
set_option maxHeartbeats 2000000 in
theorem nick_any (s : ByteArray) (hs : s.size ≤ 1000000) (w : World) : Calls Tryz.prog 58 #[.string s] w (Ret (.string (strB (knick s.data.toList))) w) := by
  have HS := Lib.hid (fun W => csmall_any s (by omega) W)
  have HM := Lib.hid (fun H => nick_miss (l := s.data.toList) H)
  have HH := Lib.hid (fun k hk H h => nick_hit (l := s.data.toList) (k := k) hk H h)
  generalize knick s.data.toList = z at *
  generalize lowerL s.data.toList = x at *
  have hix0 := Lib.hid (fun k hk W => nick_row k hk W)
  unfold nickAgg at hix0
  go_enter Tryz.func58, Tryz.ntmps58
  go_wp2
  go_loopw [15] (fun i wr => ∃ k : Nat, k ≤ 9 ∧ i = .int .i64 k ∧ Hid (∀ j, j < k → x ≠ nickW j) ∧ Below w.heap.size w wr) (fun i _ => 9 - (intOf i).toNat)
  case atStart => exact ⟨0, by omega, rfl, fun j h => absurd h (Nat.not_lt_zero _), Below.refl _ _⟩
  case round =>
    obtain ⟨k, hk, rfl, HN, hb⟩ := hrel
    have hsz := hb.size
    by_cases hlt : k < 9
    · have hlt' : (k : Int) < 9 := by omega
      have hix := fun W => hix0.out k hlt W
      by_cases he : x = nickW k
      · have HZ : Hid (z = nickT k) := HH.out k hlt HN.out he
        have hT := str_test true (decide_eq_true he)
        clear he
        go_wp2
        generalize hW : World.alloc wr _ = W1
        have hb0 : Below wr.heap.size wr W1 := by rw [← hW]; exact (Below.refl _ wr).alloc (Nat.le_refl _) _
        have c0 : ∀ x : Ext W1, x.W.cell? ⟨wr.heap.size, 0, none⟩ = some (.string (strB (nickW k))) := fun x => x.cell (by subst hW; simp [go_sem])
        have c1 : ∀ x : Ext W1, x.W.cell? ⟨wr.heap.size, 1, none⟩ = some (.string (strB (nickT k))) := fun x => x.cell (by subst hW; simp [go_sem])
        clear hW
        refine wp_region_grew (by kernel_rfl) (by kernel_rfl) ?_
        repeat (first | go_big_quiet_skip | (go_big_quiet_want; go_big_quiet_op; (first | go_big_quiet_on | go_big_quiet_call ((with_reducible exact ext_call _ (HS.out _))))))
        refine wpQuiet_nil ?_
        rintro _ ⟨xw, rfl⟩
        have hbx : Below w.heap.size w xw.W := bthen hb (bthen hb0 xw.h hb0.size) hsz
        go_wp2
        go_ret
        exact ⟨by rw [HZ.out]; rfl, hbx⟩
      · have HN2 := Lib.hid he
        have hT := str_test false (decide_eq_false he)
        clear he
        go_wp2
        generalize hW : World.alloc wr _ = W1
        have hb0 : Below wr.heap.size wr W1 := by rw [← hW]; exact (Below.refl _ wr).alloc (Nat.le_refl _) _
        have c0 : ∀ x : Ext W1, x.W.cell? ⟨wr.heap.size, 0, none⟩ = some (.string (strB (nickW k))) := fun x => x.cell (by subst hW; simp [go_sem])
        have c1 : ∀ x : Ext W1, x.W.cell? ⟨wr.heap.size, 1, none⟩ = some (.string (strB (nickT k))) := fun x => x.cell (by subst hW; simp [go_sem])
        clear hW
        refine wp_region_grew (by kernel_rfl) (by kernel_rfl) ?_
        repeat (first | go_big_quiet_skip | (go_big_quiet_want; go_big_quiet_op; (first | go_big_quiet_on | go_big_quiet_call ((with_reducible exact ext_call _ (HS.out _))))))
        refine wpQuiet_nil ?_
        rintro _ ⟨xw, rfl⟩
        have hbx : Below w.heap.size w xw.W := bthen hb (bthen hb0 xw.h hb0.size) hsz
        go_wp2
        go_roundw
        case rel => exact ⟨k + 1, by omega, by go_num, upto_succ HN.out HN2.out, hbx⟩
        case measure => simp [intOf]; omega
    · obtain rfl : k = 9 := by omega
      have HZ : Hid (z = []) := HM.out HN.out
      go_wp2
      go_ret
      exact ⟨by rw [HZ.out]; rfl, hb⟩
end Go.Proofs.YtnelecjjbmjhaaaGreatDoor
