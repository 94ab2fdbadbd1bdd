/- The walk of the law RulereadMay. -/
import Derived.Test.YtnelecjjbmjhaaaGreatDoorWRuG
import Derived.Test.YtnelecjjbmjhaaaGreatDoorShelf
import Derived.Test.YtnelecjjbmjhaaaGreatDoorWBox
import Derived.Shelf.Abstract
import Derived.Test.YtnelecjjbmjhaaaGreatDoorWRrK
/- The walk of rule.Same, of rules that are the same. -/
namespace Go.Proofs.YtnelecjjbmjhaaaGreatDoor
open Go.RowKit
set_option linter.unusedSimpArgs false
set_option linter.unusedVariables false

theorem neq_nth (x d : Int) (w : World) : (binOp .neq 54 (.agg #[.int .i64 x, .int .i64 d]) (.agg #[.int .i64 x, .int .i64 d])).run Tryz.prog w = .ok (.bool false) w := by
  rw [run_neq_struct]
  simp [go_sem]
theorem eql_heads (a b c d e : Int) (w : World) : (binOp .eql 80 (.agg #[.int .i64 a, .int .i64 b, .int .i64 c, .int .i64 d, .int .i64 e]) (.agg #[.int .i64 a, .int .i64 b, .int .i64 c, .int .i64 d, .int .i64 e])).run Tryz.prog w = .ok (.bool true) w := by
  rw [run_eql_struct]
  simp [go_sem]
set_option maxHeartbeats 1000000 in
theorem headOf_any (r : RuV) (A : Nat → Option Addr) (n c : Nat → Nat) (w : World) : Calls Tryz.prog 44 #[ruV r A n c] w (Ret (.agg #[.int .i64 r.st, .int .i64 r.iv, .int .i64 r.ct, .int .i64 r.un, .int .i64 r.fr]) w) := by
  unfold ruV
  go_enter Tryz.func44, Tryz.ntmps44
  go_wp2
  refine bodyPost_ret (v := .agg #[.int .i64 r.st, .int .i64 r.iv, .int .i64 r.ct, .int .i64 r.un, .int .i64 r.fr]) ?_ rfl ⟨rfl, ?_⟩
  · rw [results_cell1 rfl]
    go_simp
  · (repeat' (first | (with_reducible exact Below.refl _ _) | (with_reducible assumption) | (with_reducible refine below_drewN ?_ _) | (with_reducible refine Below.alloc ?_ ?_ _) | (with_reducible refine Below.drew ?_) | (with_reducible refine Below.setCell ?_ ?_ _) | go_size))
theorem equalI_any (A A' : Option Addr) (n c c' : Nat) (l : List Int) (w : World) (h : RdInts w A n l) (h' : RdInts w A' n l) (hn : n ≤ 1000000) : Calls Tryz.prog 45 #[.slice A n c, .slice A' n c'] w (Ret (.bool true) w) := by
  by_cases h0 : n = 0
  · subst h0
    refine (Tryz.slices_Equal_int_empty A A' c 0 c' w (by omega)).mono ?_
    rintro e w1 ⟨rfl, rfl⟩
    exact ⟨rfl, Below.refl _ _⟩
  · obtain ⟨b, o, rfl, _, hc⟩ := h.2 (by omega)
    obtain ⟨b', o', rfl, _, hc'⟩ := h'.2 (by omega)
    have hl := h.1
    have hx : ∀ j, j < l.length → l[j]? = some (l.getD j 0) := fun j hj => by rw [List.getD_eq_getElem?_getD, List.getElem?_eq_getElem hj]; rfl
    refine (Tryz.slices_Equal_int b o n c b' o' n c' l l w (by omega) (by omega) (by omega) (by omega) (fun j hj => ?_) (fun j hj => ?_)).mono ?_
    · have := hc j _ (hx j hj) 0 _ rfl
      simpa using this
    · have := hc' j _ (hx j hj) 0 _ rfl
      simpa using this
    · rintro e w1 ⟨rfl, q, rfl⟩
      exact ⟨by simp, below_drewN (Below.refl _ _) q⟩
set_option maxHeartbeats 1000000 in
theorem equalN_any (A A' : Option Addr) (n c c' : Nat) (l : List (Int × Int)) (w : World) (h : RdNths w A n l) (h' : RdNths w A' n l) (hn : n ≤ 1000000) : Calls Tryz.prog 46 #[.slice A n c, .slice A' n c'] w (Ret (.bool true) w) := by
  go_enter Tryz.func46, Tryz.ntmps46
  go_wp2
  go_loopw [13] (fun i wr => ∃ k j : Nat, k ≤ n ∧ i = .int .i64 k ∧ wr = w.drewN j) (fun i _ => n - (intOf i).toNat)
  case atStart => exact ⟨0, 0, Nat.zero_le _, rfl, rfl⟩
  case round =>
    obtain ⟨k, j, hk, rfl, rfl⟩ := hrel
    by_cases hlt : k < n
    · obtain ⟨b, o, it, rfl, _, hi, c0, c1⟩ := RdNths.at_ h hlt
      obtain ⟨b', o', it', rfl, _, hi', c0', c1'⟩ := RdNths.at_ h' hlt
      rw [hi] at hi'
      cases hi'
      have hlt' : (k : Int) < (n : Int) := by omega
      have hne := neq_nth it.1 it.2
      clear hi
      go_wp2
      go_quiet (fail)
      go_wp2
      go_roundw
      case rel => exact ⟨k + 1, _, by omega, by go_num, rfl⟩
      case measure => simp [intOf]; omega
    · obtain rfl : k = n := by omega
      go_wp2
      go_ret
      exact ⟨rfl, below_drewN (Below.refl _ _) j⟩
/-- The cells of two rules, in two blocks. -/
theorem ruAt_new2 (w : World) (r : RuV) (A A' : Nat → Option Addr) (n c n' c' : Nat → Nat) (t : TypeId) : RuAt ((w.alloc (.cells #[.int .i64 r.st, .int .i64 r.fr, .int .i64 r.iv, .int .i64 r.ct, .int .i64 r.un, .slice (A 5) (n 5) (c 5), .slice (A 6) (n 6) (c 6), .slice (A 7) (n 7) (c 7), .slice (A 8) (n 8) (c 8), .slice (A 9) (n 9) (c 9), .slice (A 10) (n 10) (c 10)] t)).alloc (.cells #[.int .i64 r.st, .int .i64 r.fr, .int .i64 r.iv, .int .i64 r.ct, .int .i64 r.un, .slice (A' 5) (n' 5) (c' 5), .slice (A' 6) (n' 6) (c' 6), .slice (A' 7) (n' 7) (c' 7), .slice (A' 8) (n' 8) (c' 8), .slice (A' 9) (n' 9) (c' 9), .slice (A' 10) (n' 10) (c' 10)] t)) (w.heap.size + 1) r A' n' c' := by
  have e : (w.alloc (.cells #[.int .i64 r.st, .int .i64 r.fr, .int .i64 r.iv, .int .i64 r.ct, .int .i64 r.un, .slice (A 5) (n 5) (c 5), .slice (A 6) (n 6) (c 6), .slice (A 7) (n 7) (c 7), .slice (A 8) (n 8) (c 8), .slice (A 9) (n 9) (c 9), .slice (A 10) (n 10) (c 10)] t)).heap.size = w.heap.size + 1 := by simp
  rw [← e]
  exact ruAt_new _ r A' n' c' t
set_option maxRecDepth 20000 in
set_option maxHeartbeats 4000000 in
theorem rsame_any (r : RuV) (A A' : Nat → Option Addr) (n c c' : Nat → Nat) (w : World) (h : RdRu w A n r) (h' : RdRu w A' n r) (hn : ∀ k, n k ≤ 1000000) : Calls Tryz.prog 11 #[ruV r A n c, ruV r A' n c'] w (Ret (.bool true) w) := by
  have hbA : ∀ o o', Below w.heap.size w ((w.alloc o).alloc o') := fun o o' => ((Below.refl _ w).alloc (Nat.le_refl _) o).alloc (by simp) o'
  have DH := Lib.hid (fun W => headOf_any r A n c W)
  have DH' := Lib.hid (fun W => headOf_any r A' n c' W)
  have D5 := Lib.hid (fun W (hb : Below w.heap.size w W) => equalI_any (A 5) (A' 5) (n 5) (c 5) (c' 5) r.mo W (h.below hb).mo (h'.below hb).mo (hn 5))
  have D6 := Lib.hid (fun W (hb : Below w.heap.size w W) => equalI_any (A 6) (A' 6) (n 6) (c 6) (c' 6) r.da W (h.below hb).da (h'.below hb).da (hn 6))
  have D7 := Lib.hid (fun W (hb : Below w.heap.size w W) => equalN_any (A 7) (A' 7) (n 7) (c 7) (c' 7) r.wk W (h.below hb).wk (h'.below hb).wk (hn 7))
  have D8 := Lib.hid (fun W (hb : Below w.heap.size w W) => equalI_any (A 8) (A' 8) (n 8) (c 8) (c' 8) r.ho W (h.below hb).ho (h'.below hb).ho (hn 8))
  have D9 := Lib.hid (fun W (hb : Below w.heap.size w W) => equalI_any (A 9) (A' 9) (n 9) (c 9) (c' 9) r.mi W (h.below hb).mi (h'.below hb).mi (hn 9))
  have D10 := Lib.hid (fun W (hb : Below w.heap.size w W) => equalI_any (A 10) (A' 10) (n 10) (c 10) (c' 10) r.se W (h.below hb).se (h'.below hb).se (hn 10))
  have HE := Lib.hid (eql_heads r.st r.iv r.ct r.un r.fr)
  have HA := Lib.hid ((ruAt_new w r A n c 25).below ((Below.refl _ _).alloc (Nat.le_refl _) (.cells #[.int .i64 r.st, .int .i64 r.fr, .int .i64 r.iv, .int .i64 r.ct, .int .i64 r.un, .slice (A' 5) (n 5) (c' 5), .slice (A' 6) (n 6) (c' 6), .slice (A' 7) (n 7) (c' 7), .slice (A' 8) (n 8) (c' 8), .slice (A' 9) (n 9) (c' 9), .slice (A' 10) (n 10) (c' 10)] 25)))
  have HA' := Lib.hid (ruAt_new2 w r A A' n c n c' 25)
  have HB0 := Lib.hid (hbA (.cells #[.int .i64 r.st, .int .i64 r.fr, .int .i64 r.iv, .int .i64 r.ct, .int .i64 r.un, .slice (A 5) (n 5) (c 5), .slice (A 6) (n 6) (c 6), .slice (A 7) (n 7) (c 7), .slice (A 8) (n 8) (c 8), .slice (A 9) (n 9) (c 9), .slice (A 10) (n 10) (c 10)] 25) (.cells #[.int .i64 r.st, .int .i64 r.fr, .int .i64 r.iv, .int .i64 r.ct, .int .i64 r.un, .slice (A' 5) (n 5) (c' 5), .slice (A' 6) (n 6) (c' 6), .slice (A' 7) (n 7) (c' 7), .slice (A' 8) (n 8) (c' 8), .slice (A' 9) (n 9) (c' 9), .slice (A' 10) (n 10) (c' 10)] 25))
  clear h h' hn hbA
  unfold ruV at *
  go_enter Tryz.func11, Tryz.ntmps11
  go_wp2
  generalize ((w.alloc (.cells #[.int .i64 r.st, .int .i64 r.fr, .int .i64 r.iv, .int .i64 r.ct, .int .i64 r.un, .slice (A 5) (n 5) (c 5), .slice (A 6) (n 6) (c 6), .slice (A 7) (n 7) (c 7), .slice (A 8) (n 8) (c 8), .slice (A 9) (n 9) (c 9), .slice (A 10) (n 10) (c 10)] 25)).alloc (.cells #[.int .i64 r.st, .int .i64 r.fr, .int .i64 r.iv, .int .i64 r.ct, .int .i64 r.un, .slice (A' 5) (n 5) (c' 5), .slice (A' 6) (n 6) (c' 6), .slice (A' 7) (n 7) (c' 7), .slice (A' 8) (n 8) (c' 8), .slice (A' 9) (n 9) (c' 9), .slice (A' 10) (n 10) (c' 10)] 25)) = w1 at *
  have hb0 := HB0.out
  obtain ⟨x0, x1, x2, x3, x4, x5, x6, x7, x8, x9, x10⟩ := HA.out
  obtain ⟨y0, y1, y2, y3, y4, y5, y6, y7, y8, y9, y10⟩ := HA'.out
  have ga0 : ∀ y : Ext w1, y.W.cell? ⟨w.heap.size, 0, none⟩ = some (.int .i64 r.st) := fun y => y.cell x0
  have gb0 : ∀ y : Ext w1, y.W.cell? ⟨w.heap.size + 1, 0, none⟩ = some (.int .i64 r.st) := fun y => y.cell y0
  have ga1 : ∀ y : Ext w1, y.W.cell? ⟨w.heap.size, 1, none⟩ = some (.int .i64 r.fr) := fun y => y.cell x1
  have gb1 : ∀ y : Ext w1, y.W.cell? ⟨w.heap.size + 1, 1, none⟩ = some (.int .i64 r.fr) := fun y => y.cell y1
  have ga2 : ∀ y : Ext w1, y.W.cell? ⟨w.heap.size, 2, none⟩ = some (.int .i64 r.iv) := fun y => y.cell x2
  have gb2 : ∀ y : Ext w1, y.W.cell? ⟨w.heap.size + 1, 2, none⟩ = some (.int .i64 r.iv) := fun y => y.cell y2
  have ga3 : ∀ y : Ext w1, y.W.cell? ⟨w.heap.size, 3, none⟩ = some (.int .i64 r.ct) := fun y => y.cell x3
  have gb3 : ∀ y : Ext w1, y.W.cell? ⟨w.heap.size + 1, 3, none⟩ = some (.int .i64 r.ct) := fun y => y.cell y3
  have ga4 : ∀ y : Ext w1, y.W.cell? ⟨w.heap.size, 4, none⟩ = some (.int .i64 r.un) := fun y => y.cell x4
  have gb4 : ∀ y : Ext w1, y.W.cell? ⟨w.heap.size + 1, 4, none⟩ = some (.int .i64 r.un) := fun y => y.cell y4
  have ga5 : ∀ y : Ext w1, y.W.cell? ⟨w.heap.size, 5, none⟩ = some (.slice (A 5) (n 5) (c 5)) := fun y => y.cell x5
  have gb5 : ∀ y : Ext w1, y.W.cell? ⟨w.heap.size + 1, 5, none⟩ = some (.slice (A' 5) (n 5) (c' 5)) := fun y => y.cell y5
  have ga6 : ∀ y : Ext w1, y.W.cell? ⟨w.heap.size, 6, none⟩ = some (.slice (A 6) (n 6) (c 6)) := fun y => y.cell x6
  have gb6 : ∀ y : Ext w1, y.W.cell? ⟨w.heap.size + 1, 6, none⟩ = some (.slice (A' 6) (n 6) (c' 6)) := fun y => y.cell y6
  have ga7 : ∀ y : Ext w1, y.W.cell? ⟨w.heap.size, 7, none⟩ = some (.slice (A 7) (n 7) (c 7)) := fun y => y.cell x7
  have gb7 : ∀ y : Ext w1, y.W.cell? ⟨w.heap.size + 1, 7, none⟩ = some (.slice (A' 7) (n 7) (c' 7)) := fun y => y.cell y7
  have ga8 : ∀ y : Ext w1, y.W.cell? ⟨w.heap.size, 8, none⟩ = some (.slice (A 8) (n 8) (c 8)) := fun y => y.cell x8
  have gb8 : ∀ y : Ext w1, y.W.cell? ⟨w.heap.size + 1, 8, none⟩ = some (.slice (A' 8) (n 8) (c' 8)) := fun y => y.cell y8
  have ga9 : ∀ y : Ext w1, y.W.cell? ⟨w.heap.size, 9, none⟩ = some (.slice (A 9) (n 9) (c 9)) := fun y => y.cell x9
  have gb9 : ∀ y : Ext w1, y.W.cell? ⟨w.heap.size + 1, 9, none⟩ = some (.slice (A' 9) (n 9) (c' 9)) := fun y => y.cell y9
  have ga10 : ∀ y : Ext w1, y.W.cell? ⟨w.heap.size, 10, none⟩ = some (.slice (A 10) (n 10) (c 10)) := fun y => y.cell x10
  have gb10 : ∀ y : Ext w1, y.W.cell? ⟨w.heap.size + 1, 10, none⟩ = some (.slice (A' 10) (n 10) (c' 10)) := fun y => y.cell y10
  have he := HE.out
  refine wp_region_grew (by kernel_rfl) (by kernel_rfl) ?_
  repeat (first | go_big_quiet_skip | (go_big_quiet_want; go_big_quiet_op; (first | go_big_quiet_on | go_big_quiet_call ((with_reducible first | exact ext_call _ (DH.out _) | exact ext_call _ (DH'.out _) | exact ext_call _ (D5.out _ (bthen hb0 (Ext.h _) hb0.size)) | exact ext_call _ (D6.out _ (bthen hb0 (Ext.h _) hb0.size)) | exact ext_call _ (D7.out _ (bthen hb0 (Ext.h _) hb0.size)) | exact ext_call _ (D8.out _ (bthen hb0 (Ext.h _) hb0.size)) | exact ext_call _ (D9.out _ (bthen hb0 (Ext.h _) hb0.size)) | exact ext_call _ (D10.out _ (bthen hb0 (Ext.h _) hb0.size)))))))
  refine wpQuiet_nil ?_
  rintro _ ⟨xw, rfl⟩
  go_wp2
  go_ret
  exact ⟨rfl, bthen hb0 xw.h hb0.size⟩
end Go.Proofs.YtnelecjjbmjhaaaGreatDoor

namespace Go.Proofs.YtnelecjjbmjhaaaGreatDoor
open Go.RowKit
set_option linter.unusedSimpArgs false
set_option linter.unusedVariables false

def RetOkR (r : RuV) (s : ByteArray) (w : World) (x : Ending) (w' : World) : Prop := ∃ A n c, x = .returned (.tuple #[ruV r A n c, .int .i64 s.size, .int .i64 0]) ∧ RdRu w' A n r ∧ (∀ k, n k ≤ 64) ∧ (∀ k, (k < 5 ∨ 10 < k) → n k = 0) ∧ Below w.heap.size w w'
theorem rread_okc {s : ByteArray} {r : RuV} (hs : s.size ≤ 1000000) (h : rread s.data.toList = .ok r) (w : World) : Calls Tryz.prog 10 #[.string s] w (RetOkR r s w) := by
  refine (rread_any s hs w).mono ?_
  rintro x w' ⟨hm, hb⟩
  rw [h] at hm
  obtain ⟨A, n, c, h1, h2, h3, h4⟩ := hm
  exact ⟨A, n, c, h1, h2, h3, h4, hb⟩
theorem rread_errc {s : ByteArray} {a e : Int} (hs : s.size ≤ 1000000) (h : rread s.data.toList = .error (a, e)) (w : World) : Calls Tryz.prog 10 #[.string s] w (Ret (.tuple #[ruV ruNil (fun _ => none) (fun _ => 0) (fun _ => 0), .int .i64 a, .int .i64 e]) w) := by
  refine (rread_any s hs w).mono ?_
  rintro x w' ⟨hm, hb⟩
  rw [h] at hm
  exact ⟨hm, hb⟩
def ex33 : List UInt8 := [68, 84, 83, 84, 65, 82, 84, 58, 49, 57, 55, 48, 48, 49, 48, 53, 84, 48, 57, 48, 48, 48, 48, 90, 10, 82, 82, 85, 76, 69, 58, 70, 82, 69, 81, 61, 87, 69, 69, 75, 76, 89, 59, 66, 89, 68, 65, 89, 61, 77, 79, 44, 70, 82]
theorem ex33_read : rread ex33 = .ok ⟨378000, 4, 1, 0, -1, [], [], [(0, 1), (0, 5)], [], [], []⟩ := by kernel_rfl
theorem ruNil_rd (w : World) : RdRu w (fun _ => none) (fun _ => 0) ruNil := ⟨Rd.nil, Rd.nil, Rd.nil, Rd.nil, Rd.nil, Rd.nil⟩
end Go.Proofs.YtnelecjjbmjhaaaGreatDoor
