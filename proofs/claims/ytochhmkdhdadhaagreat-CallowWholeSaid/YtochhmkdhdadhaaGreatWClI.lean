/- The walks of package wide: May, Has. -/
import Derived.Test.YtochhmkdhdadhaaGreatWClC
import Derived.BigRegion
import Derived.ChangeKeysEq
import Derived.DeepKeys
/- The walks of package wide. -/
namespace Go.Proofs.YtochhmkdhdadhaaGreat
open Go.RowKit
set_option linter.unusedSimpArgs false
set_option linter.unusedVariables false

def fullW (i : Nat) : Int := spanM 0 (399 - (i : Int) * 64)
def wdV (g : Nat → Int) : Value := .agg #[.int .u64 (g 0), .int .u64 (g 1), .int .u64 (g 2), .int .u64 (g 3), .int .u64 (g 4), .int .u64 (g 5), .int .u64 (g 6)]
def wdG (g : Nat → Int) (k : Nat) (j : Nat) : Value := .int .u64 (if j < k then g j else 0)
theorem arr7_new (w : World) (t : TypeId) (v0 v1 v2 v3 v4 v5 v6 : Value) (g : Nat → Value) (h0 : g 0 = v0) (h1 : g 1 = v1) (h2 : g 2 = v2) (h3 : g 3 = v3) (h4 : g 4 = v4) (h5 : g 5 = v5) (h6 : g 6 = v6) : Arr (w.alloc (.cells #[v0, v1, v2, v3, v4, v5, v6] t)) w.heap.size 7 g :=
  arr_new w #[v0, v1, v2, v3, v4, v5, v6] t g (by
    intro j hj
    obtain rfl | rfl | rfl | rfl | rfl | rfl | rfl : j = 0 ∨ j = 1 ∨ j = 2 ∨ j = 3 ∨ j = 4 ∨ j = 5 ∨ j = 6 := by simp at hj; omega
    · rw [h0]; rfl
    · rw [h1]; rfl
    · rw [h2]; rfl
    · rw [h3]; rfl
    · rw [h4]; rfl
    · rw [h5]; rfl
    · rw [h6]; rfl)
theorem arr7 {w : World} {b : Nat} {g : Nat → Value} (h : Arr w b 7 g) : w.cell? ⟨b, 0, none⟩ = some (g 0) ∧ w.cell? ⟨b, 1, none⟩ = some (g 1) ∧ w.cell? ⟨b, 2, none⟩ = some (g 2) ∧ w.cell? ⟨b, 3, none⟩ = some (g 3) ∧ w.cell? ⟨b, 4, none⟩ = some (g 4) ∧ w.cell? ⟨b, 5, none⟩ = some (g 5) ∧ w.cell? ⟨b, 6, none⟩ = some (g 6) ∧ ∀ j, w.frozen? ⟨b, j, none⟩ = false :=
  ⟨h.1 0 (by decide), h.1 1 (by decide), h.1 2 (by decide), h.1 3 (by decide), h.1 4 (by decide), h.1 5 (by decide), h.1 6 (by decide), h.2⟩
theorem there_arr {w : World} {b m : Nat} {g : Nat → Value} (h : Arr w b m g) : w.there b 0 m := fun j hj => by
  rw [Nat.zero_add, h.1 j hj]
  exact ⟨rfl, h.2 j⟩
set_option maxRecDepth 20000 in
set_option maxHeartbeats 2000000 in
theorem wfull_any (w : World) : Calls Tryz.prog 50 #[] w (Ret (wdV fullW) w) := by
  have HS := Lib.hid (fun (k : Nat) (h : k < 7) W => mspan_any 0 (399 - (k : Int) * 64) (by decide) (by decide) (by omega) (by omega) W)
  have HF : Hid (∀ k, fullW k = spanM 0 (399 - (k : Int) * 64)) := fun k => rfl
  go_enter Tryz.func50, Tryz.ntmps50
  go_wp2
  have h0 := arr7_new w 35 (.int .u64 0) (.int .u64 0) (.int .u64 0) (.int .u64 0) (.int .u64 0) (.int .u64 0) (.int .u64 0) (fun _ => .int .u64 0) rfl rfl rfl rfl rfl rfl rfl
  have H0 := Lib.hid (Arr.alloc h0 (Arr.lt h0 (by decide)) (.cells #[.int .u64 0, .int .u64 0, .int .u64 0, .int .u64 0, .int .u64 0, .int .u64 0, .int .u64 0] 35))
  have H1 := Lib.hid (arr7_new (w.alloc (.cells #[.int .u64 0, .int .u64 0, .int .u64 0, .int .u64 0, .int .u64 0, .int .u64 0, .int .u64 0] 35)) 35 (.int .u64 0) (.int .u64 0) (.int .u64 0) (.int .u64 0) (.int .u64 0) (.int .u64 0) (.int .u64 0) (wdG fullW 0) rfl rfl rfl rfl rfl rfl rfl)
  go_loopw [3] (fun i wr => ∃ k : Nat, k ≤ 7 ∧ i = .int .i64 k ∧ Hid (Arr wr (w.heap.size + 1) 7 (wdG fullW k)) ∧ Hid (Arr wr w.heap.size 7 (fun _ => .int .u64 0)) ∧ Below w.heap.size w wr) (fun i _ => 7 - (intOf i).toNat)
  case atStart => exact ⟨0, by omega, rfl, by show Arr _ _ _ _; have := H1.out; simpa using this, H0.out, by (repeat' (first | (with_reducible exact Below.refl _ _) | (with_reducible assumption) | (with_reducible refine below_drewN ?_ _) | (with_reducible refine Below.alloc ?_ ?_ _) | (with_reducible refine Below.drew ?_) | (with_reducible refine Below.setCell ?_ ?_ _) | go_size))⟩
  case round =>
    clear H0 H1 h0
    obtain ⟨k, hk, rfl, HA, HR, hb⟩ := hrel
    have hsz := hb.size
    have zA := Arr.lt HA.out (by decide)
    have zR := Arr.lt HR.out (by decide)
    by_cases h7 : k < 7
    · have h7' : (k : Int) < 7 := by omega
      have hk0 : ¬ (k : Int) < 0 := by omega
      have HSk := Lib.hid (HS.out k h7)
      have ck := HA.out.1 k h7
      have fk := HA.out.2
      have HN : Hid (∀ W, Arr W (w.heap.size + 1) 7 (wdG fullW k) → Arr (W.setCell ⟨w.heap.size + 1, k, none⟩ (.int .u64 (spanM 0 (399 - (k : Int) * 64)))) (w.heap.size + 1) 7 (wdG fullW (k + 1))) := fun W h =>
        h.set k h7 _ (by unfold wdG; rw [if_pos (by omega), HF.out]) (fun j hj hn => by unfold wdG; by_cases hjk : j < k; rw [if_pos hjk, if_pos (by omega)]; rw [if_neg hjk, if_neg (by omega)])
      unfold wdG at ck
      rw [if_neg (by omega)] at ck
      generalize spanM 0 (399 - (k : Int) * 64) = M at *
      go_wp2_with fail
      refine (HSk.out _).mono ?_
      rintro e w1 ⟨rfl, rfl⟩
      go_wp2
      go_roundw
      case rel => exact ⟨k + 1, by omega, by go_num, HN.out _ HA.out, Arr.other HR.out (by omega), by (repeat' (first | (with_reducible exact Below.refl _ _) | (with_reducible assumption) | (with_reducible refine below_drewN ?_ _) | (with_reducible refine Below.alloc ?_ ?_ _) | (with_reducible refine Below.drew ?_) | (with_reducible refine Below.setCell ?_ ?_ _) | go_size))⟩
      case measure => simp [intOf]; omega
    · obtain rfl : k = 7 := by omega
      obtain ⟨a0, a1, a2, a3, a4, a5, a6, af⟩ := arr7 HA.out
      have HT := Lib.hid (there_arr HR.out)
      have e : ∀ j, j < 7 → wdG fullW 7 j = .int .u64 (fullW j) := fun j h => by unfold wdG; rw [if_pos h]
      rw [e _ (by decide)] at a0 a1 a2 a3 a4 a5 a6
      clear e HS HF
      unfold wdV
      generalize fullW = g at *
      go_wp2_with (refine wp_store_out (w := w) rfl 35 _ _ rfl #[.int .u64 (g 0), .int .u64 (g 1), .int .u64 (g 2), .int .u64 (g 3), .int .u64 (g 4), .int .u64 (g 5), .int .u64 (g 6)] rfl rfl Tryz.underlying35 rfl (by kernel_rfl) (by kernel_rfl) hb HT.out ?_; intro W' hLd hbE)
      (try simp only [Exit.inBlock, Exit.then])
      refine bodyPost_ret (v := .agg #[.int .u64 (g 0), .int .u64 (g 1), .int .u64 (g 2), .int .u64 (g 3), .int .u64 (g 4), .int .u64 (g 5), .int .u64 (g 6)]) ?_ rfl ⟨rfl, hbE⟩
      rw [results_cell1 rfl]
      exact hLd.out
end Go.Proofs.YtochhmkdhdadhaaGreat

/- The walks of package wide: within, May, Has. -/
namespace Go.Proofs.YtochhmkdhdadhaaGreat
open Go.RowKit
set_option linter.unusedSimpArgs false
set_option linter.unusedVariables false

def andW (g : Nat → Int) (i : Nat) : Int := bits .and .u64 (g i) (fullW i)
theorem wp_store_at {ops : Array Oper} {rest : List Oper} {op : Oper} {a : Act} {Q : Exit → Act → World → Prop} {w W : World} (hgd : op.guard = none) (t : TypeId) (x y : Operand) (ho : op.op = .store t x y) (cs : Array Value) {d : TypeDesc} (b : Nat) (hB : w.heap.size ≤ b)
    (hx : a.eval x = .pointer (some ⟨b, 0, none⟩)) (hy : a.eval y = .agg cs) (hu : Tryz.prog.underlying t = some d) (hd : d.isRow = true) (hi : (Tryz.prog.info? t).map (·.size) = some cs.size) (h1 : cs.all (·.oneCell') = true)
    (hb : Below w.heap.size w W) (ht : W.there b 0 cs.size)
    (h : ∀ W', Hid ((loadVar t ⟨b, 0, none⟩).run Tryz.prog W' = .ok (.agg cs) W') → Below w.heap.size w W' → wpList Tryz.prog ops Q rest (a.put op.dst undef) W') : wpList Tryz.prog ops Q (op :: rest) a W := by
  refine wpList_store_mid (P := Tryz.prog) hgd t x y ho b 0 cs hx hy ht hi h1 (h _ ?_ (below_setCells hB _ _ _ hb))
  have := run_loadVar_mid (P := Tryz.prog) (W.setCells b 0 cs.toList) b 0 t cs.toList d (World.rangeAt_setCells_same _ _ _ _ (by simpa using ht)) hu hd (by simpa using hi)
  show _ = _
  simpa using this
theorem wd_at (f : Nat → Int) (k : Nat) (hk : k < 7) (W : World) : (Instr.index 35 (.agg #[.int .u64 (f 0), .int .u64 (f 1), .int .u64 (f 2), .int .u64 (f 3), .int .u64 (f 4), .int .u64 (f 5), .int .u64 (f 6)]) (.int .i64 (k : Int))).run Tryz.prog W = .ok (.int .u64 (f k)) W := by
  obtain rfl | rfl | rfl | rfl | rfl | rfl | rfl : k = 0 ∨ k = 1 ∨ k = 2 ∨ k = 3 ∨ k = 4 ∨ k = 5 ∨ k = 6 := by omega
  all_goals kernel_rfl
/-- The words as far as k those of a, the others those of g. -/
def mixW (a g : Nat → Int) (k : Nat) (j : Nat) : Value := .int .u64 (if j < k then a j else g j)
set_option maxRecDepth 20000 in
set_option maxHeartbeats 4000000 in
theorem wwithin_any (g : Nat → Int) (w : World) : Calls Tryz.prog 58 #[wdV g] w (Ret (wdV (andW g)) w) := by
  have HF := Lib.hid (fun W => wfull_any W)
  have HG : Hid (∀ k, bits .and .u64 (g k) (fullW k) = andW g k) := fun k => rfl
  unfold wdV at *
  generalize andW g = a at *
  generalize fullW = f at *
  go_enter Tryz.func58, Tryz.ntmps58
  go_wp2_with fail
  have h0 := arr7_new w 35 (.int .u64 (g 0)) (.int .u64 (g 1)) (.int .u64 (g 2)) (.int .u64 (g 3)) (.int .u64 (g 4)) (.int .u64 (g 5)) (.int .u64 (g 6)) (mixW a g 0) rfl rfl rfl rfl rfl rfl rfl
  have h1 := arr7_new (w.alloc (.cells #[.int .u64 (g 0), .int .u64 (g 1), .int .u64 (g 2), .int .u64 (g 3), .int .u64 (g 4), .int .u64 (g 5), .int .u64 (g 6)] 35)) 35 (.int .u64 0) (.int .u64 0) (.int .u64 0) (.int .u64 0) (.int .u64 0) (.int .u64 0) (.int .u64 0) (fun _ => .int .u64 0) rfl rfl rfl rfl rfl rfl rfl
  have h0' := Arr.alloc h0 (Arr.lt h0 (by decide)) (.cells #[.int .u64 0, .int .u64 0, .int .u64 0, .int .u64 0, .int .u64 0, .int .u64 0, .int .u64 0] 35)
  have h1' : Arr ((w.alloc (.cells #[.int .u64 (g 0), .int .u64 (g 1), .int .u64 (g 2), .int .u64 (g 3), .int .u64 (g 4), .int .u64 (g 5), .int .u64 (g 6)] 35)).alloc (.cells #[.int .u64 0, .int .u64 0, .int .u64 0, .int .u64 0, .int .u64 0, .int .u64 0, .int .u64 0] 35)) (w.heap.size + 1) 7 (fun _ => .int .u64 0) := by simpa using h1
  refine (HF.out _).mono ?_
  rintro e w1 ⟨rfl, hb1⟩
  have HP0 := Lib.hid (Arr.below h0' (Arr.lt h0' (by decide)) hb1)
  have HR0 := Lib.hid (Arr.below h1' (Arr.lt h1' (by decide)) hb1)
  have hbw : Below w.heap.size w w1 := (((Below.refl _ w).alloc (Nat.le_refl _) _).alloc (by simp) _).trans (hb1.mono (by simp; omega))
  clear h0 h1 h0' h1' hb1 HF
  go_wp2
  go_loopw [6] (fun i wr => ∃ k : Nat, k ≤ 7 ∧ i = .int .i64 k ∧ Hid (Arr wr w.heap.size 7 (mixW a g k)) ∧ Hid (Arr wr (w.heap.size + 1) 7 (fun _ => .int .u64 0)) ∧ Below w.heap.size w wr) (fun i _ => 7 - (intOf i).toNat)
  case atStart => exact ⟨0, by omega, rfl, HP0.out, HR0.out, hbw⟩
  case round =>
    clear HP0 HR0 hbw
    obtain ⟨k, hk, rfl, HA, HR, hb⟩ := hrel
    have hsz := hb.size
    have zA := Arr.lt HA.out (by decide)
    have zR := Arr.lt HR.out (by decide)
    have HN : Hid (∀ k, k < 7 → ∀ W, Arr W w.heap.size 7 (mixW a g k) → Arr (W.setCell ⟨w.heap.size, k, none⟩ (.int .u64 (bits .and .u64 (g k) (f k)))) w.heap.size 7 (mixW a g (k + 1))) := fun k h7 W h =>
      h.set k h7 _ (by unfold mixW; rw [if_pos (by omega), HG.out]) (fun j hj hn => by unfold mixW; by_cases hjk : j < k; rw [if_pos hjk, if_pos (by omega)]; rw [if_neg hjk, if_neg (by omega)])
    by_cases h7 : k < 7
    · have h7' : (k : Int) < 7 := by omega
      have hk0 : ¬ (k : Int) < 0 := by omega
      have hix : ∀ W, (Instr.index 35 (.agg #[.int .u64 (f 0), .int .u64 (f 1), .int .u64 (f 2), .int .u64 (f 3), .int .u64 (f 4), .int .u64 (f 5), .int .u64 (f 6)]) (.int .i64 (k : Int))).run Tryz.prog W = .ok (.int .u64 (f k)) W := fun W => wd_at f k h7 W
      have ck : wr.cell? ⟨w.heap.size, k, none⟩ = some (.int .u64 (g k)) := by have := HA.out.1 k h7; unfold mixW at this; rw [if_neg (by omega)] at this; exact this
      have fk := HA.out.2
      go_wp2
      go_roundw
      case rel => exact ⟨k + 1, by omega, by go_num, HN.out k h7 _ HA.out, Arr.other HR.out (by omega), by (repeat' (first | (with_reducible exact Below.refl _ _) | (with_reducible assumption) | (with_reducible refine below_drewN ?_ _) | (with_reducible refine Below.alloc ?_ ?_ _) | (with_reducible refine Below.drew ?_) | (with_reducible refine Below.setCell ?_ ?_ _) | go_size))⟩
      case measure => simp [intOf]; omega
    · obtain rfl : k = 7 := by omega
      obtain ⟨a0, a1, a2, a3, a4, a5, a6, af⟩ := arr7 HA.out
      have HT := Lib.hid (there_arr HR.out)
      have e : ∀ j, j < 7 → mixW a g 7 j = .int .u64 (a j) := fun j h => by unfold mixW; rw [if_pos h]
      rw [e _ (by decide)] at a0 a1 a2 a3 a4 a5 a6
      clear e HG HN HA HR
      go_wp2_with (refine wp_store_at (w := w) rfl 35 _ _ rfl #[.int .u64 (a 0), .int .u64 (a 1), .int .u64 (a 2), .int .u64 (a 3), .int .u64 (a 4), .int .u64 (a 5), .int .u64 (a 6)] (w.heap.size + 1) (by omega) rfl rfl Tryz.underlying35 rfl (by kernel_rfl) (by kernel_rfl) hb HT.out ?_; intro W' hLd hbE)
      (try simp only [Exit.inBlock, Exit.then])
      refine bodyPost_ret (v := .agg #[.int .u64 (a 0), .int .u64 (a 1), .int .u64 (a 2), .int .u64 (a 3), .int .u64 (a 4), .int .u64 (a 5), .int .u64 (a 6)]) ?_ rfl ⟨rfl, hbE⟩
      rw [results_cell1 rfl]
      exact hLd.out
end Go.Proofs.YtochhmkdhdadhaaGreat

namespace Go.Proofs.YtochhmkdhdadhaaGreat
open Go.RowKit
set_option linter.unusedSimpArgs false
set_option linter.unusedVariables false

theorem wmay1_any (n : Int) (w : World) : Calls Tryz.prog 92 #[.int .i64 n] w (RetQ (.bool (decide (0 ≤ n ∧ n < 400))) w) := by
  obtain ⟨B, hB⟩ : ∃ B, B = decide (0 ≤ n ∧ n < 400) := ⟨_, rfl⟩
  rw [← hB]
  by_cases h0 : 0 ≤ n
  · by_cases h1 : n < 400
    · have HQ : Hid (B = true) := by show _ = _; rw [hB]; exact decide_eq_true ⟨h0, h1⟩
      clear hB
      go_enter Tryz.func92, Tryz.ntmps92
      go_wp2
      go_ret
      exact ⟨ret_bool HQ.out.symm, rfl⟩
    · have HQ : Hid (B = false) := by show _ = _; rw [hB]; exact decide_eq_false (fun h => h1 h.2)
      clear hB
      go_enter Tryz.func92, Tryz.ntmps92
      go_wp2
      go_ret
      exact ⟨ret_bool HQ.out.symm, rfl⟩
  · have HQ : Hid (B = false) := by show _ = _; rw [hB]; exact decide_eq_false (fun h => h0 h.1)
    clear hB
    go_enter Tryz.func92, Tryz.ntmps92
    go_wp2
    go_ret
    exact ⟨ret_bool HQ.out.symm, rfl⟩
/-- Has a set a number? Are two sets the same, word by word? -/
def hasW (g : Nat → Int) (n : Int) : Bool := decide (0 ≤ n ∧ n < 400) && hasM (g (n / 64).toNat) (n % 64)
def eqW (a g : Nat → Int) : Bool := (a 0 == g 0) && ((a 1 == g 1) && ((a 2 == g 2) && ((a 3 == g 3) && ((a 4 == g 4) && ((a 5 == g 5) && (a 6 == g 6))))))
theorem eql_wd (a g : Nat → Int) (w : World) : (binOp .eql 35 (.agg #[.int .u64 (a 0), .int .u64 (a 1), .int .u64 (a 2), .int .u64 (a 3), .int .u64 (a 4), .int .u64 (a 5), .int .u64 (a 6)]) (.agg #[.int .u64 (g 0), .int .u64 (g 1), .int .u64 (g 2), .int .u64 (g 3), .int .u64 (g 4), .int .u64 (g 5), .int .u64 (g 6)])).run Tryz.prog w = .ok (.bool (eqW a g)) w := by
  obtain ⟨i, hi⟩ := info_of_underlying Tryz.underlying31
  have hc : Tryz.prog.cellsOf 31 = 1 := by kernel_rfl
  have hr : List.range 7 = [0, 1, 2, 3, 4, 5, 6] := rfl
  rw [run_eql_struct, run_equalIn_array w 9999 _ _ Tryz.underlying35 hi, hc, hr]
  unfold eqW
  by_cases h0 : a 0 = g 0
  case neg => simp [Op.eqItems, go_sem, h0]
  by_cases h1 : a 1 = g 1
  case neg => simp [Op.eqItems, go_sem, h0, h1]
  by_cases h2 : a 2 = g 2
  case neg => simp [Op.eqItems, go_sem, h0, h1, h2]
  by_cases h3 : a 3 = g 3
  case neg => simp [Op.eqItems, go_sem, h0, h1, h2, h3]
  by_cases h4 : a 4 = g 4
  case neg => simp [Op.eqItems, go_sem, h0, h1, h2, h3, h4]
  by_cases h5 : a 5 = g 5
  case neg => simp [Op.eqItems, go_sem, h0, h1, h2, h3, h4, h5]
  by_cases h6 : a 6 = g 6
  case neg => simp [Op.eqItems, go_sem, h0, h1, h2, h3, h4, h5, h6]
  simp [Op.eqItems, go_sem, h0, h1, h2, h3, h4, h5, h6]
set_option maxHeartbeats 1000000 in
theorem wmayW_any (g : Nat → Int) (w : World) : Calls Tryz.prog 33 #[wdV g] w (Ret (.bool (eqW (andW g) g)) w) := by
  have HF := Lib.hid (fun W => wwithin_any g W)
  have hq := fun W => eql_wd (andW g) g W
  unfold wdV at *
  generalize eqW (andW g) g = q at *
  generalize andW g = a at *
  go_enter Tryz.func33, Tryz.ntmps33
  go_wp2_with fail
  generalize hW1 : World.alloc w _ = W1
  have hb1 : Below w.heap.size w W1 := by rw [← hW1]; exact (Below.refl _ _).alloc (Nat.le_refl _) _
  have s0 : W1.cell? ⟨w.heap.size, 0, none⟩ = some (.int .u64 (g 0)) := by rw [← hW1]; exact cell_new rfl rfl
  have s1 : W1.cell? ⟨w.heap.size, 1, none⟩ = some (.int .u64 (g 1)) := by rw [← hW1]; exact cell_new rfl rfl
  have s2 : W1.cell? ⟨w.heap.size, 2, none⟩ = some (.int .u64 (g 2)) := by rw [← hW1]; exact cell_new rfl rfl
  have s3 : W1.cell? ⟨w.heap.size, 3, none⟩ = some (.int .u64 (g 3)) := by rw [← hW1]; exact cell_new rfl rfl
  have s4 : W1.cell? ⟨w.heap.size, 4, none⟩ = some (.int .u64 (g 4)) := by rw [← hW1]; exact cell_new rfl rfl
  have s5 : W1.cell? ⟨w.heap.size, 5, none⟩ = some (.int .u64 (g 5)) := by rw [← hW1]; exact cell_new rfl rfl
  have s6 : W1.cell? ⟨w.heap.size, 6, none⟩ = some (.int .u64 (g 6)) := by rw [← hW1]; exact cell_new rfl rfl
  clear hW1
  have h0' : ∀ y : Ext W1, y.W.cell? ⟨w.heap.size, 0, none⟩ = some (.int .u64 (g 0)) := fun y => y.cell s0
  have h1' : ∀ y : Ext W1, y.W.cell? ⟨w.heap.size, 1, none⟩ = some (.int .u64 (g 1)) := fun y => y.cell s1
  have h2' : ∀ y : Ext W1, y.W.cell? ⟨w.heap.size, 2, none⟩ = some (.int .u64 (g 2)) := fun y => y.cell s2
  have h3' : ∀ y : Ext W1, y.W.cell? ⟨w.heap.size, 3, none⟩ = some (.int .u64 (g 3)) := fun y => y.cell s3
  have h4' : ∀ y : Ext W1, y.W.cell? ⟨w.heap.size, 4, none⟩ = some (.int .u64 (g 4)) := fun y => y.cell s4
  have h5' : ∀ y : Ext W1, y.W.cell? ⟨w.heap.size, 5, none⟩ = some (.int .u64 (g 5)) := fun y => y.cell s5
  have h6' : ∀ y : Ext W1, y.W.cell? ⟨w.heap.size, 6, none⟩ = some (.int .u64 (g 6)) := fun y => y.cell s6
  clear s0 s1 s2 s3 s4 s5 s6
  refine wp_region_grew (by kernel_rfl) (by kernel_rfl) ?_
  repeat (first | go_big_quiet_skip | (go_big_quiet_want; go_big_quiet_op; (first | go_big_quiet_on | go_big_quiet_call ((with_reducible first | exact ext_call _ (HF.out _))))))
  refine wpQuiet_nil ?_
  rintro _ ⟨xw, rfl⟩
  have hbx := bthen hb1 (Ext.h xw) hb1.size
  go_wp2
  go_ret
  exact ⟨rfl, hbx⟩
set_option maxHeartbeats 1000000 in
theorem whasW_any (g : Nat → Int) (hg : ∀ k, k < 7 → M64 (g k)) (n : Int) (w : World) : Calls Tryz.prog 136 #[wdV g, .int .i64 n] w (Ret (.bool (hasW g n)) w) := by
  have HM := Lib.hid (fun W => wmay1_any n W)
  unfold wdV
  by_cases hn : 0 ≤ n ∧ n < 400
  · obtain ⟨h0, h1⟩ := hn
    obtain ⟨k, hk⟩ := Int.eq_ofNat_of_zero_le (show 0 ≤ n / 64 by omega)
    have h7 : k < 7 := by omega
    have hgk := hg k h7
    have HH := Lib.hid (fun W => mhas_any (g k) (n % 64) hgk.1 hgk.2 W)
    have HR : Hid (hasW g n = hasM (g k) (n % 64)) := by show _ = _; unfold hasW; rw [decide_eq_true ⟨h0, h1⟩, hk]; simp
    have E1 : Int.tdiv n 64 = (k : Int) := by rw [Int.tdiv_eq_ediv_of_nonneg h0, hk]
    have E2 : Int.tmod n 64 = n % 64 := Int.tmod_eq_emod_of_nonneg h0
    rw [HR.out]
    rw [decide_eq_true ⟨h0, h1⟩] at HM
    have h7' : (k : Int) < 7 := by omega
    have hk0 : ¬ (k : Int) < 0 := by omega
    clear HR hg hgk hk
    generalize hasM (g k) (n % 64) = q at *
    have hr0 : 0 ≤ n % 64 := by omega
    have hr1 : n % 64 < 64 := by omega
    generalize n % 64 = r at *
    go_enter Tryz.func136, Tryz.ntmps136
    go_wp2_with fail
    have hA := arr7_new w 35 (.int .u64 (g 0)) (.int .u64 (g 1)) (.int .u64 (g 2)) (.int .u64 (g 3)) (.int .u64 (g 4)) (.int .u64 (g 5)) (.int .u64 (g 6)) (fun j => .int .u64 (g j)) rfl rfl rfl rfl rfl rfl rfl
    generalize hW1 : World.alloc w _ = W1 at *
    have hb1 : Below w.heap.size w W1 := by rw [← hW1]; exact (Below.refl _ _).alloc (Nat.le_refl _) _
    have ck := hA.1 k h7
    have hz := hb1.size
    clear hW1 hA
    refine (HM.out _).mono ?_
    rintro e w1 ⟨rfl, rfl⟩
    go_wp2_with fail
    refine (HH.out _).mono ?_
    rintro e w2 ⟨rfl, rfl⟩
    go_wp2
    go_ret
    exact ⟨rfl, hb1⟩
  · have HR : Hid (hasW g n = false) := by show _ = _; unfold hasW; rw [decide_eq_false hn]; rfl
    rw [HR.out]
    rw [decide_eq_false hn] at HM
    clear HR hn hg
    go_enter Tryz.func136, Tryz.ntmps136
    go_wp2_with fail
    refine (HM.out _).mono ?_
    rintro e w1 ⟨rfl, rfl⟩
    go_wp2
    go_ret
    exact ⟨rfl, by (repeat' (first | (with_reducible exact Below.refl _ _) | (with_reducible assumption) | (with_reducible refine below_drewN ?_ _) | (with_reducible refine Below.alloc ?_ ?_ _) | (with_reducible refine Below.drew ?_) | (with_reducible refine Below.setCell ?_ ?_ _) | go_size))⟩
end Go.Proofs.YtochhmkdhdadhaaGreat
