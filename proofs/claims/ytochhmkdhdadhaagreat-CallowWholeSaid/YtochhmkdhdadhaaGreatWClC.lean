/- The walks of clauses' small parts: seconds of the day, ordinals, shapes of days. -/
import Derived.Test.YtochhmkdhdadhaaGreatWItemOf
import Derived.Test.YtochhmkdhdadhaaGreatWMoA
import Derived.Laws.ShiftsVarLaws
import Derived.Test.YtochhmkdhdadhaaGreatRCiv2
import Derived.Test.YtochhmkdhdadhaaGreatWBox
import Derived.Deep.MidRow
/- The walks of clauses' small parts: masks. -/
namespace Go.Proofs.YtochhmkdhdadhaaGreat
open Go.RowKit
set_option linter.unusedSimpArgs false
set_option linter.unusedVariables false

/-- Has a mask a number? -/
def hasM (m n : Int) : Bool := decide (0 ≤ n ∧ n < 64 ∧ m / 2 ^ n.toNat % 2 = 1)
theorem and_one' {M : Int} (h0 : 0 ≤ M) (h1 : M < 18446744073709551616) : bits .and .u64 M 1 = M % 2 := by
  rw [u64_and M 1 h0 h1 (by decide) (by decide)]
  have : M.toNat &&& (1 : Int).toNat = M.toNat % 2 := Nat.and_one_is_mod _
  rw [this]
  omega
set_option maxHeartbeats 400000 in
theorem mhas_any (m n : Int) (h0 : 0 ≤ m) (h1 : m < 18446744073709551616) (w : World) : Calls Tryz.prog 96 #[.int .u64 m, .int .i64 n] w (RetQ (.bool (hasM m n)) w) := by
  by_cases hn : 0 ≤ n
  · by_cases hn1 : n < 64
    · obtain ⟨k, rfl⟩ := Int.eq_ofNat_of_zero_le hn
      have hp : (0 : Int) < 2 ^ k := by
        have e : (2 : Int) ^ k = ((2 ^ k : Nat) : Int) := by simp
        have := Nat.two_pow_pos k
        omega
      have hq0 : 0 ≤ m / 2 ^ k := Int.ediv_nonneg h0 (by omega)
      have hq1 : m / 2 ^ k < 18446744073709551616 := Int.lt_of_le_of_lt (Int.ediv_le_self _ h0) h1
      have he := and_one' hq0 hq1
      have HQ : Hid (hasM m (k : Int) = (m / 2 ^ k % 2 == 1)) := by
        show _ = _
        unfold hasM
        rw [Bool.eq_iff_iff, decide_eq_true_eq, beq_iff_eq]
        exact ⟨fun h => h.2.2, fun h => ⟨by omega, hn1, h⟩⟩
      clear hp
      go_enter Tryz.func96, Tryz.ntmps96
      go_wp2
      go_ret
      exact ⟨ret_bool HQ.out.symm, rfl⟩
    · have HQ : Hid (hasM m n = false) := decide_eq_false (fun h => hn1 h.2.1)
      go_enter Tryz.func96, Tryz.ntmps96
      go_wp2
      go_ret
      exact ⟨ret_bool HQ.out.symm, rfl⟩
  · have HQ : Hid (hasM m n = false) := decide_eq_false (fun h => hn h.1)
    go_enter Tryz.func96, Tryz.ntmps96
    go_wp2
    go_ret
    exact ⟨ret_bool HQ.out.symm, rfl⟩
def seqL (a : Int) (k : Nat) : List Int := (List.range k).map fun (j : Nat) => a + (j : Int)
theorem seqL_succ (a : Int) (k : Nat) : seqL a (k + 1) = seqL a k ++ [a + (k : Int)] := by
  unfold seqL; rw [List.range_succ, List.map_append]; rfl
theorem mem_seqL {a x : Int} {k : Nat} : x ∈ seqL a k ↔ a ≤ x ∧ x < a + (k : Int) := by
  unfold seqL
  rw [List.mem_map]
  constructor
  · rintro ⟨j, hj, rfl⟩
    have := List.mem_range.1 hj
    omega
  · intro h
    exact ⟨(x - a).toNat, List.mem_range.2 (by omega), by omega⟩
/-- The mask of the numbers from one to another. -/
def spanM (a b : Int) : Int := maskL (seqL a (b + 1 - a).toNat)
theorem spanM_cut (a b : Int) (h : 63 < b) : spanM a b = spanM a 63 := maskL_ext fun i hi => by rw [mem_seqL, mem_seqL]; omega
set_option maxHeartbeats 1000000 in
theorem mspan_any (a b : Int) (h0 : 0 ≤ a) (h1 : a ≤ 64) (hb : b ≤ 1000000) (hb0 : -1000000 ≤ b) (w : World) : Calls Tryz.prog 48 #[.int .i64 a, .int .i64 b, .int .i64 1] w (RetQ (.int .u64 (spanM a b)) w) := by
  have ha : ¬ a < 0 := by omega
  go_enter Tryz.func48, Tryz.ntmps48
  go_wp2
  go_loopw [7, 8] (fun m i wr => ∃ k : Nat, i = .int .i64 (a + (k : Int)) ∧ Hid (m = .int .u64 (maskL (seqL a k))) ∧ (k = 0 ∨ a + (k : Int) ≤ 64 ∧ a + (k : Int) ≤ b + 1) ∧ wr = w) (fun _ i _ => (64 - intOf i).toNat)
  case atStart => exact ⟨0, by simp, by show _ = _; rw [show seqL a 0 = [] from rfl, maskL_nil], .inl rfl, rfl⟩
  case round =>
    obtain ⟨k, rfl, HM, hk, rfl⟩ := hrel
    obtain rfl := HM.out
    clear HM
    have hn0 : 0 ≤ a + (k : Int) := by omega
    have hn1 : a + (k : Int) ≤ 64 := by omega
    by_cases h64 : a + (k : Int) < 64
    · by_cases hle : a + (k : Int) ≤ b
      · have HP : Hid (bits .or .u64 (maskL (seqL a k)) (IntKind.u64.wrap (2 ^ (a + (k : Int)).toNat)) = maskL (seqL a (k + 1))) := by
          show _ = _
          rw [seqL_succ]; exact maskL_put' hn0 h64
        generalize hn : a + (k : Int) = n at *
        have HN : Hid (n = a + (k : Int)) := hn.symm
        clear hn hk
        go_wp2
        go_roundw
        case rel => exact ⟨k + 1, by rw [HN.out]; push_cast; go_num, by show _ = _; rw [HP.out], .inr (by have := HN.out; push_cast; omega), by trivial⟩
        case measure => simp [intOf]; omega
      · have HE : Hid (spanM a b = maskL (seqL a k)) := maskL_ext fun i hi => by rw [mem_seqL, mem_seqL]; omega
        generalize maskL (seqL a k) = M at *
        generalize a + (k : Int) = n at *
        clear hk
        go_wp2
        go_ret
        exact ⟨by rw [HE.out]; rfl, rfl⟩
    · have HE : Hid (spanM a b = maskL (seqL a k)) := maskL_ext fun i hi => by rw [mem_seqL, mem_seqL]; omega
      generalize maskL (seqL a k) = M at *
      generalize a + (k : Int) = n at *
      clear hk
      go_wp2
      go_ret
      exact ⟨by rw [HE.out]; rfl, rfl⟩
end Go.Proofs.YtochhmkdhdadhaaGreat

/- The walks of clauses' small parts: weeks, units, spans. -/
namespace Go.Proofs.YtochhmkdhdadhaaGreat
open Go.RowKit
set_option linter.unusedSimpArgs false
set_option linter.unusedVariables false

/-- A day's weekday; its week's number. -/
def wdD (n : Int) : Int := (n % 7 + 3) % 7 + 1
def wkD (n : Int) : Int := n / 7 + if 4 ≤ n % 7 then 1 else 0
def in1D (at' len : Int) : Int := if at' < 1 ∨ len < at' then 0 else (at' - 1) / 7 + 1
def in2D (at' len : Int) : Int := if at' < 1 ∨ len < at' then 0 else (len - at') / 7 + 1
set_option maxHeartbeats 400000 in
theorem wday_any (n : Int) (h : 0 ≤ n) (h1 : n ≤ 1000000) (w : World) : Calls Tryz.prog 131 #[.int .i64 n] w (RetQ (.int .i64 (wdD n)) w) := by
  have H1 := Lib.hid (fun W => mod_pos n 7 h (by omega) (by decide) (by decide) W)
  have H2 := Lib.hid (fun W => mod_pos (n % 7 + 3) 7 (by omega) (by omega) (by decide) (by decide) W)
  have HR : Hid (wdD n = (n % 7 + 3) % 7 + 1) := rfl
  have hb : 0 ≤ n % 7 ∧ n % 7 < 7 := by omega
  have hc : 0 ≤ (n % 7 + 3) % 7 ∧ (n % 7 + 3) % 7 < 7 := by omega
  rw [HR.out]
  clear HR
  generalize (n % 7 + 3) % 7 = q at *
  generalize n % 7 = r at *
  obtain ⟨b0, b1⟩ := hb
  obtain ⟨c0, c1⟩ := hc
  go_enter Tryz.func131, Tryz.ntmps131
  go_wp2_with fail
  refine (H1.out _).mono ?_
  rintro e w1 ⟨rfl, rfl⟩
  go_wp2_with fail
  refine (H2.out _).mono ?_
  rintro e w1 ⟨rfl, rfl⟩
  go_wp2
  go_ret
  exact ⟨rfl, rfl⟩
set_option maxHeartbeats 400000 in
theorem wnumber_any (n : Int) (h : 0 ≤ n) (h1 : n ≤ 1000000) (w : World) : Calls Tryz.prog 166 #[.int .i64 n] w (RetQ (.int .i64 (wkD n)) w) := by
  have H1 := Lib.hid (fun W => floor_pos n 7 h (by omega) (by decide) (by decide) W)
  have H2 := Lib.hid (fun W => mod_pos n 7 h (by omega) (by decide) (by decide) W)
  have hq : 0 ≤ n / 7 ∧ n / 7 ≤ 1000000 := by omega
  by_cases h4 : 4 ≤ n % 7
  · have HR : Hid (wkD n = n / 7 + 1) := by show _ = _; unfold wkD; rw [if_pos h4]
    rw [HR.out]
    clear HR
    generalize n / 7 = q at *
    generalize n % 7 = r at *
    obtain ⟨b0, b1⟩ := hq
    go_enter Tryz.func166, Tryz.ntmps166
    go_wp2_with fail
    refine (H1.out _).mono ?_
    rintro e w1 ⟨rfl, rfl⟩
    go_wp2_with fail
    refine (H2.out _).mono ?_
    rintro e w1 ⟨rfl, rfl⟩
    go_wp2
    go_ret
    exact ⟨rfl, rfl⟩
  · have HR : Hid (wkD n = n / 7) := by show _ = _; unfold wkD; rw [if_neg h4]; omega
    rw [HR.out]
    clear HR
    generalize n / 7 = q at *
    generalize n % 7 = r at *
    obtain ⟨b0, b1⟩ := hq
    go_enter Tryz.func166, Tryz.ntmps166
    go_wp2_with fail
    refine (H1.out _).mono ?_
    rintro e w1 ⟨rfl, rfl⟩
    go_wp2_with fail
    refine (H2.out _).mono ?_
    rintro e w1 ⟨rfl, rfl⟩
    go_wp2
    go_ret
    exact ⟨rfl, rfl⟩
set_option maxHeartbeats 400000 in
theorem wwhich_any (a l : Int) (ha : -1000000 ≤ a) (ha1 : a ≤ 1000000) (hl : -1000000 ≤ l) (hl1 : l ≤ 1000000) (w : World) : Calls Tryz.prog 132 #[.int .i64 a, .int .i64 l] w (RetQ (.tuple #[.int .i64 (in1D a l), .int .i64 (in2D a l)]) w) := by
  by_cases h1 : a < 1
  · have HR : Hid (in1D a l = 0 ∧ in2D a l = 0) := ⟨if_pos (.inl h1), if_pos (.inl h1)⟩
    go_enter Tryz.func132, Tryz.ntmps132
    go_wp2
    (try simp only [Exit.inBlock, Exit.then])
    refine bodyPost_ret (results_tmp2 rfl _ _ _) rfl ?_
    exact ⟨by rw [HR.out.1, HR.out.2]; rfl, rfl⟩
  · by_cases h2 : l < a
    · have HR : Hid (in1D a l = 0 ∧ in2D a l = 0) := ⟨if_pos (.inr h2), if_pos (.inr h2)⟩
      go_enter Tryz.func132, Tryz.ntmps132
      go_wp2
      (try simp only [Exit.inBlock, Exit.then])
      refine bodyPost_ret (results_tmp2 rfl _ _ _) rfl ?_
      exact ⟨by rw [HR.out.1, HR.out.2]; rfl, rfl⟩
    · have HR : Hid (in1D a l = (a - 1) / 7 + 1 ∧ in2D a l = (l - a) / 7 + 1) := ⟨if_neg (by omega), if_neg (by omega)⟩
      have hx : 0 ≤ a - 1 := by omega
      have hy : 0 ≤ l - a := by omega
      have E1 : Int.tdiv (a - 1) 7 = (a - 1) / 7 := Int.tdiv_eq_ediv_of_nonneg hx
      have E2 : Int.tdiv (l - a) 7 = (l - a) / 7 := Int.tdiv_eq_ediv_of_nonneg hy
      have hb1 : 0 ≤ (a - 1) / 7 ∧ (a - 1) / 7 ≤ 1000000 := by omega
      have hb2 : 0 ≤ (l - a) / 7 ∧ (l - a) / 7 ≤ 1000000 := by omega
      obtain ⟨b0, b1⟩ := hb1
      obtain ⟨c0, c1⟩ := hb2
      go_enter Tryz.func132, Tryz.ntmps132
      go_wp2
      (try simp only [Exit.inBlock, Exit.then])
      refine bodyPost_ret (results_tmp2 rfl _ _ _) rfl ?_
      exact ⟨by rw [HR.out.1, HR.out.2]; rfl, rfl⟩
/-- A span within the window. -/
def heldF (f u : Int) : Int := if (if 12622780799 < u then 12622780799 else u) < (if f < 0 then 0 else f) then 0 else (if f < 0 then 0 else f)
def heldU (f u : Int) : Int := if (if 12622780799 < u then 12622780799 else u) < (if f < 0 then 0 else f) then -1 else (if 12622780799 < u then 12622780799 else u)
theorem held_in {f u t : Int} : (heldF f u ≤ t ∧ t ≤ heldU f u) ↔ (f ≤ t ∧ t ≤ u ∧ 0 ≤ t ∧ t ≤ 12622780799) := by
  unfold heldF heldU
  (repeat' split) <;> omega
set_option maxHeartbeats 400000 in
theorem sheld_any (f u : Int) (w : World) : Calls Tryz.prog 94 #[.agg #[.int .i64 f, .int .i64 u]] w (Ret (.agg #[.int .i64 (heldF f u), .int .i64 (heldU f u)]) w) := by
  go_enter Tryz.func94, Tryz.ntmps94
  go_wp2
  all_goals (
    (try simp only [Exit.inBlock, Exit.then])
    refine bodyPost_ret (v := .agg #[.int .i64 (heldF f u), .int .i64 (heldU f u)]) ?_ rfl ⟨rfl, by (repeat' (first | (with_reducible exact Below.refl _ _) | (with_reducible assumption) | (with_reducible refine below_drewN ?_ _) | (with_reducible refine Below.alloc ?_ ?_ _) | (with_reducible refine Below.drew ?_) | (with_reducible refine Below.setCell ?_ ?_ _) | go_size))⟩
    rw [results_cell1 rfl]
    unfold heldF heldU
    go_simp
    all_goals (try ((repeat' split) <;> omega)))
set_option maxHeartbeats 400000 in
theorem sin_any (f u t : Int) (w : World) : Calls Tryz.prog 63 #[.agg #[.int .i64 f, .int .i64 u], .int .i64 t] w (Ret (.bool (decide (heldF f u ≤ t ∧ t ≤ heldU f u))) w) := by
  have HH := Lib.hid (fun W => sheld_any f u W)
  generalize heldF f u = F at *
  generalize heldU f u = U at *
  by_cases h1 : F ≤ t
  · by_cases h2 : t ≤ U
    · have HR : Hid (decide (F ≤ t ∧ t ≤ U) = true) := decide_eq_true ⟨h1, h2⟩
      rw [HR.out]
      go_enter Tryz.func63, Tryz.ntmps63
      go_wp2_with fail
      refine (HH.out _).mono ?_
      rintro e w1 ⟨rfl, hb1⟩
      obtain ⟨hc, hf⟩ := bcell hb1
      have hz1 : w.heap.size < w1.heap.size := by have := hb1.size; simp at this; omega
      have hbw : Below w.heap.size w w1 := ((Below.refl _ w).alloc (Nat.le_refl _) _).trans (hb1.mono (by simp))
      have c0 : w1.cell? ⟨w.heap.size, 0, none⟩ = some (.int .i64 f) := by rw [hc _ _ (by simp)]; exact cell_new rfl rfl
      have c1 : w1.cell? ⟨w.heap.size, 1, none⟩ = some (.int .i64 u) := by rw [hc _ _ (by simp)]; exact cell_new rfl rfl
      have f0 : ∀ j, w1.frozen? ⟨w.heap.size, j, none⟩ = false := fun j => by rw [hf _ _ (by simp)]; go_simp
      clear hb1 hc hf
      go_wp2
      go_ret
      refine ⟨ret_bool ?_, by (repeat' (first | (with_reducible exact Below.refl _ _) | (with_reducible assumption) | (with_reducible refine below_drewN ?_ _) | (with_reducible refine Below.alloc ?_ ?_ _) | (with_reducible refine Below.drew ?_) | (with_reducible refine Below.setCell ?_ ?_ _) | go_size))⟩
      first | rfl | (simp; omega)
    · have HR : Hid (decide (F ≤ t ∧ t ≤ U) = false) := decide_eq_false (fun h => h2 h.2)
      rw [HR.out]
      go_enter Tryz.func63, Tryz.ntmps63
      go_wp2_with fail
      refine (HH.out _).mono ?_
      rintro e w1 ⟨rfl, hb1⟩
      obtain ⟨hc, hf⟩ := bcell hb1
      have hz1 : w.heap.size < w1.heap.size := by have := hb1.size; simp at this; omega
      have hbw : Below w.heap.size w w1 := ((Below.refl _ w).alloc (Nat.le_refl _) _).trans (hb1.mono (by simp))
      have c0 : w1.cell? ⟨w.heap.size, 0, none⟩ = some (.int .i64 f) := by rw [hc _ _ (by simp)]; exact cell_new rfl rfl
      have c1 : w1.cell? ⟨w.heap.size, 1, none⟩ = some (.int .i64 u) := by rw [hc _ _ (by simp)]; exact cell_new rfl rfl
      have f0 : ∀ j, w1.frozen? ⟨w.heap.size, j, none⟩ = false := fun j => by rw [hf _ _ (by simp)]; go_simp
      clear hb1 hc hf
      go_wp2
      go_ret
      refine ⟨ret_bool ?_, by (repeat' (first | (with_reducible exact Below.refl _ _) | (with_reducible assumption) | (with_reducible refine below_drewN ?_ _) | (with_reducible refine Below.alloc ?_ ?_ _) | (with_reducible refine Below.drew ?_) | (with_reducible refine Below.setCell ?_ ?_ _) | go_size))⟩
      first | rfl | (simp; omega)
  · have HR : Hid (decide (F ≤ t ∧ t ≤ U) = false) := decide_eq_false (fun h => h1 h.1)
    rw [HR.out]
    go_enter Tryz.func63, Tryz.ntmps63
    go_wp2_with fail
    refine (HH.out _).mono ?_
    rintro e w1 ⟨rfl, hb1⟩
    obtain ⟨hc, hf⟩ := bcell hb1
    have hz1 : w.heap.size < w1.heap.size := by have := hb1.size; simp at this; omega
    have hbw : Below w.heap.size w w1 := ((Below.refl _ w).alloc (Nat.le_refl _) _).trans (hb1.mono (by simp))
    have c0 : w1.cell? ⟨w.heap.size, 0, none⟩ = some (.int .i64 f) := by rw [hc _ _ (by simp)]; exact cell_new rfl rfl
    have c1 : w1.cell? ⟨w.heap.size, 1, none⟩ = some (.int .i64 u) := by rw [hc _ _ (by simp)]; exact cell_new rfl rfl
    have f0 : ∀ j, w1.frozen? ⟨w.heap.size, j, none⟩ = false := fun j => by rw [hf _ _ (by simp)]; go_simp
    clear hb1 hc hf
    go_wp2
    go_ret
    refine ⟨ret_bool ?_, by (repeat' (first | (with_reducible exact Below.refl _ _) | (with_reducible assumption) | (with_reducible refine below_drewN ?_ _) | (with_reducible refine Below.alloc ?_ ?_ _) | (with_reducible refine Below.drew ?_) | (with_reducible refine Below.setCell ?_ ?_ _) | go_size))⟩
    first | rfl | (simp; omega)
set_option maxHeartbeats 400000 in
theorem swhole_any (w : World) : Calls Tryz.prog 49 #[] w (Ret (.agg #[.int .i64 0, .int .i64 12622780799]) w) := by
  go_enter Tryz.func49, Tryz.ntmps49
  go_wp2
  (try simp only [Exit.inBlock, Exit.then])
  refine bodyPost_ret (v := .agg #[.int .i64 0, .int .i64 12622780799]) ?_ rfl ⟨rfl, by (repeat' (first | (with_reducible exact Below.refl _ _) | (with_reducible assumption) | (with_reducible refine below_drewN ?_ _) | (with_reducible refine Below.alloc ?_ ?_ _) | (with_reducible refine Below.drew ?_) | (with_reducible refine Below.setCell ?_ ?_ _) | go_size))⟩
  rw [results_cell1 rfl]
  go_simp
end Go.Proofs.YtochhmkdhdadhaaGreat

namespace Go.Proofs.YtochhmkdhdadhaaGreat
open Go.RowKit
set_option linter.unusedSimpArgs false
set_option linter.unusedVariables false

theorem results_cell_b {fn : Func} {p t : Tmp} {ty : TypeId} (h : fn.results = #[.cell p ty, .tmp t]) (tmps : Array Value) (P : Program) (w : World) :
    (results fn tmps).run P w = ((asAddr (tmps.getD p undef)).run P w).andThen fun a w₁ => ((loadVar ty a).run P w₁).andThen fun v w₂ => .ok (.tuple #[v, tmps.getD t undef]) w₂ := by
  simp only [results, h]
  simp [Sem.run_bind, Result.andThen]
theorem below_setCells {B b : Nat} (hB : B ≤ b) {w0 : World} : ∀ (vs : List Value) (o : Nat) (w : World), Below B w0 w → Below B w0 (w.setCells b o vs)
  | [], _, _, h => h
  | v :: vs, o, w, h => below_setCells hB vs (o + 1) (w.setCell ⟨b, o, none⟩ v) (h.setCell hB _)
theorem there_below {w w' : World} {b o n : Nat} (h : w.there b o n) (hb : b < w.heap.size) (hw : Below w.heap.size w w') : w'.there b o n := fun j hj => by
  obtain ⟨hc, hf⟩ := bcell hw
  rw [hc _ _ hb, hf _ _ hb]
  exact h j hj
theorem there_new (w : World) (C : Array Value) (t : TypeId) : (w.alloc (.cells C t)).there w.heap.size 0 C.size := fun j hj => by
  rw [Nat.zero_add]
  refine ⟨?_, by go_simp⟩
  rw [cell_new rfl (Array.getElem?_eq_getElem hj)]
  rfl
theorem wp_store_out {ops : Array Oper} {rest : List Oper} {op : Oper} {a : Act} {Q : Exit → Act → World → Prop} {w W : World} (hgd : op.guard = none) (t : TypeId) (x y : Operand) (ho : op.op = .store t x y) (cs : Array Value) {d : TypeDesc}
    (hx : a.eval x = .pointer (some ⟨w.heap.size, 0, none⟩)) (hy : a.eval y = .agg cs) (hu : Tryz.prog.underlying t = some d) (hd : d.isRow = true) (hi : (Tryz.prog.info? t).map (·.size) = some cs.size) (h1 : cs.all (·.oneCell') = true)
    (hb : Below w.heap.size w W) (ht : W.there w.heap.size 0 cs.size)
    (h : ∀ W', Hid ((loadVar t ⟨w.heap.size, 0, none⟩).run Tryz.prog W' = .ok (.agg cs) W') → Below w.heap.size w W' → wpList Tryz.prog ops Q rest (a.put op.dst undef) W') : wpList Tryz.prog ops Q (op :: rest) a W := by
  refine wpList_store_mid (P := Tryz.prog) hgd t x y ho w.heap.size 0 cs hx hy ht hi h1 (h _ ?_ (below_setCells (Nat.le_refl _) _ _ _ hb))
  have := run_loadVar_mid (P := Tryz.prog) (W.setCells w.heap.size 0 cs.toList) w.heap.size 0 t cs.toList d (World.rangeAt_setCells_same _ _ _ _ (by simpa using ht)) hu hd (by simpa using hi)
  show _ = _
  simpa using this
def todIn (s h m c : Int) : Bool := hasM h (s / 3600) && (hasM m (s / 60 % 60) && hasM c (s % 60))
def M64 (m : Int) : Prop := 0 ≤ m ∧ m < 18446744073709551616
set_option maxHeartbeats 400000 in
theorem tin_any (s h m c : Int) (hs0 : 0 ≤ s) (hs1 : s < 86400) (hh : M64 h) (hm : M64 m) (hc : M64 c) (w : World) : Calls Tryz.prog 65 #[.int .i64 s, .int .u64 h, .int .u64 m, .int .u64 c] w (RetQ (.bool (todIn s h m c)) w) := by
  have H0 := Lib.hid (fun W => parts_any s hs0 hs1 W)
  have H1 := Lib.hid (fun W => mhas_any h (s / 3600) hh.1 hh.2 W)
  have H2 := Lib.hid (fun W => mhas_any m (s / 60 % 60) hm.1 hm.2 W)
  have H3 := Lib.hid (fun W => mhas_any c (s % 60) hc.1 hc.2 W)
  unfold todIn
  generalize s / 3600 = x1 at *
  generalize s / 60 % 60 = x2 at *
  generalize s % 60 = x3 at *
  clear hs0 hs1 hh hm hc
  cases b1 : hasM h x1 with
  | false =>
    rw [b1] at H1
    clear b1
    go_enter Tryz.func65, Tryz.ntmps65
    go_wp2_with fail
    refine (H0.out _).mono ?_
    rintro e w1 ⟨rfl, rfl⟩
    go_wp2_with fail
    refine (H1.out _).mono ?_
    rintro e w1 ⟨rfl, rfl⟩
    go_wp2
    go_ret
    exact ⟨rfl, rfl⟩
  | true =>
    rw [b1] at H1
    clear b1
    cases b2 : hasM m x2 with
    | false =>
      rw [b2] at H2
      clear b2
      go_enter Tryz.func65, Tryz.ntmps65
      go_wp2_with fail
      refine (H0.out _).mono ?_
      rintro e w1 ⟨rfl, rfl⟩
      go_wp2_with fail
      refine (H1.out _).mono ?_
      rintro e w1 ⟨rfl, rfl⟩
      go_wp2_with fail
      refine (H2.out _).mono ?_
      rintro e w1 ⟨rfl, rfl⟩
      go_wp2
      go_ret
      exact ⟨rfl, rfl⟩
    | true =>
      rw [b2] at H2
      clear b2
      generalize hasM c x3 = q at *
      go_enter Tryz.func65, Tryz.ntmps65
      go_wp2_with fail
      refine (H0.out _).mono ?_
      rintro e w1 ⟨rfl, rfl⟩
      go_wp2_with fail
      refine (H1.out _).mono ?_
      rintro e w1 ⟨rfl, rfl⟩
      go_wp2_with fail
      refine (H2.out _).mono ?_
      rintro e w1 ⟨rfl, rfl⟩
      go_wp2_with fail
      refine (H3.out _).mono ?_
      rintro e w1 ⟨rfl, rfl⟩
      go_wp2
      go_ret
      exact ⟨ret_bool (by simp), rfl⟩
set_option maxHeartbeats 1000000 in
theorem ordinal_any (y m d : Int) (hy0 : 0 ≤ y) (hy1 : y ≤ 10000) (hm1 : 1 ≤ m) (hm2 : m ≤ 12) (hd1 : 1 ≤ d) (hd2 : d ≤ lenC y m) (w : World) : Calls Tryz.prog 99 #[.int .i64 y, .int .i64 m, .int .i64 d] w (Ret (.tuple #[.int .i64 (cumC y m + d), .bool true]) w) := by
  have HM := Lib.hid (fun W => cvmay_any y m d hy0 (by omega) W)
  have hmay : mayC y m d = true := decide_eq_true ⟨by omega, by omega, hd1, hd2⟩
  rw [hmay] at HM
  have HL := Lib.hid (fun (j : Int) W => length_any y j hy0 (by omega) W)
  have hC : ∀ j : Int, 1 ≤ j → j ≤ 12 → cumC y (j + 1) = cumC y j + lenC y j := fun j h1 h2 => cumC_succ h1 h2
  have HC := Lib.hid hC
  have HP : Hid (∀ j : Int, 1 ≤ j → j ≤ 12 → 28 ≤ lenC y j ∧ lenC y j ≤ 31) := fun j h1 h2 => lenC_pos h1 h2
  have HB : Hid (∀ j : Int, 1 ≤ j → j ≤ 13 → 0 ≤ cumC y j ∧ cumC y j ≤ 366) := fun j h1 h2 => by
    have e1 := cumC_mono (y := y) (a := 1) (b := j) (by omega) h1 h2
    have e2 := cumC_mono (y := y) (a := j) (b := 13) h1 h2 (by omega)
    rw [cumC_one] at e1
    rw [cumC_end] at e2
    have := lpC_01 y
    omega
  have hd31 : d ≤ 31 := by have := (lenC_pos (y := y) hm1 hm2).2; omega
  have hO : cumC y 1 = 0 := cumC_one y
  have HO := Lib.hid hO
  clear hmay hC hO hd2
  go_enter Tryz.func99, Tryz.ntmps99
  go_wp2_with fail
  go_step3
  go_wp2_with fail
  refine (HM.out _).mono ?_
  rintro e w1 ⟨rfl, hb1⟩
  go_wp2
  go_step3
  go_wp2
  go_loopw [8, 9] (fun v i wr => ∃ j x : Int, 1 ≤ j ∧ j ≤ m ∧ i = .int .i64 j ∧ v = .int .i64 (d + x) ∧ Hid (x = cumC y j) ∧ Below w.heap.size w wr) (fun _ i _ => (m - intOf i).toNat)
  case atStart => exact ⟨1, 0, by omega, hm1, rfl, by simp, HO.out.symm, hb1⟩
  case round =>
    obtain ⟨j, x, hj1, hj2, rfl, rfl, HX, hb⟩ := hrel
    have hx := HB.out j hj1 (by omega)
    rw [← HX.out] at hx
    obtain ⟨hx0, hx1⟩ := hx
    have hsz := hb.size
    by_cases hjm : j = m
    · have hje : (j == m) = true := by simpa using hjm
      have HXE : Hid (x = cumC y m) := by show _ = _; rw [HX.out, hjm]
      clear hjm HX
      go_wp2
      rw [Exit.noGoto_ret]
      refine bodyPost_ret (results_tmp2 rfl _ _ _) rfl ?_
      exact ⟨by rw [← HXE.out, Int.add_comm x d]; rfl, hb⟩
    · have hje : (j == m) = false := by simpa using hjm
      have hlt : j < m := by omega
      have hp := HP.out j hj1 (by omega)
      have HXN : Hid (x + lenC y j = cumC y (j + 1)) := by show _ = _; rw [HX.out]; exact (HC.out j hj1 (by omega)).symm
      have HLj := Lib.hid (fun W => HL.out j W)
      clear hjm HX
      generalize lenC y j = L at *
      obtain ⟨p0, p1⟩ := hp
      go_wp2_with fail
      refine (HLj.out _).mono ?_
      rintro e w2 ⟨rfl, hb2⟩
      go_wp2
      go_roundw
      case rel => exact ⟨j + 1, x + L, by omega, by omega, by go_num, by go_num, HXN.out, bthen hb hb2 hsz⟩
      case measure => simp [intOf]; omega
/-- What a day is, as a value. -/
def shN (n y m d : Int) (j : Nat) : Int :=
  if j = 0 then n else if j = 1 then y else if j = 2 then m else if j = 3 then d else if j = 4 then lenC y m - d + 1 else if j = 5 then wdD n else
  if j = 6 then in1D d (lenC y m) else if j = 7 then in2D d (lenC y m) else if j = 8 then in1D (cumC y m + d) (365 + lpC y) else in2D (cumC y m + d) (365 + lpC y)
def shV (n : Int) : Value := .agg #[.int .i64 (shN n (yD n) (mD n) (dD n) 0), .int .i64 (shN n (yD n) (mD n) (dD n) 1), .int .i64 (shN n (yD n) (mD n) (dD n) 2), .int .i64 (shN n (yD n) (mD n) (dD n) 3), .int .i64 (shN n (yD n) (mD n) (dD n) 4),
  .int .i64 (shN n (yD n) (mD n) (dD n) 5), .int .i64 (shN n (yD n) (mD n) (dD n) 6), .int .i64 (shN n (yD n) (mD n) (dD n) 7), .int .i64 (shN n (yD n) (mD n) (dD n) 8), .int .i64 (shN n (yD n) (mD n) (dD n) 9)]
theorem date_bds {n : Int} (h : 0 ≤ n) (h1 : n < 146097) : 0 ≤ yD n ∧ yD n ≤ 3000 ∧ 1 ≤ mD n ∧ mD n ≤ 12 ∧ 1 ≤ dD n ∧ dD n ≤ lenC (yD n) (mD n) ∧ 28 ≤ lenC (yD n) (mD n) ∧ lenC (yD n) (mD n) ≤ 31 ∧ 0 ≤ cumC (yD n) (mD n) ∧ cumC (yD n) (mD n) ≤ 366 := by
  have h2 := date_may h h1
  have h3 := date_jan h h1
  have h4 := lenC_pos (y := yD n) h3.2.1 h3.2.2.1
  have e1 := cumC_mono (y := yD n) (a := 1) (b := mD n) (by omega) h3.2.1 (by omega)
  have e2 := cumC_mono (y := yD n) (a := mD n) (b := 13) h3.2.1 (by omega) (by omega)
  rw [cumC_one] at e1
  rw [cumC_end] at e2
  have := lpC_01 (yD n)
  omega
set_option maxRecDepth 20000 in
set_option maxHeartbeats 4000000 in
theorem shaped_any (n : Int) (h : 0 ≤ n) (h1 : n < 146097) (w : World) : Calls Tryz.prog 100 #[.int .i64 n, .int .i64 (yD n), .int .i64 (mD n), .int .i64 (dD n), .int .i64 (cumC (yD n) (mD n) + dD n)] w (Ret (shV n) w) := by
  obtain ⟨y0, y1, m0, m1, d0, d1, l0, l1, c0, c1⟩ := date_bds h h1
  have hp := lpC_01 (yD n)
  have HL := Lib.hid (fun W => length_any (yD n) (mD n) y0 (by omega) W)
  have HLp := Lib.hid (fun W => leap_any (yD n) y0 (by omega) W)
  have HD := Lib.hid (fun W => wday_any n h (by omega) W)
  have HW1 := Lib.hid (fun W => wwhich_any (dD n) (lenC (yD n) (mD n)) (by omega) (by omega) (by omega) (by omega) W)
  have HW2 := Lib.hid (fun W => wwhich_any (cumC (yD n) (mD n) + dD n) (365 + lpC (yD n)) (by omega) (by omega) (by omega) (by omega) W)
  have HS : Hid (shV n = .agg #[.int .i64 n, .int .i64 (yD n), .int .i64 (mD n), .int .i64 (dD n), .int .i64 (lenC (yD n) (mD n) - dD n + 1), .int .i64 (wdD n), .int .i64 (in1D (dD n) (lenC (yD n) (mD n))), .int .i64 (in2D (dD n) (lenC (yD n) (mD n))), .int .i64 (in1D (cumC (yD n) (mD n) + dD n) (365 + lpC (yD n))), .int .i64 (in2D (cumC (yD n) (mD n) + dD n) (365 + lpC (yD n)))]) := rfl
  rw [HS.out]
  clear HS
  have hl : Hid (lpC (yD n) = if leapC (yD n) = true then 1 else 0) := rfl
  cases hq : leapC (yD n) with
  | true =>
    have hl1 : Hid (lpC (yD n) = 1) := by show _ = _; rw [hl.out, if_pos hq]
    rw [hl1.out] at HW2 ⊢
    rw [show (365 : Int) + 1 = 366 from rfl] at HW2 ⊢
    rw [hq] at HLp
    clear hl hl1 hq hp
    generalize in1D (dD n) (lenC (yD n) (mD n)) = a1 at *
    generalize in2D (dD n) (lenC (yD n) (mD n)) = a2 at *
    generalize in1D (cumC (yD n) (mD n) + dD n) _ = a3 at *
    generalize in2D (cumC (yD n) (mD n) + dD n) _ = a4 at *
    generalize hO : cumC (yD n) (mD n) + dD n = o at *
    clear hO
    generalize lenC (yD n) (mD n) = L at *
    generalize cumC (yD n) (mD n) = C at *
    generalize wdD n = wd at *
    generalize yD n = y at *
    generalize mD n = m at *
    generalize dD n = d at *
    clear c0 c1
    go_enter Tryz.func100, Tryz.ntmps100
    go_wp2_with fail
    refine (HL.out _).mono ?_
    rintro e w1 ⟨rfl, hb1⟩
    obtain ⟨hc, hf⟩ := bcell hb1
    have hbw : Below w.heap.size w w1 := ((Below.refl _ w).alloc (Nat.le_refl _) _).trans (hb1.mono (by simp))
    have HT := Lib.hid (there_below (there_new w _ 114) (by simp) hb1)
    have hz1 : w.heap.size < w1.heap.size := by have := hb1.size; simp at this; omega
    clear hb1 hc hf HL
    go_wp2_with fail
    refine (HLp.out _).mono ?_
    rintro e w2 ⟨rfl, rfl⟩
    go_wp2_with fail
    refine (HD.out _).mono ?_
    rintro e w2 ⟨rfl, rfl⟩
    go_wp2_with fail
    refine (HW1.out _).mono ?_
    rintro e w2 ⟨rfl, rfl⟩
    go_wp2_with fail
    refine (HW2.out _).mono ?_
    rintro e w2 ⟨rfl, rfl⟩
    have hbx : Below w.heap.size w (w1.alloc (.cells #[.int .i64 n, .int .i64 y, .int .i64 m, .int .i64 d, .int .i64 (L - d + 1), .int .i64 wd, .int .i64 a1, .int .i64 a2, .int .i64 a3, .int .i64 a4] 114)) := hbw.alloc (by omega) _
    have htx : (w1.alloc (.cells #[.int .i64 n, .int .i64 y, .int .i64 m, .int .i64 d, .int .i64 (L - d + 1), .int .i64 wd, .int .i64 a1, .int .i64 a2, .int .i64 a3, .int .i64 a4] 114)).there w.heap.size 0 10 := there_below HT.out hz1 ((Below.refl _ _).alloc (Nat.le_refl _) _)
    replace htx := Lib.hid htx
    clear HT
    go_wp2_with (refine wp_store_out (w := w) rfl 114 _ _ rfl #[.int .i64 n, .int .i64 y, .int .i64 m, .int .i64 d, .int .i64 (L - d + 1), .int .i64 wd, .int .i64 a1, .int .i64 a2, .int .i64 a3, .int .i64 a4] rfl rfl Tryz.underlying114 rfl (by kernel_rfl) (by kernel_rfl) hbx htx.out ?_; intro W' hLd hbE)
    (try simp only [Exit.inBlock, Exit.then])
    refine bodyPost_ret (v := .agg #[.int .i64 n, .int .i64 y, .int .i64 m, .int .i64 d, .int .i64 (L - d + 1), .int .i64 wd, .int .i64 a1, .int .i64 a2, .int .i64 a3, .int .i64 a4]) ?_ rfl ⟨rfl, hbE⟩
    rw [results_cell1 rfl]
    exact hLd.out
  | false =>
    have hl1 : Hid (lpC (yD n) = 0) := by show _ = _; rw [hl.out, hq]; rfl
    rw [hl1.out] at HW2 ⊢
    rw [show (365 : Int) + 0 = 365 from rfl] at HW2 ⊢
    rw [hq] at HLp
    clear hl hl1 hq hp
    generalize in1D (dD n) (lenC (yD n) (mD n)) = a1 at *
    generalize in2D (dD n) (lenC (yD n) (mD n)) = a2 at *
    generalize in1D (cumC (yD n) (mD n) + dD n) _ = a3 at *
    generalize in2D (cumC (yD n) (mD n) + dD n) _ = a4 at *
    generalize hO : cumC (yD n) (mD n) + dD n = o at *
    clear hO
    generalize lenC (yD n) (mD n) = L at *
    generalize cumC (yD n) (mD n) = C at *
    generalize wdD n = wd at *
    generalize yD n = y at *
    generalize mD n = m at *
    generalize dD n = d at *
    clear c0 c1
    go_enter Tryz.func100, Tryz.ntmps100
    go_wp2_with fail
    refine (HL.out _).mono ?_
    rintro e w1 ⟨rfl, hb1⟩
    obtain ⟨hc, hf⟩ := bcell hb1
    have hbw : Below w.heap.size w w1 := ((Below.refl _ w).alloc (Nat.le_refl _) _).trans (hb1.mono (by simp))
    have HT := Lib.hid (there_below (there_new w _ 114) (by simp) hb1)
    have hz1 : w.heap.size < w1.heap.size := by have := hb1.size; simp at this; omega
    clear hb1 hc hf HL
    go_wp2_with fail
    refine (HLp.out _).mono ?_
    rintro e w2 ⟨rfl, rfl⟩
    go_wp2_with fail
    refine (HD.out _).mono ?_
    rintro e w2 ⟨rfl, rfl⟩
    go_wp2_with fail
    refine (HW1.out _).mono ?_
    rintro e w2 ⟨rfl, rfl⟩
    go_wp2_with fail
    refine (HW2.out _).mono ?_
    rintro e w2 ⟨rfl, rfl⟩
    have hbx : Below w.heap.size w (w1.alloc (.cells #[.int .i64 n, .int .i64 y, .int .i64 m, .int .i64 d, .int .i64 (L - d + 1), .int .i64 wd, .int .i64 a1, .int .i64 a2, .int .i64 a3, .int .i64 a4] 114)) := hbw.alloc (by omega) _
    have htx : (w1.alloc (.cells #[.int .i64 n, .int .i64 y, .int .i64 m, .int .i64 d, .int .i64 (L - d + 1), .int .i64 wd, .int .i64 a1, .int .i64 a2, .int .i64 a3, .int .i64 a4] 114)).there w.heap.size 0 10 := there_below HT.out hz1 ((Below.refl _ _).alloc (Nat.le_refl _) _)
    replace htx := Lib.hid htx
    clear HT
    go_wp2_with (refine wp_store_out (w := w) rfl 114 _ _ rfl #[.int .i64 n, .int .i64 y, .int .i64 m, .int .i64 d, .int .i64 (L - d + 1), .int .i64 wd, .int .i64 a1, .int .i64 a2, .int .i64 a3, .int .i64 a4] rfl rfl Tryz.underlying114 rfl (by kernel_rfl) (by kernel_rfl) hbx htx.out ?_; intro W' hLd hbE)
    (try simp only [Exit.inBlock, Exit.then])
    refine bodyPost_ret (v := .agg #[.int .i64 n, .int .i64 y, .int .i64 m, .int .i64 d, .int .i64 (L - d + 1), .int .i64 wd, .int .i64 a1, .int .i64 a2, .int .i64 a3, .int .i64 a4]) ?_ rfl ⟨rfl, hbE⟩
    rw [results_cell1 rfl]
    exact hLd.out
set_option maxRecDepth 20000 in
set_option maxHeartbeats 1000000 in
theorem shape_any (n : Int) (h : 0 ≤ n) (h1 : n < 146097) (w : World) : Calls Tryz.prog 67 #[.int .i64 n] w (Ret (.tuple #[shV n, .bool true]) w) := by
  obtain ⟨y0, y1, m0, m1, d0, d1, l0, l1, c0, c1⟩ := date_bds h h1
  have HD := Lib.hid (fun W => date_any n h h1 W)
  have HO := Lib.hid (fun W => ordinal_any (yD n) (mD n) (dD n) y0 (by omega) m0 m1 d0 d1 W)
  have HS := Lib.hid (fun W => shaped_any n h h1 W)
  unfold shV at *
  generalize shN n (yD n) (mD n) (dD n) = g at *
  generalize cumC (yD n) (mD n) + dD n = o at *
  generalize yD n = y at *
  generalize mD n = m at *
  generalize dD n = d at *
  clear y0 y1 m0 m1 d0 d1 l0 l1 c0 c1
  have hn0 : ¬ n < 0 := by omega
  have hn1 : ¬ 146097 ≤ n := by omega
  go_enter Tryz.func67, Tryz.ntmps67
  go_wp2_with fail
  refine (HD.out _).mono ?_
  rintro e w1 ⟨rfl, hb1⟩
  have HT := Lib.hid (there_below (there_new w _ 114) (by simp) hb1)
  have hz1 : w.heap.size < w1.heap.size := by have := hb1.size; simp at this; omega
  have hbw : Below w.heap.size w w1 := ((Below.refl _ w).alloc (Nat.le_refl _) _).trans (hb1.mono (by simp))
  clear hb1 HD
  go_wp2_with fail
  refine (HO.out _).mono ?_
  rintro e w2 ⟨rfl, hb2⟩
  replace HT := Lib.hid (there_below HT.out hz1 hb2)
  have hbw2 := bthen hbw hb2 hbw.size
  have hz2 : w.heap.size < w2.heap.size := Nat.lt_of_lt_of_le hz1 hb2.size
  clear hb2 hbw HO
  go_wp2_with fail
  refine (HS.out _).mono ?_
  rintro e w3 ⟨rfl, hb3⟩
  replace HT := Lib.hid (there_below HT.out hz2 hb3)
  have hbw3 := bthen hbw2 hb3 hbw2.size
  clear hb3 hbw2 HS
  go_wp2_with (refine wp_store_out (w := w) rfl 114 _ _ rfl #[.int .i64 (g 0), .int .i64 (g 1), .int .i64 (g 2), .int .i64 (g 3), .int .i64 (g 4), .int .i64 (g 5), .int .i64 (g 6), .int .i64 (g 7), .int .i64 (g 8), .int .i64 (g 9)] rfl rfl Tryz.underlying114 rfl (by kernel_rfl) (by kernel_rfl) hbw3 HT.out ?_; intro W' hLd hbE)
  (try simp only [Exit.inBlock, Exit.then])
  refine bodyPost_ret (v := .tuple #[.agg #[.int .i64 (g 0), .int .i64 (g 1), .int .i64 (g 2), .int .i64 (g 3), .int .i64 (g 4), .int .i64 (g 5), .int .i64 (g 6), .int .i64 (g 7), .int .i64 (g 8), .int .i64 (g 9)], .bool true]) ?_ rfl ⟨rfl, hbE⟩
  rw [results_cell_b rfl]
  show ((loadVar 114 ⟨w.heap.size, 0, none⟩).run Tryz.prog W').andThen (fun v w₂ => Result.ok (Value.tuple #[v, Value.bool true]) w₂) = _
  rw [hLd.out]
  rfl
end Go.Proofs.YtochhmkdhdadhaaGreat
