/- Sets: seven words. The walks of wide.Of, item.Wide and the document's set. -/
import Derived.Test.YtgliminiiciflaaWVal2
import Derived.Test.YtgliminiiciflaaWCover
namespace Go.Proofs.Ytgliminiiciflaa
open Go.RowKit
set_option linter.unusedSimpArgs false
set_option linter.unusedVariables false

/-- A number is in the set of a list. -/
def inW (l : List Int) (n : Nat) : Bool := decide (n < 400 ∧ (n : Int) ∈ l)
/-- Word i of the set. -/
def wordL (l : List Int) (i : Nat) : Int := (mkN (fun k => inW l (64 * i + k)) 64 : Nat)
abbrev wideV (l : List Int) : Value := .agg #[.int .u64 (wordL l 0), .int .u64 (wordL l 1), .int .u64 (wordL l 2), .int .u64 (wordL l 3), .int .u64 (wordL l 4), .int .u64 (wordL l 5), .int .u64 (wordL l 6)]
theorem wordL_nil (i : Nat) : wordL [] i = 0 := by
  unfold wordL
  have : (fun k => inW [] (64 * i + k)) = fun _ => false := by funext k; simp [inW]
  rw [this, mkN_none]; rfl
theorem wordL_skip {l : List Int} {x : Int} {i : Nat} (h : ¬ (0 ≤ x ∧ x < 400 ∧ x / 64 = (i : Int))) : wordL (l ++ [x]) i = wordL l i := by
  unfold wordL
  rw [mkN_ext (q := fun k => inW l (64 * i + k))]
  intro k hk
  rw [Bool.eq_iff_iff]
  simp only [inW, decide_eq_true_eq, List.mem_append, List.mem_singleton]
  constructor
  · rintro ⟨h1, h2 | h2⟩
    · exact ⟨h1, h2⟩
    · exact absurd ⟨by omega, by omega, by omega⟩ h
  · rintro ⟨h1, h2⟩
    exact ⟨h1, .inl h2⟩
theorem wordL_put {l : List Int} {x : Int} {i : Nat} (h0 : 0 ≤ x) (h1 : x < 400) (hi : x / 64 = (i : Int)) : bits .or .u64 (wordL l i) (2 ^ (x % 64).toNat) = wordL (l ++ [x]) i := by
  obtain ⟨n, hn⟩ : ∃ n : Nat, (n : Int) = x % 64 := ⟨(x % 64).toNat, by omega⟩
  have hn64 : n < 64 := by omega
  have h2 : (2 : Int) ^ (x % 64).toNat = ((2 ^ n : Nat) : Int) := by rw [← hn]; simp
  have h3 : 2 ^ n < 2 ^ 64 := Nat.pow_lt_pow_right (by omega) hn64
  obtain ⟨P, hP⟩ : ∃ P : Nat → Bool, P = fun k => inW l (64 * i + k) := ⟨_, rfl⟩
  obtain ⟨Q, hQ⟩ : ∃ Q : Nat → Bool, Q = fun k => inW (l ++ [x]) (64 * i + k) := ⟨_, rfl⟩
  have hPQ : ∀ k, k < 64 → (P k || decide (k = n)) = Q k := ?_
  · show bits .or .u64 ((mkN (fun k => inW l (64 * i + k)) 64 : Nat) : Int) _ = ((mkN (fun k => inW (l ++ [x]) (64 * i + k)) 64 : Nat) : Int)
    rw [← hP, ← hQ]
    have h5 := mkN_lt P 64
    rw [h2, u64_or_nat _ _ h5 h3, ← mkN_one n 64 hn64, mkN_or, mkN_ext hPQ]
  intro k hk
  clear h2 h3
  rw [hP, hQ]
  rw [Bool.eq_iff_iff]
  simp only [inW, decide_eq_true_eq, List.mem_append, List.mem_singleton, Bool.or_eq_true]
  constructor
  · rintro (⟨h5, h6⟩ | h5)
    · exact ⟨h5, .inl h6⟩
    · exact ⟨by omega, .inr (by omega)⟩
  · rintro ⟨h5, h6 | h6⟩
    · exact .inl ⟨h5, h6⟩
    · exact .inr (by omega)

set_option maxHeartbeats 400000 in
theorem wmay_any (n : Int) (w : World) : Calls Try.prog 84 #[.int .i64 n] w (RetQ (.bool (decide (0 ≤ n ∧ n < 400))) w) := by
  obtain ⟨B, hB⟩ : ∃ B, B = decide (0 ≤ n ∧ n < 400) := ⟨_, rfl⟩
  rw [← hB]
  by_cases h0 : 0 ≤ n
  · by_cases h1 : n < 400
    · have HQ : Hid (B = true) := by show _ = _; rw [hB]; exact decide_eq_true ⟨h0, h1⟩
      clear hB
      go_enter Try.func84, Try.ntmps84
      go_wp2
      go_ret
      exact ⟨ret_bool HQ.out.symm, rfl⟩
    · have HQ : Hid (B = false) := by show _ = _; rw [hB]; exact decide_eq_false (fun h => h1 h.2)
      clear hB
      go_enter Try.func84, Try.ntmps84
      go_wp2
      go_ret
      exact ⟨ret_bool HQ.out.symm, rfl⟩
  · have HQ : Hid (B = false) := by show _ = _; rw [hB]; exact decide_eq_false (fun h => h0 h.1)
    clear hB
    go_enter Try.func84, Try.ntmps84
    go_wp2
    go_ret
    exact ⟨ret_bool HQ.out.symm, rfl⟩

/-- Seven words, cell by cell. -/
def Words (w : World) (b : Nat) (g : Nat → Int) : Prop := (∀ j, j < 7 → w.cell? ⟨b, j, none⟩ = some (.int .u64 (g j))) ∧ ∀ j, w.frozen? ⟨b, j, none⟩ = false
theorem Words.set {w : World} {b : Nat} {g g' : Nat → Int} (h : Words w b g) (i : Nat) (hi : i < 7) (v : Int) (h1 : g' i = v) (h2 : ∀ j, j < 7 → j ≠ i → g' j = g j) : Words (w.setCell ⟨b, i, none⟩ (.int .u64 v)) b g' := by
  refine ⟨fun j hj => ?_, fun j => by rw [World.frozen?_setCell]; exact h.2 j⟩
  by_cases e : j = i
  · subst e
    rw [World.cell?_setCell_same _ _ _ (h.1 j hj), h1]
  · rw [World.cell?_setCell_other _ _ _ _ (by intro e2; injection e2 with _ e3; exact e e3.symm), h.1 j hj, h2 j hj e]

theorem Words.drew {w : World} {b : Nat} {g : Nat → Int} (h : Words w b g) : Words w.drew b g := h
theorem Words.other {w : World} {b b' i : Nat} {g : Nat → Int} {v : Value} (h : Words w b g) (hne : b' ≠ b) : Words (w.setCell ⟨b', i, none⟩ v) b g :=
  ⟨fun j hj => by rw [World.cell?_setCell_other _ _ _ _ (by intro e2; injection e2 with e3; exact hne e3)]; exact h.1 j hj, fun j => by rw [World.frozen?_setCell]; exact h.2 j⟩
theorem Words.alloc {w : World} {b : Nat} {g : Nat → Int} (h : Words w b g) (hb : b < w.heap.size) (o : Obj) : Words (w.alloc o) b g := by
  have hb1 : Below w.heap.size w (w.alloc o) := (Below.refl _ w).alloc (Nat.le_refl _) _
  exact ⟨fun j hj => (hb1.cell (p := ⟨b, j, none⟩) hb).trans (h.1 j hj), fun j => (hb1.frozen (p := ⟨b, j, none⟩) hb).trans (h.2 j)⟩
theorem Words.below {w w' : World} {b : Nat} {g : Nat → Int} (h : Words w b g) (hb : b < w.heap.size) (hb1 : Below w.heap.size w w') : Words w' b g :=
  ⟨fun j hj => (hb1.cell (p := ⟨b, j, none⟩) hb).trans (h.1 j hj), fun j => (hb1.frozen (p := ⟨b, j, none⟩) hb).trans (h.2 j)⟩
theorem frozen_new (w : World) (C : Array Value) (t : TypeId) (j : Nat) : (w.alloc (.cells C t)).frozen? ⟨w.heap.size, j, none⟩ = false := by
  have h1 := heap_alloc_new w (.cells C t)
  unfold World.frozen?
  rw [h1]
  simp
theorem results_cell1 {fn : Func} {p : Tmp} {ty : TypeId} (h : fn.results = #[.cell p ty]) (tmps : Array Value) (P : Program) (w : World) :
    (results fn tmps).run P w = ((asAddr (tmps.getD p undef)).run P w).andThen fun a w₁ => (loadVar ty a).run P w₁ := by
  simp only [results, h]
  simp [Sem.run_bind, Result.andThen]
theorem Words.new (w : World) (t : TypeId) (l : List Int) : Words (w.alloc (.cells #[.int .u64 (wordL [] 0), .int .u64 (wordL [] 1), .int .u64 (wordL [] 2), .int .u64 (wordL [] 3), .int .u64 (wordL [] 4), .int .u64 (wordL [] 5), .int .u64 (wordL [] 6)] t)) w.heap.size (wordL []) := by
  refine ⟨fun j hj => ?_, fun j => frozen_new _ _ _ _⟩
  rcases j with _ | _ | _ | _ | _ | _ | _ | j
  all_goals first | exact cell_new rfl rfl | omega
theorem Words.zero (w : World) (t : TypeId) : Words (w.alloc (.cells #[.int .u64 0, .int .u64 0, .int .u64 0, .int .u64 0, .int .u64 0, .int .u64 0, .int .u64 0] t)) w.heap.size (wordL []) := by
  have := Words.new w t []
  simp only [wordL_nil] at this
  exact this
theorem wrap_pow {r : Int} (h0 : 0 ≤ r) (h1 : r < 64) : IntKind.u64.wrap ((2 : Int) ^ r.toNat) = 2 ^ r.toNat := by
  obtain ⟨n, rfl⟩ := Int.eq_ofNat_of_zero_le h0
  have h2 : (2 : Int) ^ ((n : Int)).toNat = ((2 ^ n : Nat) : Int) := by simp
  have h3 : 2 ^ n < 2 ^ 64 := Nat.pow_lt_pow_right (by omega) (by omega)
  rw [h2]
  have h4 : ((2 ^ n : Nat) : Int) < 18446744073709551616 := by omega
  have h5 : (0 : Int) ≤ ((2 ^ n : Nat) : Int) := Int.natCast_nonneg _
  generalize ((2 ^ n : Nat) : Int) = z at h4 h5 ⊢
  simp [IntKind.wrap, IntKind.bits, IntKind.signed]
  omega

set_option maxHeartbeats 2000000 in
theorem wideOf_any (A : Option Addr) (n c : Nat) (l : List Int) (w : World) (hA : RdInts w A n l) (hn : n ≤ 9223372036854775807) :
    Calls Try.prog 74 #[.slice A n c] w (Ret (wideV l) w) := by
  have HL : Hid (l.length = n) := hA.1
  have HA := Lib.hid hA
  have HM := Lib.hid (fun x W => wmay_any x W)
  clear hA
  go_enter Try.func74, Try.ntmps74
  go_wp2
  go_loopw [8] (fun i wr => ∃ k : Nat, k ≤ n ∧ i = .int .i64 k ∧ Hid (Words wr (w.heap.size + 1) (wordL (l.take k))) ∧ Hid (Words wr w.heap.size (wordL [])) ∧ w.heap.size + 2 ≤ wr.heap.size ∧ Below w.heap.size w wr) (fun i _ => n - (intOf i).toNat)
  case atStart =>
    refine ⟨0, Nat.zero_le _, by go_num, ?_, ?_, by simp, by (repeat' (first | (with_reducible exact Below.refl _ _) | (with_reducible assumption) | (with_reducible refine below_drewN ?_ _) | (with_reducible refine Below.alloc ?_ ?_ _) | (with_reducible refine Below.drew ?_) | (with_reducible refine Below.setCell ?_ ?_ _) | go_size))⟩
    · have := Words.zero (w.alloc (.cells #[.int .u64 0, .int .u64 0, .int .u64 0, .int .u64 0, .int .u64 0, .int .u64 0, .int .u64 0] 70)) 70
      have e : (w.alloc (.cells #[.int .u64 0, .int .u64 0, .int .u64 0, .int .u64 0, .int .u64 0, .int .u64 0, .int .u64 0] 70)).heap.size = w.heap.size + 1 := by simp
      rw [e] at this
      exact this
    · exact (Words.zero w 70).alloc (by simp) _
  case round =>
    obtain ⟨k, hk, rfl, HW, HZ, hs2, hb⟩ := hrel
    by_cases hlt : k < n
    · obtain ⟨b, o, x, rfl, hbl, hx, c0⟩ := RdInts.at_ (HA.out.below hb (Nat.le_refl _)) hlt
      have hlt' : (k : Int) < (n : Int) := by omega
      have hts : l.take (k + 1) = l.take k ++ [x] := by rw [List.take_add_one, hx]; rfl
      have HMx := Lib.hid (fun W => HM.out x W)
      clear hx
      by_cases hin : 0 ≤ x ∧ x < 400
      · rw [decide_eq_true hin] at HMx
        obtain ⟨h0, h4⟩ := hin
        obtain ⟨i, hi⟩ : ∃ i : Nat, (i : Int) = x / 64 := ⟨(x / 64).toNat, by omega⟩
        have hi7 : i < 7 := by omega
        have HP : Hid (bits .or .u64 (wordL (l.take k) (x / 64).toNat) (IntKind.u64.wrap (2 ^ (x % 64).toNat)) = wordL (l.take (k + 1)) (x / 64).toNat) := by
          show _ = _
          rw [wrap_pow (by omega) (by omega), hts, wordL_put h0 h4 (by omega)]
        have HN : Hid (∀ j, j ≠ i → wordL (l.take (k + 1)) j = wordL (l.take k) j) := by
          intro j hj
          rw [hts, wordL_skip (by omega)]
        have HT := Lib.hid hts
        clear hts
        have g0 := HW.out.1 i hi7
        have g1 := HW.out.2 i
        have hi2 : (x / 64).toNat = i := by omega
        rw [← hi2] at g0 g1
        have HI2 := Lib.hid hi2
        clear hi2
        have q4 : ¬ (x / 64 < 0) := by omega
        have q5 : x / 64 < 7 := by omega
        have q6 : ¬ (x % 64 < 0) := by omega
        go_wp2_with fail
        refine (HMx.out _).mono ?_
        rintro e w1 ⟨rfl, rfl⟩
        go_wp2
        go_region
        rw [HP.out]
        have HW2 : Hid (Words (wr.setCell ⟨w.heap.size + 1, (x / 64).toNat, none⟩ (.int .u64 (wordL (l.take (k + 1)) (x / 64).toNat))) (w.heap.size + 1) (wordL (l.take (k + 1)))) :=
          Words.set HW.out _ (by have := HI2.out; omega) _ rfl (fun j _ hj => HN.out j (by have := HI2.out; omega))
        have HZ2 : Hid (Words (wr.setCell ⟨w.heap.size + 1, (x / 64).toNat, none⟩ (.int .u64 (wordL (l.take (k + 1)) (x / 64).toNat))) w.heap.size (wordL [])) := Words.other HZ.out (by omega)
        have hb2 : Below w.heap.size w (wr.setCell ⟨w.heap.size + 1, (x / 64).toNat, none⟩ (.int .u64 (wordL (l.take (k + 1)) (x / 64).toNat))) := hb.setCell (by simp) _
        have hs3 : w.heap.size + 2 ≤ (wr.setCell ⟨w.heap.size + 1, (x / 64).toNat, none⟩ (.int .u64 (wordL (l.take (k + 1)) (x / 64).toNat))).heap.size := by simpa using hs2
        generalize wr.setCell ⟨w.heap.size + 1, (x / 64).toNat, none⟩ (.int .u64 (wordL (l.take (k + 1)) (x / 64).toNat)) = wx at *
        go_wp2
        go_roundw
        case rel => exact ⟨k + 1, by omega, by go_num, HW2.out.drew, HZ2.out.drew, hs3, Below.drew hb2⟩
        case measure => simp [intOf]; omega
      · have HN : Hid (wordL (l.take (k + 1)) = wordL (l.take k)) := by
          show _ = _
          rw [hts]
          funext j
          rw [wordL_skip (by omega)]
        rw [decide_eq_false hin] at HMx
        clear hts hin
        go_wp2_with fail
        refine (HMx.out _).mono ?_
        rintro e w1 ⟨rfl, rfl⟩
        go_wp2
        go_roundw
        case rel => exact ⟨k + 1, by omega, by go_num, by rw [HN.out]; exact HW.out, HZ.out, hs2, hb⟩
        case measure => simp [intOf]; omega
    · obtain rfl : k = n := by omega
      have HE : Hid (l.take k = l) := List.take_of_length_le (by have := HL.out; omega)
      rw [HE.out] at HW
      have g0 := HW.out.1 0 (by decide)
      have g1 := HW.out.1 1 (by decide)
      have g2 := HW.out.1 2 (by decide)
      have g3 := HW.out.1 3 (by decide)
      have g4 := HW.out.1 4 (by decide)
      have g5 := HW.out.1 5 (by decide)
      have g6 := HW.out.1 6 (by decide)
      have z0 := HZ.out.1 0 (by decide)
      have z1 := HZ.out.1 1 (by decide)
      have z2 := HZ.out.1 2 (by decide)
      have z3 := HZ.out.1 3 (by decide)
      have z4 := HZ.out.1 4 (by decide)
      have z5 := HZ.out.1 5 (by decide)
      have z6 := HZ.out.1 6 (by decide)
      have f0 := HZ.out.2
      go_wp2
      (try simp only [Exit.inBlock, Exit.then])
      refine bodyPost_ret (v := wideV l) ?_ rfl ⟨rfl, ?_⟩
      · rw [results_cell1 rfl]
        go_simp
      · have hl := hb
        (repeat' (first | (with_reducible exact Below.refl _ _) | (with_reducible assumption) | (with_reducible refine below_drewN ?_ _) | (with_reducible refine Below.alloc ?_ ?_ _) | (with_reducible refine Below.drew ?_) | (with_reducible refine Below.setCell ?_ ?_ _) | go_size))
end Go.Proofs.Ytgliminiiciflaa
