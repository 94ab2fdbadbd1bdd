/- The walk of item.Wide. -/
import Derived.Test.YtgliminiiciflaaWWide
import Derived.Test.YtgliminiiciflaaOpen
namespace Go.Proofs.Ytgliminiiciflaa
open Go.RowKit
set_option linter.unusedSimpArgs false
set_option linter.unusedVariables false

theorem val_bd {lo hi : Int} {l : List It} {x : Int} (h : x ∈ valL lo hi l) : 0 ≤ lo ∧ lo ≤ x ∧ x ≤ 9999 := by
  have h1 := ((valL_spec lo hi l).2 x).1 h
  simp only [inB, List.any_eq_true, itHas, Bool.and_eq_true, hasB, decide_eq_true_eq] at h1
  obtain ⟨i, _, hm, h2, h3, _⟩ := h1
  obtain ⟨h4, h5, h6, h7⟩ := may_bd2 hm
  omega
theorem own_cells {w : World} {B g c : Nat} {l : List Int} {n : Nat} (h : w.ownsRow B 3 1 (.slice (some ⟨g, 0, none⟩) n c) n (l.map (Value.int .i64))) : g < w.heap.size ∧ B ≤ g ∧ (∀ j, w.frozen? ⟨g, j, none⟩ = false) := by
  rcases h.2 with ⟨h0, _⟩ | ⟨g', cap, cur, hv, hb, hg, _⟩
  · cases h0
  · cases hv
    refine ⟨(Array.getElem?_eq_some_iff.1 hg).1, hb, fun j => ?_⟩
    unfold World.frozen?
    rw [hg]
    simp

set_option maxHeartbeats 4000000 in
theorem wide_any (lo hi : Int) (A : Option Addr) (n c : Nat) (l : List It) (w : World) (hA : RdIts w A n l) (hn : n ≤ 100000) (hlo : In64 lo) :
    Calls Try.prog 50 #[.int .i64 lo, .int .i64 hi, .slice A n c] w (Ret (wideV ((valL lo hi l).map (· - lo))) w) := by
  have hb0 : Below w.heap.size w (w.alloc (.cells #[.int .u64 0, .int .u64 0, .int .u64 0, .int .u64 0, .int .u64 0, .int .u64 0, .int .u64 0] 70)) := by (repeat' (first | (with_reducible exact Below.refl _ _) | (with_reducible assumption) | (with_reducible refine below_drewN ?_ _) | (with_reducible refine Below.alloc ?_ ?_ _) | (with_reducible refine Below.drew ?_) | (with_reducible refine Below.setCell ?_ ?_ _) | go_size))
  have HV := Lib.hid (values_any lo hi A n c l (w.alloc (.cells #[.int .u64 0, .int .u64 0, .int .u64 0, .int .u64 0, .int .u64 0, .int .u64 0, .int .u64 0] 70)) (hA.below hb0 (Nat.le_refl _)) hn)
  have HZ := Lib.hid (Words.zero w 70)
  have hlen : (valL lo hi l).length ≤ 1000000000 := by
    have h1 := rawL_len lo hi l
    have h2 := compact_len ((rawL lo hi l).mergeSort fun x y => decide (x ≤ y))
    rw [sortL_len] at h2
    have h3 : l.length = n := hA.1
    unfold valL
    omega
  have HBd : Hid (∀ x ∈ valL lo hi l, 0 ≤ lo ∧ lo ≤ x ∧ x ≤ 9999) := fun x hx => val_bd hx
  generalize valL lo hi l = V at *
  clear hA
  obtain ⟨L, hL⟩ : ∃ L, L = V.map (· - lo) := ⟨_, rfl⟩
  rw [← hL]
  have HL := Lib.hid hL
  clear hL
  go_enter Try.func50, Try.ntmps50
  go_wp2_with fail
  have hsz0 : (w.alloc (.cells #[.int .u64 0, .int .u64 0, .int .u64 0, .int .u64 0, .int .u64 0, .int .u64 0, .int .u64 0] 70)).heap.size = w.heap.size + 1 := by simp
  generalize (w.alloc (.cells #[.int .u64 0, .int .u64 0, .int .u64 0, .int .u64 0, .int .u64 0, .int .u64 0, .int .u64 0] 70)) = w0 at *
  refine HV.out.mono ?_
  rintro e w1 ⟨v, rfl, hown, hb1⟩
  have hb01 : Below w.heap.size w w1 := hb0.trans (hb1.mono (by omega))
  have HZ1 := Lib.hid (HZ.out.below (by omega) hb1)
  have hsz1 := hb1.size
  rcases own_some hown with ⟨rfl, h0⟩ | ⟨g, c', rfl, hg, hgs⟩
  · obtain rfl := List.length_eq_zero_iff.1 h0
    clear hown h0
    have HF := Lib.hid (wideOf_any none 0 0 L w1 (by rw [HL.out]; exact Rd.nil) (by decide))
    have hbw : Below w.heap.size w w1 := hb01
    have hz : w.heap.size < w1.heap.size := by omega
    have HZw := HZ1
    clear HL HV
    go_wp2
    go_loopw [15] (fun i wr => i = .int .i64 0 ∧ wr = w1) (fun _ _ => 0)
    case atStart => exact ⟨by go_num, rfl⟩
    case round =>
      obtain ⟨rfl, rfl⟩ := hrel
      go_wp2_with fail
      refine HF.out.mono ?_
      rintro e w3 ⟨rfl, hb3⟩
      have HZ3 := Lib.hid (HZw.out.below hz hb3)
      have hbf : Below w.heap.size w w3 := bthen hbw hb3 hbw.size
      have hszf := hbf.size
      have hzf : w.heap.size < w3.heap.size := Nat.lt_of_lt_of_le hz hb3.size
      have z0 := HZ3.out.1 0 (by decide)
      have z1 := HZ3.out.1 1 (by decide)
      have z2 := HZ3.out.1 2 (by decide)
      have z3 := HZ3.out.1 3 (by decide)
      have z4 := HZ3.out.1 4 (by decide)
      have z5 := HZ3.out.1 5 (by decide)
      have z6 := HZ3.out.1 6 (by decide)
      have f0 := HZ3.out.2
      clear hb3 hbw
      go_wp2
      (try simp only [Exit.inBlock, Exit.then])
      refine bodyPost_ret (v := wideV L) ?_ rfl ⟨rfl, ?_⟩
      · rw [results_cell1 rfl]
        go_simp
      · (repeat' (first | (with_reducible exact Below.refl _ _) | (with_reducible assumption) | (with_reducible refine below_drewN ?_ _) | (with_reducible refine Below.alloc ?_ ?_ _) | (with_reducible refine Below.drew ?_) | (with_reducible refine Below.setCell ?_ ?_ _) | go_size))
  · obtain ⟨-, hgB, hfz⟩ := own_cells hown
    obtain ⟨A', c2, e, hc1, hc2, hrd, hge⟩ := OwnInts.rd hown
    cases e
    obtain ⟨m, hm⟩ : ∃ m, m = V.length := ⟨_, rfl⟩
    have HVL : Hid (V.length = m) := hm.symm
    rw [← hm] at hrd hc1 hlen ⊢
    have HRD := Lib.hid hrd
    have HFZ := Lib.hid hfz
    clear hm hown hrd hfz HV hge
    go_wp2
    go_loopw [15] (fun i wr => ∃ k : Nat, k ≤ m ∧ i = .int .i64 k ∧ Hid (∀ j x, V[j]? = some x → wr.cell? ⟨g, j, none⟩ = some (.int .i64 (if j < k then x - lo else x))) ∧ Hid (∀ j, wr.frozen? ⟨g, j, none⟩ = false) ∧ Hid (Words wr w.heap.size (wordL [])) ∧ w1.heap.size ≤ wr.heap.size ∧ Below w.heap.size w wr) (fun i _ => m - (intOf i).toNat)
    case atStart =>
      refine ⟨0, Nat.zero_le _, by go_num, fun j x hj => ?_, HFZ.out, HZ1.out, Nat.le_refl _, hb01⟩
      obtain ⟨b, o, x', e, _, hx, hc⟩ := RdInts.at_ HRD.out (i := j) (by have := (List.getElem?_eq_some_iff.1 hj).1; have := HVL.out; omega)
      cases e
      obtain rfl : x = x' := by rw [hj] at hx; injection hx
      simpa using hc
    case round =>
      obtain ⟨k, hk, rfl, HC, HFZ, HZw, hsw, hbw⟩ := hrel
      by_cases hlt : k < m
      · have hlt' : (k : Int) < (m : Int) := by omega
        have hkV : k < V.length := by have := HVL.out; omega
        have hx := List.getElem?_eq_getElem hkV
        obtain ⟨x, hxx⟩ : ∃ x, x = V[k] := ⟨_, rfl⟩
        rw [← hxx] at hx
        have hxm : x ∈ V := List.mem_of_getElem? hx
        obtain ⟨b0, b1, b2⟩ := HBd.out x hxm
        have c0 := HC.out k x hx
        rw [if_neg (Nat.lt_irrefl k)] at c0
        have f0 := HFZ.out k
        have HX := Lib.hid hx
        clear hx hxx hxm hkV
        go_wp2
        go_roundw
        case rel =>
          refine ⟨k + 1, by omega, by go_num, fun j y hj => ?_, fun j => by rw [World.frozen?_setCell]; exact HFZ.out j, Words.other HZw.out (by omega), by simpa using hsw, hbw.setCell (by show w.heap.size ≤ g; omega) _⟩
          by_cases e : j = k
          · subst e
            obtain rfl : x = y := by have := HX.out; rw [hj] at this; injection this with h; exact h.symm
            rw [World.cell?_setCell_same _ _ _ (HC.out j x hj), if_pos (by omega)]
          · rw [World.cell?_setCell_other _ _ _ _ (by intro e2; injection e2 with _ e3; exact e e3.symm), HC.out j y hj]
            by_cases hjk : j < k
            · rw [if_pos hjk, if_pos (by omega)]
            · rw [if_neg hjk, if_neg (by omega)]
        case measure => simp [intOf]; omega
      · obtain rfl : k = m := by omega
        have hrd2 : RdInts wr (some ⟨g, 0, none⟩) k L := by
          rw [HL.out]
          refine ⟨by rw [List.length_map]; exact HVL.out, fun hn => ⟨g, 0, rfl, by omega, fun j y hj i v hv => ?_⟩⟩
          rw [List.getElem?_map] at hj
          rcases hvj : V[j]? with _ | x
          · rw [hvj] at hj; cases hj
          · rw [hvj] at hj
            obtain rfl : x - lo = y := by simpa using hj
            have hi : i = 0 := by have := (List.getElem?_eq_some_iff.1 hv).1; simpa [intEnc] using this
            subst hi
            obtain rfl : Value.int .i64 (x - lo) = v := by simpa [intEnc] using hv
            have := HC.out j x hvj
            rw [if_pos (by have := (List.getElem?_eq_some_iff.1 hvj).1; have := HVL.out; omega)] at this
            simpa using this
        have HF := Lib.hid (wideOf_any (some ⟨g, 0, none⟩) k c' L wr hrd2 (by omega))
        have hz : w.heap.size < wr.heap.size := by omega
        clear hrd2 HC HFZ
        go_wp2_with fail
        refine HF.out.mono ?_
        rintro e w3 ⟨rfl, hb3⟩
        have HZ3 := Lib.hid (HZw.out.below hz hb3)
        have hbf : Below w.heap.size w w3 := bthen hbw hb3 hbw.size
        have hszf := hbf.size
        have hzf : w.heap.size < w3.heap.size := Nat.lt_of_lt_of_le hz hb3.size
        have z0 := HZ3.out.1 0 (by decide)
        have z1 := HZ3.out.1 1 (by decide)
        have z2 := HZ3.out.1 2 (by decide)
        have z3 := HZ3.out.1 3 (by decide)
        have z4 := HZ3.out.1 4 (by decide)
        have z5 := HZ3.out.1 5 (by decide)
        have z6 := HZ3.out.1 6 (by decide)
        have f0 := HZ3.out.2
        clear hb3 hbw
        go_wp2
        (try simp only [Exit.inBlock, Exit.then])
        refine bodyPost_ret (v := wideV L) ?_ rfl ⟨rfl, ?_⟩
        · rw [results_cell1 rfl]
          go_simp
        · (repeat' (first | (with_reducible exact Below.refl _ _) | (with_reducible assumption) | (with_reducible refine below_drewN ?_ _) | (with_reducible refine Below.alloc ?_ ?_ _) | (with_reducible refine Below.drew ?_) | (with_reducible refine Below.setCell ?_ ?_ _) | go_size))
end Go.Proofs.Ytgliminiiciflaa
