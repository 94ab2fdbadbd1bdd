/- The walks of the line's meaning, by the document. -/
import Derived.Test.YtochhmkdhdadhaaGreatDoorWClX
import Derived.Test.YtochhmkdhdadhaaGreatDoorWRfA
/- The walks of cronlow.Lower, of the references' Clause, Day, Means. -/
namespace Go.Proofs.YtochhmkdhdadhaaGreatDoor
open Go.RowKit
set_option linter.unusedSimpArgs false
set_option linter.unusedVariables false

set_option maxRecDepth 20000 in
set_option maxHeartbeats 4000000 in
theorem lower_ok (A : Nat → Option Addr) (n c : Nat → Nat) (l : Nat → List It) (w : World) (hA : RdLine w A n l) (hn : ∀ k, n k ≤ 100000) (hnil : ∀ k, A k = none → n k = 0) (h : (chk l).2 = 0) :
    Calls Tryz.prog 8 #[crV A n c] w (RetOneCl (lineC l) w) := by
  have HC := Lib.hid (fun W (hb : Below w.heap.size w W) => lowClause_ok A n c l W (hA.below hb (Nat.le_refl _)) hn hnil h)
  have HI := Lib.hid (cl_info (lineC l))
  have H1 := Lib.hid (clA_cells (lineC l))
  have Hs : Hid (30 = (clA (lineC l)).size) := rfl
  have HR := Lib.hid (fun w t => rdCls_one w (lineC l) t)
  clear hA hn hnil h
  generalize clA (lineC l) = cs at *
  generalize lineC l = K at *
  go_enter Tryz.func8, Tryz.ntmps8
  go_wp2_with fail
  refine (HC.out _ (by (repeat' (first | (with_reducible exact Below.refl _ _) | (with_reducible assumption) | (with_reducible refine below_drewN ?_ _) | (with_reducible refine Below.alloc ?_ ?_ _) | (with_reducible refine Below.drew ?_) | (with_reducible refine Below.setCell ?_ ?_ _) | go_size)))).mono ?_
  rintro x w1 ⟨rfl, hq1⟩
  have hb1 : Below w.heap.size w w1 := ((Below.refl _ w).alloc (Nat.le_refl _) _).trans (hq1.mono (by simp))
  clear hq1 HC
  have hcs : cs.size = 30 := Hs.out.symm
  go_wp2_with (first
    | (refine wp_store_new (by rfl) 37 _ _ rfl cs _ rfl rfl HI.out H1.out Hs.out ?_; intro w2 hq2 HS2 hz2)
    | (refine wp_load_arr (by rfl) 37 _ rfl cs w1.heap.size 0 rfl Tryz.underlying37 rfl HI.out (lies0 (arr_lies HS2)) ?_))
  have hb2 := bthen hb1 hq2 hb1.size
  have hbE : Below w.heap.size w (w2.alloc (.cells cs 37)) := hb2.alloc hb2.size _
  rw [fold_put cs _ 30 rfl hcs, ← hz2]
  refine bodyPost_ret (results_tmp2 rfl _ _ _) rfl ?_
  exact ⟨_, rfl, HR.out _ _, hbE⟩
set_option maxRecDepth 20000 in
set_option maxHeartbeats 4000000 in
theorem lower_bad (A : Nat → Option Addr) (n c : Nat → Nat) (l : Nat → List It) (w : World) (hA : RdLine w A n l) (hn : ∀ k, n k ≤ 9223372036854775807) (h : (chk l).2 ≠ 0) :
    Calls Tryz.prog 8 #[crV A n c] w (Ret (.tuple #[.slice none 0 0, .int .i64 (chk l).2]) w) := by
  have HC := Lib.hid (fun W (hb : Below w.heap.size w W) => lowClause_bad A n c l W (hA.below hb (Nat.le_refl _)) hn h)
  have HI := Lib.hid (cl_info zeroC)
  have H1 := Lib.hid (clA_cells zeroC)
  have Hs : Hid (30 = (clA zeroC).size) := rfl
  have he : ((chk l).2 != 0) = true := by simpa using h
  clear hA hn h
  generalize (chk l).2 = e at *
  generalize clA zeroC = cs at *
  go_enter Tryz.func8, Tryz.ntmps8
  go_wp2_with fail
  refine (HC.out _ (by (repeat' (first | (with_reducible exact Below.refl _ _) | (with_reducible assumption) | (with_reducible refine below_drewN ?_ _) | (with_reducible refine Below.alloc ?_ ?_ _) | (with_reducible refine Below.drew ?_) | (with_reducible refine Below.setCell ?_ ?_ _) | go_size)))).mono ?_
  rintro x w1 ⟨rfl, hq1⟩
  have hb1 : Below w.heap.size w w1 := ((Below.refl _ w).alloc (Nat.le_refl _) _).trans (hq1.mono (by simp))
  clear hq1 HC
  go_wp2_with (refine wp_store_new (by rfl) 37 _ _ rfl cs _ rfl rfl HI.out H1.out Hs.out ?_; intro w2 hq2 HS2 hz2)
  refine bodyPost_ret (results_tmp2 rfl _ _ _) rfl ?_
  exact ⟨rfl, bthen hb1 hq2 hb1.size⟩
set_option maxRecDepth 20000 in
set_option maxHeartbeats 8000000 in
theorem rlowClause_any (A : Nat → Option Addr) (n c : Nat → Nat) (l : Nat → List It) (w : World) (hA : RdLine w A n l) (hn : ∀ k, n k ≤ 100000) :
    Calls Tryz.prog 11 #[crV A n c] w (Ret (.agg (clA (lineC l))) w) := by
  have HF := Lib.hid (fun W => rfull_any W)
  have HV0 := Lib.hid (fun W (hb : Below w.heap.size w W) => rvalues_any (A 0) (n 0) (c 0) (l 0) 0 59 W ((hA 0 (by decide)).below hb (Nat.le_refl _)) (by have := hn 0; omega) ⟨by decide, by decide⟩ ⟨by decide, by decide⟩)
  have HV1 := Lib.hid (fun W (hb : Below w.heap.size w W) => rvalues_any (A 1) (n 1) (c 1) (l 1) 0 23 W ((hA 1 (by decide)).below hb (Nat.le_refl _)) (by have := hn 1; omega) ⟨by decide, by decide⟩ ⟨by decide, by decide⟩)
  have HV2 := Lib.hid (fun W (hb : Below w.heap.size w W) => rvalues_any (A 2) (n 2) (c 2) (l 2) 1 31 W ((hA 2 (by decide)).below hb (Nat.le_refl _)) (by have := hn 2; omega) ⟨by decide, by decide⟩ ⟨by decide, by decide⟩)
  have HV3 := Lib.hid (fun W (hb : Below w.heap.size w W) => rvalues_any (A 3) (n 3) (c 3) (l 3) 1 12 W ((hA 3 (by decide)).below hb (Nat.le_refl _)) (by have := hn 3; omega) ⟨by decide, by decide⟩ ⟨by decide, by decide⟩)
  have HO := Lib.hid (fun A' c' V W (h : RdInts W A' V.length V) (hl : V.length ≤ 1000000000) => rmaskOf_any A' V.length c' V W h (by omega))
  have HW := Lib.hid (fun W (hb : Below w.heap.size w W) => rweekdays_any (A 4) (n 4) (c 4) (l 4) W ((hA 4 (by decide)).below hb (Nat.le_refl _)) (by have := hn 4; omega))
  have HE2 := Lib.hid (fun W (hb : Below w.heap.size w W) => rstarred_any (A 2) (n 2) (c 2) (l 2) W ((hA 2 (by decide)).below hb (Nat.le_refl _)))
  have HE4 := Lib.hid (fun W (hb : Below w.heap.size w W) => rstarred_any (A 4) (n 4) (c 4) (l 4) W ((hA 4 (by decide)).below hb (Nat.le_refl _)))
  have HI := Lib.hid (cl_info fullC)
  have HC := Lib.hid (clA_cells fullC)
  have HI2 := Lib.hid (cl_info (lineC l))
  have HC2 := Lib.hid (clA_cells (lineC l))
  have HG : Hid (∀ j, j < 30 → updG (updG (updG (updG (updG (updG (updG (fun j => (clA fullC).getD j undef) 0 (.int .u64 1)) 1 (.int .u64 (maskL (refVal (l 0) 0 59)))) 2 (.int .u64 (maskL (refVal (l 1) 0 23)))) 4 (.int .u64 (maskL (refVal (l 2) 1 31)))) 3 (.int .u64 (maskL (refVal (l 3) 1 12)))) 6 (.int .u64 (maskL (wkL (refVal (l 4) 0 7))))) 7 (.bool (!starB (l 2) && !starB (l 4))) j = (clA (lineC l)).getD j undef) := by
    show ∀ j, _
    rw [lineC_mk]
    exact line_upd _ _ _ _ _ _ _
  have HL0 : Hid ((refVal (l 0) 0 59).length ≤ 1000000000) := refVal_len60 _ _ _ (by decide)
  have HL1 : Hid ((refVal (l 1) 0 23).length ≤ 1000000000) := refVal_len60 _ _ _ (by decide)
  have HL2 : Hid ((refVal (l 2) 1 31).length ≤ 1000000000) := refVal_len60 _ _ _ (by decide)
  have HL3 : Hid ((refVal (l 3) 1 12).length ≤ 1000000000) := refVal_len60 _ _ _ (by decide)
  have HZs : Hid (30 = (clA fullC).size ∧ (clA fullC).size = 30) := ⟨rfl, rfl⟩
  have HS30 : Hid ((clA (lineC l)).size = 30) := rfl
  clear hA hn
  generalize clA fullC = cs at *
  generalize clA (lineC l) = zs at *
  generalize refVal (l 0) 0 59 = V0 at *
  generalize refVal (l 1) 0 23 = V1 at *
  generalize refVal (l 2) 1 31 = V2 at *
  generalize refVal (l 3) 1 12 = V3 at *
  generalize maskL (wkL (refVal (l 4) 0 7)) = M4 at *
  generalize hE2 : starB (l 2) = E2 at *
  generalize hE4 : starB (l 4) = E4 at *
  clear hE2 hE4
  go_enter Tryz.func11, Tryz.ntmps11
  go_wp2_with fail
  have hT := there_new (w.alloc (.cells #[.slice (A 0) (n 0) (c 0), .slice (A 1) (n 1) (c 1), .slice (A 2) (n 2) (c 2), .slice (A 3) (n 3) (c 3), .slice (A 4) (n 4) (c 4)] 24)) #[.int .u64 0, .int .u64 0, .int .u64 0, .int .u64 0, .int .u64 0, .int .u64 0, .int .u64 0, .bool false, .int .i64 0, .bool false, .int .u64 0, .int .u64 0, .int .u64 0, .int .u64 0, .int .u64 0, .int .u64 0, .int .u64 0, .int .u64 0, .int .u64 0, .int .u64 0, .int .u64 0, .int .u64 0, .int .u64 0, .int .u64 0, .int .u64 0, .int .i64 0, .int .i64 0, .int .i64 0, .int .i64 0, .int .i64 0] 37
  rw [show (w.alloc (.cells #[.slice (A 0) (n 0) (c 0), .slice (A 1) (n 1) (c 1), .slice (A 2) (n 2) (c 2), .slice (A 3) (n 3) (c 3), .slice (A 4) (n 4) (c 4)] 24)).heap.size = w.heap.size + 1 by simp] at hT
  have hL : LineAt ((w.alloc (.cells #[.slice (A 0) (n 0) (c 0), .slice (A 1) (n 1) (c 1), .slice (A 2) (n 2) (c 2), .slice (A 3) (n 3) (c 3), .slice (A 4) (n 4) (c 4)] 24)).alloc (.cells #[.int .u64 0, .int .u64 0, .int .u64 0, .int .u64 0, .int .u64 0, .int .u64 0, .int .u64 0, .bool false, .int .i64 0, .bool false, .int .u64 0, .int .u64 0, .int .u64 0, .int .u64 0, .int .u64 0, .int .u64 0, .int .u64 0, .int .u64 0, .int .u64 0, .int .u64 0, .int .u64 0, .int .u64 0, .int .u64 0, .int .u64 0, .int .u64 0, .int .i64 0, .int .i64 0, .int .i64 0, .int .i64 0, .int .i64 0] 37)) w.heap.size 0 A n c := ⟨by simp [go_sem], by simp [go_sem], by simp [go_sem], by simp [go_sem], by simp [go_sem]⟩
  have hb1 : Below w.heap.size w ((w.alloc (.cells #[.slice (A 0) (n 0) (c 0), .slice (A 1) (n 1) (c 1), .slice (A 2) (n 2) (c 2), .slice (A 3) (n 3) (c 3), .slice (A 4) (n 4) (c 4)] 24)).alloc (.cells #[.int .u64 0, .int .u64 0, .int .u64 0, .int .u64 0, .int .u64 0, .int .u64 0, .int .u64 0, .bool false, .int .i64 0, .bool false, .int .u64 0, .int .u64 0, .int .u64 0, .int .u64 0, .int .u64 0, .int .u64 0, .int .u64 0, .int .u64 0, .int .u64 0, .int .u64 0, .int .u64 0, .int .u64 0, .int .u64 0, .int .u64 0, .int .u64 0, .int .i64 0, .int .i64 0, .int .i64 0, .int .i64 0, .int .i64 0] 37)) := by (repeat' (first | (with_reducible exact Below.refl _ _) | (with_reducible assumption) | (with_reducible refine below_drewN ?_ _) | (with_reducible refine Below.alloc ?_ ?_ _) | (with_reducible refine Below.drew ?_) | (with_reducible refine Below.setCell ?_ ?_ _) | go_size))
  have hz1 : w.heap.size + 2 ≤ ((w.alloc (.cells #[.slice (A 0) (n 0) (c 0), .slice (A 1) (n 1) (c 1), .slice (A 2) (n 2) (c 2), .slice (A 3) (n 3) (c 3), .slice (A 4) (n 4) (c 4)] 24)).alloc (.cells #[.int .u64 0, .int .u64 0, .int .u64 0, .int .u64 0, .int .u64 0, .int .u64 0, .int .u64 0, .bool false, .int .i64 0, .bool false, .int .u64 0, .int .u64 0, .int .u64 0, .int .u64 0, .int .u64 0, .int .u64 0, .int .u64 0, .int .u64 0, .int .u64 0, .int .u64 0, .int .u64 0, .int .u64 0, .int .u64 0, .int .u64 0, .int .u64 0, .int .i64 0, .int .i64 0, .int .i64 0, .int .i64 0, .int .i64 0] 37)).heap.size := by simp
  generalize (w.alloc (.cells #[.slice (A 0) (n 0) (c 0), .slice (A 1) (n 1) (c 1), .slice (A 2) (n 2) (c 2), .slice (A 3) (n 3) (c 3), .slice (A 4) (n 4) (c 4)] 24)).alloc (.cells #[.int .u64 0, .int .u64 0, .int .u64 0, .int .u64 0, .int .u64 0, .int .u64 0, .int .u64 0, .bool false, .int .i64 0, .bool false, .int .u64 0, .int .u64 0, .int .u64 0, .int .u64 0, .int .u64 0, .int .u64 0, .int .u64 0, .int .u64 0, .int .u64 0, .int .u64 0, .int .u64 0, .int .u64 0, .int .u64 0, .int .u64 0, .int .u64 0, .int .i64 0, .int .i64 0, .int .i64 0, .int .i64 0, .int .i64 0] 37) = w1 at *
  refine (HF.out _).mono ?_
  rintro x w2 ⟨rfl, hq2⟩
  have hb2 := bthen hb1 hq2 hb1.size
  have HL2' := Lib.hid (LineAt.below hL (fun o => hq2.cell (p := ⟨_, o, none⟩) (by show w.heap.size < w1.heap.size; omega)))
  have HT2 := Lib.hid (there_below hT (by omega) hq2)
  have hz2 : w.heap.size + 2 ≤ w2.heap.size := by have := hq2.size; omega
  clear hL hT hb1 hq2 hz1 HF
  go_wp2_with (refine wp_store_new (by rfl) 37 _ _ rfl cs _ rfl rfl HI.out HC.out HZs.out.1 ?_; intro w3 hq3 HA3 hz3; have HS3 : Hid (LowS w w3 w2.heap.size A n c (fun j => cs.getD j undef)) := ⟨LineAt.below HL2'.out (fun o => hq3.cell (p := ⟨_, o, none⟩) (by show w.heap.size < w2.heap.size; omega)), by rw [← HZs.out.2]; exact HA3, there_below HT2.out (by omega) hq3, by omega, bthen hb2 hq3 hb2.size⟩; have c0 := HS3.out.arr.1 0 (by decide); have f0 := HS3.out.arr.2 0; obtain ⟨l0, l1, l2, l3, l4⟩ := lineAt_ld HS3.out.line; have hltB : w.heap.size < w2.heap.size := by omega)
  have HS := Lib.hid (HS3.out.updG 0 (by decide) (.int .u64 1))
  clear HS3 c0 f0 l0 l1 l2 l3 l4 hq3 HA3 hz3 HL2' HT2 hb2 hz2
  generalize hB : w2.heap.size = B at *
  clear hB
  generalize World.setCell w3 _ _ = w4 at *
  refine (HV0.out _ HS.out.below).mono ?_
  rintro x w5 ⟨v, rfl, hown, hq⟩
  obtain ⟨A', c', rfl, _, _, hrd, _⟩ := OwnInts.rd hown
  replace HS := Lib.hid (HS.out.later hq)
  have HRd := Lib.hid hrd
  clear hq hown hrd HV0
  go_wp2_with fail
  refine (HO.out A' c' V0 _ HRd.out HL0.out).mono ?_
  rintro x w6 ⟨rfl, rfl⟩
  clear HRd
  have c0 := HS.out.arr.1 1 (by decide)
  have f0 := HS.out.arr.2 1
  obtain ⟨l0, l1, l2, l3, l4⟩ := lineAt_ld HS.out.line
  go_wp2_with fail
  replace HS := Lib.hid (HS.out.updG 1 (by decide) (.int .u64 (maskL V0)))
  clear c0 f0 l0 l1 l2 l3 l4
  generalize World.setCell w5 _ _ = w4 at *
  refine (HV1.out _ HS.out.below).mono ?_
  rintro x w5 ⟨v, rfl, hown, hq⟩
  obtain ⟨A', c', rfl, _, _, hrd, _⟩ := OwnInts.rd hown
  replace HS := Lib.hid (HS.out.later hq)
  have HRd := Lib.hid hrd
  clear hq hown hrd HV1
  go_wp2_with fail
  refine (HO.out A' c' V1 _ HRd.out HL1.out).mono ?_
  rintro x w6 ⟨rfl, rfl⟩
  clear HRd
  have c0 := HS.out.arr.1 2 (by decide)
  have f0 := HS.out.arr.2 2
  obtain ⟨l0, l1, l2, l3, l4⟩ := lineAt_ld HS.out.line
  go_wp2_with fail
  replace HS := Lib.hid (HS.out.updG 2 (by decide) (.int .u64 (maskL V1)))
  clear c0 f0 l0 l1 l2 l3 l4
  generalize World.setCell w5 _ _ = w4 at *
  refine (HV2.out _ HS.out.below).mono ?_
  rintro x w5 ⟨v, rfl, hown, hq⟩
  obtain ⟨A', c', rfl, _, _, hrd, _⟩ := OwnInts.rd hown
  replace HS := Lib.hid (HS.out.later hq)
  have HRd := Lib.hid hrd
  clear hq hown hrd HV2
  go_wp2_with fail
  refine (HO.out A' c' V2 _ HRd.out HL2.out).mono ?_
  rintro x w6 ⟨rfl, rfl⟩
  clear HRd
  have c0 := HS.out.arr.1 4 (by decide)
  have f0 := HS.out.arr.2 4
  obtain ⟨l0, l1, l2, l3, l4⟩ := lineAt_ld HS.out.line
  go_wp2_with fail
  replace HS := Lib.hid (HS.out.updG 4 (by decide) (.int .u64 (maskL V2)))
  clear c0 f0 l0 l1 l2 l3 l4
  generalize World.setCell w5 _ _ = w4 at *
  refine (HV3.out _ HS.out.below).mono ?_
  rintro x w5 ⟨v, rfl, hown, hq⟩
  obtain ⟨A', c', rfl, _, _, hrd, _⟩ := OwnInts.rd hown
  replace HS := Lib.hid (HS.out.later hq)
  have HRd := Lib.hid hrd
  clear hq hown hrd HV3
  go_wp2_with fail
  refine (HO.out A' c' V3 _ HRd.out HL3.out).mono ?_
  rintro x w6 ⟨rfl, rfl⟩
  clear HRd
  have c0 := HS.out.arr.1 3 (by decide)
  have f0 := HS.out.arr.2 3
  obtain ⟨l0, l1, l2, l3, l4⟩ := lineAt_ld HS.out.line
  go_wp2_with fail
  replace HS := Lib.hid (HS.out.updG 3 (by decide) (.int .u64 (maskL V3)))
  clear c0 f0 l0 l1 l2 l3 l4
  generalize World.setCell w5 _ _ = w4 at *
  refine (HW.out _ HS.out.below).mono ?_
  rintro x w5 ⟨rfl, hq⟩
  replace HS := Lib.hid (HS.out.later hq)
  clear hq HW
  have c0 := HS.out.arr.1 6 (by decide)
  have f0 := HS.out.arr.2 6
  obtain ⟨l0, l1, l2, l3, l4⟩ := lineAt_ld HS.out.line
  go_wp2_with fail
  replace HS := Lib.hid (HS.out.updG 6 (by decide) (.int .u64 M4))
  clear c0 f0 l0 l1 l2 l3 l4
  generalize World.setCell w5 _ _ = w4 at *
  refine (HE2.out _ HS.out.below).mono ?_
  rintro x w6 ⟨rfl, rfl⟩
  cases E2 with
  | true =>
    have c0 := HS.out.arr.1 7 (by decide)
    have f0 := HS.out.arr.2 7
    obtain ⟨l0, l1, l2, l3, l4⟩ := lineAt_ld HS.out.line
    have HS14 := Lib.hid (HS.out.updG 7 (by decide) (.bool false))
    have HZ14 : Hid (∀ j v, zs[j]? = some v → (w4.setCell ⟨B, 7, none⟩ (.bool false)).cell? ⟨B, 0 + j, none⟩ = some v) := fun j v hj => by
      have hl : j < 30 := by rw [← HS30.out]; exact (Array.getElem?_eq_some_iff.1 hj).1
      rw [Nat.zero_add]
      refine ((HS14.out.arr.1 j hl).trans (congrArg some (HG.out j hl))).trans ?_
      rw [Array.getD_eq_getD_getElem?, hj]
      rfl
    have HT14 : Hid ((w4.setCell ⟨B, 7, none⟩ (.bool false)).there (w.heap.size + 1) 0 zs.size) := by show World.there _ _ _ _; rw [HS30.out]; exact HS14.out.out
    have HB14 := Lib.hid HS14.out.below
    clear HG HS14 HS
    go_wp2_with (first
      | (refine wp_load_arr (by rfl) 37 _ rfl zs B 0 rfl Tryz.underlying37 rfl HI2.out HZ14.out ?_)
      | (refine wp_store_at (w := w) rfl 37 _ _ rfl zs (w.heap.size + 1) (by omega) rfl rfl Tryz.underlying37 rfl HI2.out HC2.out HB14.out HT14.out ?_; intro W' hLd hbE))
    (try simp only [Exit.inBlock, Exit.then])
    refine bodyPost_ret (v := .agg zs) ?_ rfl ⟨rfl, hbE⟩
    rw [results_cell1 rfl]
    exact hLd.out
  | false =>
    obtain ⟨l0, l1, l2, l3, l4⟩ := lineAt_ld HS.out.line
    go_wp2_with fail
    refine (HE4.out _ HS.out.below).mono ?_
    rintro x w6 ⟨rfl, rfl⟩
    have c0 := HS.out.arr.1 7 (by decide)
    have f0 := HS.out.arr.2 7
    have HS14 := Lib.hid (HS.out.updG 7 (by decide) (.bool (!E4)))
    have HZ14 : Hid (∀ j v, zs[j]? = some v → (w4.setCell ⟨B, 7, none⟩ (.bool (!E4))).cell? ⟨B, 0 + j, none⟩ = some v) := fun j v hj => by
      have hl : j < 30 := by rw [← HS30.out]; exact (Array.getElem?_eq_some_iff.1 hj).1
      rw [Nat.zero_add]
      refine ((HS14.out.arr.1 j hl).trans (congrArg some (HG.out j hl))).trans ?_
      rw [Array.getD_eq_getD_getElem?, hj]
      rfl
    have HT14 : Hid ((w4.setCell ⟨B, 7, none⟩ (.bool (!E4))).there (w.heap.size + 1) 0 zs.size) := by show World.there _ _ _ _; rw [HS30.out]; exact HS14.out.out
    have HB14 := Lib.hid HS14.out.below
    clear HG HS14 HS
    go_wp2_with (first
      | (refine wp_load_arr (by rfl) 37 _ rfl zs B 0 rfl Tryz.underlying37 rfl HI2.out HZ14.out ?_)
      | (refine wp_store_at (w := w) rfl 37 _ _ rfl zs (w.heap.size + 1) (by omega) rfl rfl Tryz.underlying37 rfl HI2.out HC2.out HB14.out HT14.out ?_; intro W' hLd hbE))
    (try simp only [Exit.inBlock, Exit.then])
    refine bodyPost_ret (v := .agg zs) ?_ rfl ⟨rfl, hbE⟩
    rw [results_cell1 rfl]
    exact hLd.out
end Go.Proofs.YtochhmkdhdadhaaGreatDoor

namespace Go.Proofs.YtochhmkdhdadhaaGreatDoor
open Go.RowKit
set_option linter.unusedSimpArgs false
set_option linter.unusedVariables false

def pickB (s a b : Bool) : Bool := if s then a && b else a || b
/-- Does a line mean an instant, by its parts? -/
def meansR (l : Nat → List It) (mo d h mi sc wd : Int) : Bool :=
  decide (sc = 0) && (inB (l 0) 0 59 mi && (inB (l 1) 0 23 h && (inB (l 3) 1 12 mo &&
  pickB (starB (l 2) || starB (l 4)) (inB (l 2) 1 31 d) (inB (l 4) 0 7 wd || (decide (wd = 7) && inB (l 4) 0 7 0)))))
set_option maxRecDepth 20000 in
set_option maxHeartbeats 8000000 in
theorem rmeans24_any (A : Nat → Option Addr) (n c : Nat → Nat) (l : Nat → List It) (y mo d h mi sc wd : Int) (w : World) (hA : RdLine w A n l) (hn : ∀ k, n k ≤ 100000) :
    Calls Tryz.prog 43 #[crV A n c, .agg #[.int .i64 y, .int .i64 mo, .int .i64 d, .int .i64 h, .int .i64 mi, .int .i64 sc], .int .i64 wd] w (Ret (.bool (meansR l mo d h mi sc wd)) w) := by
  have H0 := Lib.hid (fun W (hb : Below w.heap.size w W) => rin_any (A 0) (n 0) (c 0) (l 0) 0 59 mi W ((hA 0 (by decide)).below hb (Nat.le_refl _)) (by have := hn 0; omega))
  have H1 := Lib.hid (fun W (hb : Below w.heap.size w W) => rin_any (A 1) (n 1) (c 1) (l 1) 0 23 h W ((hA 1 (by decide)).below hb (Nat.le_refl _)) (by have := hn 1; omega))
  have H3 := Lib.hid (fun W (hb : Below w.heap.size w W) => rin_any (A 3) (n 3) (c 3) (l 3) 1 12 mo W ((hA 3 (by decide)).below hb (Nat.le_refl _)) (by have := hn 3; omega))
  have H2 := Lib.hid (fun W (hb : Below w.heap.size w W) => rin_any (A 2) (n 2) (c 2) (l 2) 1 31 d W ((hA 2 (by decide)).below hb (Nat.le_refl _)) (by have := hn 2; omega))
  have H4 := Lib.hid (fun W (hb : Below w.heap.size w W) => rin_any (A 4) (n 4) (c 4) (l 4) 0 7 wd W ((hA 4 (by decide)).below hb (Nat.le_refl _)) (by have := hn 4; omega))
  have H5 := Lib.hid (fun W (hb : Below w.heap.size w W) => rin_any (A 4) (n 4) (c 4) (l 4) 0 7 0 W ((hA 4 (by decide)).below hb (Nat.le_refl _)) (by have := hn 4; omega))
  have HE2 := Lib.hid (fun W (hb : Below w.heap.size w W) => rstarred_any (A 2) (n 2) (c 2) (l 2) W ((hA 2 (by decide)).below hb (Nat.le_refl _)))
  have HE4 := Lib.hid (fun W (hb : Below w.heap.size w W) => rstarred_any (A 4) (n 4) (c 4) (l 4) W ((hA 4 (by decide)).below hb (Nat.le_refl _)))
  unfold meansR
  clear hA hn
  have h7 : (wd == 7) = decide (wd = 7) := rfl
  generalize decide (wd = 7) = b7 at *
  generalize inB (l 0) 0 59 mi = b0 at *
  generalize inB (l 1) 0 23 h = b1 at *
  generalize inB (l 3) 1 12 mo = b3 at *
  generalize inB (l 2) 1 31 d = b2 at *
  generalize inB (l 4) 0 7 wd = b4 at *
  generalize inB (l 4) 0 7 0 = b5 at *
  generalize starB (l 2) = E2 at *
  generalize starB (l 4) = E4 at *
  have hL : LineAt ((w.alloc (.cells #[.slice (A 0) (n 0) (c 0), .slice (A 1) (n 1) (c 1), .slice (A 2) (n 2) (c 2), .slice (A 3) (n 3) (c 3), .slice (A 4) (n 4) (c 4)] 24)).alloc (.cells #[.int .i64 y, .int .i64 mo, .int .i64 d, .int .i64 h, .int .i64 mi, .int .i64 sc] 76)) w.heap.size 0 A n c := ⟨by simp [go_sem], by simp [go_sem], by simp [go_sem], by simp [go_sem], by simp [go_sem]⟩
  have hS : ∀ j v, (#[.int .i64 y, .int .i64 mo, .int .i64 d, .int .i64 h, .int .i64 mi, .int .i64 sc] : Array Value)[j]? = some v → ((w.alloc (.cells #[.slice (A 0) (n 0) (c 0), .slice (A 1) (n 1) (c 1), .slice (A 2) (n 2) (c 2), .slice (A 3) (n 3) (c 3), .slice (A 4) (n 4) (c 4)] 24)).alloc (.cells #[.int .i64 y, .int .i64 mo, .int .i64 d, .int .i64 h, .int .i64 mi, .int .i64 sc] 76)).cell? ⟨w.heap.size + 1, j, none⟩ = some v := fun j v hj => by
    have := lies_new (w.alloc (.cells #[.slice (A 0) (n 0) (c 0), .slice (A 1) (n 1) (c 1), .slice (A 2) (n 2) (c 2), .slice (A 3) (n 3) (c 3), .slice (A 4) (n 4) (c 4)] 24)) #[.int .i64 y, .int .i64 mo, .int .i64 d, .int .i64 h, .int .i64 mi, .int .i64 sc] 76 j v hj
    simpa using this
  go_enter Tryz.func43, Tryz.ntmps43
  by_cases hs : sc = 0
  · have hs' : (sc != 0) = false := by simpa using hs
    rw [decide_eq_true hs]
    clear hs
    go_wp2_with fail
    have hb0 : Below w.heap.size w ((w.alloc (.cells #[.slice (A 0) (n 0) (c 0), .slice (A 1) (n 1) (c 1), .slice (A 2) (n 2) (c 2), .slice (A 3) (n 3) (c 3), .slice (A 4) (n 4) (c 4)] 24)).alloc (.cells #[.int .i64 y, .int .i64 mo, .int .i64 d, .int .i64 h, .int .i64 mi, .int .i64 sc] 76)) := by (repeat' (first | (with_reducible exact Below.refl _ _) | (with_reducible assumption) | (with_reducible refine below_drewN ?_ _) | (with_reducible refine Below.alloc ?_ ?_ _) | (with_reducible refine Below.drew ?_) | (with_reducible refine Below.setCell ?_ ?_ _) | go_size))
    have hz0 : w.heap.size + 2 ≤ ((w.alloc (.cells #[.slice (A 0) (n 0) (c 0), .slice (A 1) (n 1) (c 1), .slice (A 2) (n 2) (c 2), .slice (A 3) (n 3) (c 3), .slice (A 4) (n 4) (c 4)] 24)).alloc (.cells #[.int .i64 y, .int .i64 mo, .int .i64 d, .int .i64 h, .int .i64 mi, .int .i64 sc] 76)).heap.size := by simp
    generalize (w.alloc (.cells #[.slice (A 0) (n 0) (c 0), .slice (A 1) (n 1) (c 1), .slice (A 2) (n 2) (c 2), .slice (A 3) (n 3) (c 3), .slice (A 4) (n 4) (c 4)] 24)).alloc (.cells #[.int .i64 y, .int .i64 mo, .int .i64 d, .int .i64 h, .int .i64 mi, .int .i64 sc] 76) = w0 at *
    have HL0 := Lib.hid hL
    have HS0 := Lib.hid hS
    clear hL hS
    refine (H0.out _ hb0).mono ?_
    rintro e w1 ⟨rfl, hq⟩
    have HL1 := Lib.hid (LineAt.below HL0.out (fun o => hq.cell (p := ⟨_, o, none⟩) (by show w.heap.size < w0.heap.size; omega)))
    have HS1 := Lib.hid (lies_below HS0.out hq)
    have hb1 := bthen hb0 hq hb0.size
    have hz1 : w.heap.size + 2 ≤ w1.heap.size := by have := hq.size; omega
    clear hq HL0 HS0 hb0 hz0 H0
    cases b0 with
    | false => go_wp2; go_ret; exact ⟨rfl, hb1⟩
    | true =>
      obtain ⟨l0, l1, l2, l3, l4⟩ := lineAt_ld HL1.out
      have s3 : w1.cell? ⟨w.heap.size + 1, 3, none⟩ = some (.int .i64 h) := HS1.out 3 _ rfl
      go_wp2_with fail
      clear l0 l1 l2 l3 l4 s3
      refine (H1.out _ hb1).mono ?_
      rintro e w2 ⟨rfl, hq⟩
      have HL2 := Lib.hid (LineAt.below HL1.out (fun o => hq.cell (p := ⟨_, o, none⟩) (by show w.heap.size < w1.heap.size; omega)))
      have HS2 := Lib.hid (lies_below HS1.out hq)
      have hb2 := bthen hb1 hq hb1.size
      have hz2 : w.heap.size + 2 ≤ w2.heap.size := by have := hq.size; omega
      clear hq HL1 HS1 hb1 hz1 H1
      cases b1 with
      | false => go_wp2; go_ret; exact ⟨rfl, hb2⟩
      | true =>
        obtain ⟨l0, l1, l2, l3, l4⟩ := lineAt_ld HL2.out
        have s1 : w2.cell? ⟨w.heap.size + 1, 1, none⟩ = some (.int .i64 mo) := HS2.out 1 _ rfl
        go_wp2_with fail
        clear l0 l1 l2 l3 l4 s1
        refine (H3.out _ hb2).mono ?_
        rintro e w3 ⟨rfl, hq⟩
        have HL3 := Lib.hid (LineAt.below HL2.out (fun o => hq.cell (p := ⟨_, o, none⟩) (by show w.heap.size < w2.heap.size; omega)))
        have HS3 := Lib.hid (lies_below HS2.out hq)
        have hb3 := bthen hb2 hq hb2.size
        have hz3 : w.heap.size + 2 ≤ w3.heap.size := by have := hq.size; omega
        clear hq HL2 HS2 hb2 hz2 H3
        cases b3 with
        | false => go_wp2; go_ret; exact ⟨rfl, hb3⟩
        | true =>
          obtain ⟨l0, l1, l2, l3, l4⟩ := lineAt_ld HL3.out
          have s2 : w3.cell? ⟨w.heap.size + 1, 2, none⟩ = some (.int .i64 d) := HS3.out 2 _ rfl
          go_wp2_with fail
          clear l0 l1 l2 l3 l4 s2
          refine (H2.out _ hb3).mono ?_
          rintro e w4 ⟨rfl, hq⟩
          have HL4 := Lib.hid (LineAt.below HL3.out (fun o => hq.cell (p := ⟨_, o, none⟩) (by show w.heap.size < w3.heap.size; omega)))
          have HS4 := Lib.hid (lies_below HS3.out hq)
          have hb4 := bthen hb3 hq hb3.size
          have hz4 : w.heap.size + 2 ≤ w4.heap.size := by have := hq.size; omega
          clear hq HL3 HS3 hb3 hz3 H2
          obtain ⟨l0, l1, l2, l3, l4⟩ := lineAt_ld HL4.out
          go_wp2_with fail
          clear l0 l1 l2 l3 l4
          refine (H4.out _ hb4).mono ?_
          rintro e w5 ⟨rfl, hq⟩
          have HL5 := Lib.hid (LineAt.below HL4.out (fun o => hq.cell (p := ⟨_, o, none⟩) (by show w.heap.size < w4.heap.size; omega)))
          have HS5 := Lib.hid (lies_below HS4.out hq)
          have hb5 := bthen hb4 hq hb4.size
          have hz5 : w.heap.size + 2 ≤ w5.heap.size := by have := hq.size; omega
          clear hq HL4 HS4 hb4 hz4 H4
          cases b4 with
          | true =>
            obtain ⟨l0, l1, l2, l3, l4⟩ := lineAt_ld HL5.out
            go_wp2_with fail
            refine (HE2.out _ hb5).mono ?_
            rintro e wx ⟨rfl, hq⟩
            subst hq
            cases E2 with
            | true => cases b2 <;> ((go_wp2; go_ret; exact ⟨rfl, hb5⟩))
            | false =>
              go_wp2_with fail
              refine (HE4.out _ hb5).mono ?_
              rintro e wx ⟨rfl, hq⟩
              subst hq
              cases E4 <;> cases b2 <;> ((go_wp2; go_ret; exact ⟨rfl, hb5⟩))
          | false =>
            cases b7 with
            | true =>
              obtain ⟨l0, l1, l2, l3, l4⟩ := lineAt_ld HL5.out
              go_wp2_with fail
              clear l0 l1 l2 l3 l4
              refine (H5.out _ hb5).mono ?_
              rintro e w6 ⟨rfl, hq⟩
              have HL6 := Lib.hid (LineAt.below HL5.out (fun o => hq.cell (p := ⟨_, o, none⟩) (by show w.heap.size < w5.heap.size; omega)))
              have HS6 := Lib.hid (lies_below HS5.out hq)
              have hb6 := bthen hb5 hq hb5.size
              have hz6 : w.heap.size + 2 ≤ w6.heap.size := by have := hq.size; omega
              clear hq HL5 HS5 hb5 hz5 H5
              obtain ⟨l0, l1, l2, l3, l4⟩ := lineAt_ld HL6.out
              go_wp2_with fail
              refine (HE2.out _ hb6).mono ?_
              rintro e wx ⟨rfl, hq⟩
              subst hq
              cases E2 with
              | true => cases b2 <;> (cases b5 <;> (go_wp2; go_ret; exact ⟨rfl, hb6⟩))
              | false =>
                go_wp2_with fail
                refine (HE4.out _ hb6).mono ?_
                rintro e wx ⟨rfl, hq⟩
                subst hq
                cases E4 <;> cases b2 <;> (cases b5 <;> (go_wp2; go_ret; exact ⟨rfl, hb6⟩))
            | false =>
              obtain ⟨l0, l1, l2, l3, l4⟩ := lineAt_ld HL5.out
              go_wp2_with fail
              refine (HE2.out _ hb5).mono ?_
              rintro e wx ⟨rfl, hq⟩
              subst hq
              cases E2 with
              | true => cases b2 <;> ((go_wp2; go_ret; exact ⟨rfl, hb5⟩))
              | false =>
                go_wp2_with fail
                refine (HE4.out _ hb5).mono ?_
                rintro e wx ⟨rfl, hq⟩
                subst hq
                cases E4 <;> cases b2 <;> ((go_wp2; go_ret; exact ⟨rfl, hb5⟩))
  · have hs' : (sc != 0) = true := by simpa using hs
    rw [decide_eq_false hs]
    clear hs
    go_wp2
    go_ret
    exact ⟨rfl, by (repeat' (first | (with_reducible exact Below.refl _ _) | (with_reducible assumption) | (with_reducible refine below_drewN ?_ _) | (with_reducible refine Below.alloc ?_ ?_ _) | (with_reducible refine Below.drew ?_) | (with_reducible refine Below.setCell ?_ ?_ _) | go_size))⟩
end Go.Proofs.YtochhmkdhdadhaaGreatDoor
