/- The walks of callow: a wrong event, Lower; the document's clause of an event. -/
import Derived.Test.YtochhmkdhdadhaaGreatWKlB
import Derived.Test.YtochhmkdhdadhaaGreatWWide2
namespace Go.Proofs.YtochhmkdhdadhaaGreat
open Go.RowKit
set_option linter.unusedSimpArgs false
set_option linter.unusedVariables false

set_option maxRecDepth 20000 in
set_option maxHeartbeats 4000000 in
theorem klowClause_bad (A : Nat → Option Addr) (n m : Nat → Nat) (c : CalV) (w : World) (hA : RdEv w A n c) (hn : ∀ k, k < 7 → n (kslot k) ≤ 9223372036854775807) (h : (kchk c).2 ≠ 0) :
    Calls Tryz.prog 9 #[evV A n m c.back] w (Ret (.tuple #[.agg (clA zeroC), .int .i64 (kchk c).2]) w) := by
  have HK := Lib.hid (fun W (hb : Below w.heap.size w W) => kcheck_any A n m c c.back W (hA.below hb) hn)
  have he : ((kchk c).2 != 0) = true := by simpa using h
  clear hA hn h
  generalize (kchk c).1 = f at *
  generalize (kchk c).2 = e at *
  generalize c.back = bk at *
  have HZ : Hid (Value.agg (clA zeroC) = .agg #[.int .u64 0, .int .u64 0, .int .u64 0, .int .u64 0, .int .u64 0, .int .u64 0, .int .u64 0, .bool false, .int .i64 0, .bool false, .int .u64 0, .int .u64 0, .int .u64 0, .int .u64 0, .int .u64 0, .int .u64 0, .int .u64 0, .int .u64 0, .int .u64 0, .int .u64 0, .int .u64 0, .int .u64 0, .int .u64 0, .int .u64 0, .int .u64 0, .int .i64 0, .int .i64 0, .int .i64 0, .int .i64 0, .int .i64 0]) := rfl
  rw [HZ.out]
  clear HZ
  unfold evV
  go_enter Tryz.func9, Tryz.ntmps9
  go_wp2_with fail
  refine (HK.out _ (by (repeat' (first | (with_reducible exact Below.refl _ _) | (with_reducible assumption) | (with_reducible refine below_drewN ?_ _) | (with_reducible refine Below.alloc ?_ ?_ _) | (with_reducible refine Below.drew ?_) | (with_reducible refine Below.setCell ?_ ?_ _) | go_size)))).mono ?_
  rintro x w1 ⟨rfl, hb1⟩
  have hbW : Below w.heap.size w w1 := (((Below.refl _ w).alloc (Nat.le_refl _) _).alloc (by simp) _).trans (hb1.mono (by simp; omega))
  have hT := there_below (there_new (w.alloc (.cells #[.slice (A 0) (n 0) (m 0), .slice (A 1) (n 1) (m 1), .slice (A 2) (n 2) (m 2), .slice (A 3) (n 3) (m 3), .bool bk, .slice (A 5) (n 5) (m 5), .slice (A 6) (n 6) (m 6), .slice (A 7) (n 7) (m 7)] 24)) #[.int .u64 0, .int .u64 0, .int .u64 0, .int .u64 0, .int .u64 0, .int .u64 0, .int .u64 0, .bool false, .int .i64 0, .bool false, .int .u64 0, .int .u64 0, .int .u64 0, .int .u64 0, .int .u64 0, .int .u64 0, .int .u64 0, .int .u64 0, .int .u64 0, .int .u64 0, .int .u64 0, .int .u64 0, .int .u64 0, .int .u64 0, .int .u64 0, .int .i64 0, .int .i64 0, .int .i64 0, .int .i64 0, .int .i64 0] 37) (by simp) hb1
  rw [show (w.alloc (.cells #[.slice (A 0) (n 0) (m 0), .slice (A 1) (n 1) (m 1), .slice (A 2) (n 2) (m 2), .slice (A 3) (n 3) (m 3), .bool bk, .slice (A 5) (n 5) (m 5), .slice (A 6) (n 6) (m 6), .slice (A 7) (n 7) (m 7)] 24)).heap.size = w.heap.size + 1 by simp] at hT
  clear hb1
  go_wp2_with (refine wp_store_at (w := w) rfl 37 _ _ rfl #[.int .u64 0, .int .u64 0, .int .u64 0, .int .u64 0, .int .u64 0, .int .u64 0, .int .u64 0, .bool false, .int .i64 0, .bool false, .int .u64 0, .int .u64 0, .int .u64 0, .int .u64 0, .int .u64 0, .int .u64 0, .int .u64 0, .int .u64 0, .int .u64 0, .int .u64 0, .int .u64 0, .int .u64 0, .int .u64 0, .int .u64 0, .int .u64 0, .int .i64 0, .int .i64 0, .int .i64 0, .int .i64 0, .int .i64 0] (w.heap.size + 1) (by omega) rfl rfl Tryz.underlying37 rfl (by kernel_rfl) (by kernel_rfl) hbW hT ?_; intro W' hLd hbE)
  (try simp only [Exit.inBlock, Exit.then])
  refine bodyPost_ret (v := .tuple #[.agg #[.int .u64 0, .int .u64 0, .int .u64 0, .int .u64 0, .int .u64 0, .int .u64 0, .int .u64 0, .bool false, .int .i64 0, .bool false, .int .u64 0, .int .u64 0, .int .u64 0, .int .u64 0, .int .u64 0, .int .u64 0, .int .u64 0, .int .u64 0, .int .u64 0, .int .u64 0, .int .u64 0, .int .u64 0, .int .u64 0, .int .u64 0, .int .u64 0, .int .i64 0, .int .i64 0, .int .i64 0, .int .i64 0, .int .i64 0], .int .i64 e]) ?_ rfl ⟨rfl, hbE⟩
  rw [results_cell_b rfl]
  show ((loadVar 37 ⟨w.heap.size + 1, 0, none⟩).run Tryz.prog W').andThen (fun v w₂ => Result.ok (Value.tuple #[v, Value.int .i64 e]) w₂) = _
  rw [hLd.out]
  rfl
set_option maxRecDepth 20000 in
set_option maxHeartbeats 4000000 in
theorem klower_ok (A : Nat → Option Addr) (n m : Nat → Nat) (c : CalV) (w : World) (hA : RdEv w A n c) (hn : ∀ j, j < 8 → j ≠ 4 → n j ≤ 100000) (h : kchk c = (7, 0)) :
    Calls Tryz.prog 8 #[evV A n m c.back] w (RetOneCl (evC c) w) := by
  have HC := Lib.hid (fun W (hb : Below w.heap.size w W) => klowClause_ok A n m c W (hA.below hb) hn h)
  have HI := Lib.hid (cl_info (evC c))
  have H1 := Lib.hid (clA_cells (evC c))
  have Hs : Hid (30 = (clA (evC c)).size) := rfl
  have HR := Lib.hid (fun w t => rdCls_one w (evC c) t)
  clear hA hn h
  generalize clA (evC c) = cs at *
  generalize evC c = K at *
  generalize c.back = bk at *
  unfold evV at *
  go_enter Tryz.func8, Tryz.ntmps8
  go_wp2_with fail
  refine (HC.out _ (by (repeat' (first | (with_reducible exact Below.refl _ _) | (with_reducible assumption) | (with_reducible refine below_drewN ?_ _) | (with_reducible refine Below.alloc ?_ ?_ _) | (with_reducible refine Below.drew ?_) | (with_reducible refine Below.setCell ?_ ?_ _) | go_size)))).mono ?_
  rintro x w1 ⟨rfl, hq1⟩
  have hb1 : Below w.heap.size w w1 := ((Below.refl _ w).alloc (Nat.le_refl _) _).trans (hq1.mono (by simp))
  clear hq1 HC
  have hcs : cs.size = 30 := Hs.out.symm
  go_wp2_with (first
    | (refine wp_store_new (by rfl) 37 _ _ rfl cs _ rfl rfl HI.out H1.out Hs.out ?_; intro w2 hq2 HS2 hz2)
    | (refine wp_load_arr (by rfl) 37 _ rfl cs w1.heap.size 0 rfl Tryz.underlying37 rfl HI.out (lies0 (arr_lies HS2)) ?_))
  have hb2 := bthen hb1 hq2 hb1.size
  have hbE : Below w.heap.size w (w2.alloc (.cells cs 37)) := hb2.alloc hb2.size _
  rw [fold_put cs _ 30 rfl hcs, ← hz2]
  refine bodyPost_ret (results_tmp2 rfl _ _ _) rfl ?_
  exact ⟨_, rfl, HR.out _ _, hbE⟩
set_option maxRecDepth 20000 in
set_option maxHeartbeats 4000000 in
theorem klower_bad (A : Nat → Option Addr) (n m : Nat → Nat) (c : CalV) (w : World) (hA : RdEv w A n c) (hn : ∀ k, k < 7 → n (kslot k) ≤ 9223372036854775807) (h : (kchk c).2 ≠ 0) :
    Calls Tryz.prog 8 #[evV A n m c.back] w (Ret (.tuple #[.slice none 0 0, .int .i64 (kchk c).2]) w) := by
  have HC := Lib.hid (fun W (hb : Below w.heap.size w W) => klowClause_bad A n m c W (hA.below hb) hn h)
  have HI := Lib.hid (cl_info zeroC)
  have H1 := Lib.hid (clA_cells zeroC)
  have Hs : Hid (30 = (clA zeroC).size) := rfl
  have he : ((kchk c).2 != 0) = true := by simpa using h
  clear hA hn h
  generalize (kchk c).2 = e at *
  generalize clA zeroC = cs at *
  generalize c.back = bk at *
  unfold evV at *
  go_enter Tryz.func8, Tryz.ntmps8
  go_wp2_with fail
  refine (HC.out _ (by (repeat' (first | (with_reducible exact Below.refl _ _) | (with_reducible assumption) | (with_reducible refine below_drewN ?_ _) | (with_reducible refine Below.alloc ?_ ?_ _) | (with_reducible refine Below.drew ?_) | (with_reducible refine Below.setCell ?_ ?_ _) | go_size)))).mono ?_
  rintro x w1 ⟨rfl, hq1⟩
  have hb1 : Below w.heap.size w w1 := ((Below.refl _ w).alloc (Nat.le_refl _) _).trans (hq1.mono (by simp))
  clear hq1 HC
  go_wp2_with (refine wp_store_new (by rfl) 37 _ _ rfl cs _ rfl rfl HI.out H1.out Hs.out ?_; intro w2 hq2 HS2 hz2)
  refine bodyPost_ret (results_tmp2 rfl _ _ _) rfl ?_
  exact ⟨rfl, bthen hb1 hq2 hb1.size⟩
end Go.Proofs.YtochhmkdhdadhaaGreat
