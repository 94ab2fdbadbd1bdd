/- The walk of the law CallowWhole. -/
import Derived.Test.YtochhmkdhdadhaaGreatLKlow
namespace Go.Proofs.YtochhmkdhdadhaaGreat
open Go.RowKit
set_option linter.unusedSimpArgs false
set_option linter.unusedVariables false

theorem wpList_of_quiet {P : Program} {ops : Array Oper} {C : World → Prop} {Q : Exit → Act → World → Prop} {Q0 : Act → Prop} (hQ : ∀ a w, C w → Q0 a → Q .normal a w) : ∀ (l : List Oper) (a : Act) (w : World), C w → wpQuiet P ops C Q0 l a → wpList P ops Q l a w
  | [], a, w, hC, h => hQ a w hC h
  | o :: rest, a, w, hC, h => by
    unfold wpQuiet at h
    unfold wpList
    by_cases hw : Region.wanted o (yielded ops a.tmps) = true
    · rw [if_pos hw] at h ⊢
      exact .inl (Oper.wp_of_quiet hC (fun a' w' hC' hk => wpList_of_quiet hQ rest a' w' hC' hk) h)
    · rw [if_neg hw] at h ⊢
      exact wpList_of_quiet hQ rest _ w hC h
/-- A plain region's operations, walked as a region that draws is: calls and reads alone. -/
theorem wpList_grew {P : Program} {ops : Array Oper} {Q : Exit → Act → World → Prop} {l : List Oper} {a : Act} {w : World} (h : wpQuiet P ops (Grew w) (fun a' => ∀ w', Grew w w' → Q .normal a' w') l a) : wpList P ops Q l a w :=
  wpList_of_quiet (fun _ w' hC hq => hq w' hC) l a w ⟨⟨w, Below.refl _ _⟩, rfl⟩ h
theorem grew_then {w W : World} (x : Ext w) (h : Grew x.W W) : Grew w W := by
  obtain ⟨y, rfl⟩ := h
  exact ⟨⟨y.W, x.h.trans (y.h.mono x.h.size)⟩, rfl⟩
set_option maxRecDepth 20000 in
set_option maxHeartbeats 8000000 in
theorem callowWhole_any (A : Nat → Option Addr) (n m : Nat → Nat) (c : CalV) (w : World) (hA : RdEv w A n c) (hn : ∀ k, k < 7 → n (kslot k) ≤ 9223372036854775807) (hm : MaxAt w) :
    Calls Tryz.prog 5 #[evV A n m c.back] w (Ret (.bool true) w) := by
  have HV := Lib.hid (fun W (hb : Below w.heap.size w W) => lives31_any W (hm.below hb))
  rcases kchk_or c with hc | hc
  · have HC := Lib.hid (fun W (hb : Below w.heap.size w W) => klowClause_ok A n m c W (hA.below hb) (ev_small hA hc) hc)
    have HF := Lib.hid (fun W => cfull_any W)
    have HI := Lib.hid (cl_info (evC c))
    have H1 := Lib.hid (clA_cells (evC c))
    have HI2 := Lib.hid (cl_info fullC)
    have H2 := Lib.hid (clA_cells fullC)
    have Hs : Hid (30 = (clA (evC c)).size) := rfl
    have Hs2 : Hid (30 = (clA fullC).size) := rfl
    have hl0 : (kget c 0).length = n 0 := (hA.slot (k := 0) (by decide)).1
    have hX : ∃ X4 X5 X6 : Int, ((clA (evC c))[4]? = some (.int .u64 X4) ∧ (clA (evC c))[5]? = some (.int .u64 X5) ∧ (clA (evC c))[6]? = some (.int .u64 X6)) ∧ (c.back = true → X4 = spanM 1 31) ∧ (c.back = false → X5 = spanM 1 31) ∧ (n 0 = 0 → X6 = spanM 1 7) := by
      refine ⟨_, _, _, ⟨rfl, rfl, rfl⟩, fun h => ?_, fun h => ?_, fun h => ?_⟩
      · show (if c.back then spanM 1 31 else _) = _
        rw [h, if_pos rfl]
      · show (if c.back then _ else spanM 1 31) = _
        rw [h, if_neg (by simp)]
      · show evWk c = _
        exact if_pos (by omega)
    have hg : Hid ((clA (evC c))[7]? = some (.bool false) ∧ (clA (evC c))[25]? = some (.int .i64 0) ∧ (clA (evC c))[26]? = some (.int .i64 1) ∧ (clA (evC c))[27]? = some (.int .i64 0) ∧ (clA (evC c))[28]? = some (.int .i64 0) ∧ (clA (evC c))[29]? = some (.int .i64 12622780799)) := ⟨rfl, rfl, rfl, rfl, rfl, rfl⟩
    have hf : Hid ((clA fullC)[4]? = some (.int .u64 (spanM 1 31)) ∧ (clA fullC)[5]? = some (.int .u64 (spanM 1 31)) ∧ (clA fullC)[6]? = some (.int .u64 (spanM 1 7)) ∧ (clA fullC)[25]? = some (.int .i64 0) ∧ (clA fullC)[27]? = some (.int .i64 0) ∧ (clA fullC)[28]? = some (.int .i64 0) ∧ (clA fullC)[29]? = some (.int .i64 12622780799)) := ⟨rfl, rfl, rfl, rfl, rfl, rfl, rfl⟩
    have hoA : Hid (∀ j v, (ordA fullC)[j]? = some v → (clA fullC)[8 + j]? = some v ∧ (clA (evC c))[8 + j]? = some v) := fun j v hj => by
      have hl : j < 10 := (Array.getElem?_eq_some_iff.1 hj).1
      obtain rfl | rfl | rfl | rfl | rfl | rfl | rfl | rfl | rfl | rfl : j = 0 ∨ j = 1 ∨ j = 2 ∨ j = 3 ∨ j = 4 ∨ j = 5 ∨ j = 6 ∨ j = 7 ∨ j = 8 ∨ j = 9 := by omega
      all_goals exact ⟨hj, hj⟩
    have eo : ∀ W, (binOp .eql 34 (.agg (ordA fullC)) (.agg (ordA fullC))).run Tryz.prog W = .ok (.bool true) W := fun W => eql_ord fullC W
    have hz10 : (ordA fullC).size = 10 := rfl
    have Hi10 : (Tryz.prog.info? 34).map (·.size) = some 10 := by kernel_rfl
    obtain ⟨X4, X5, X6, hXs, hX4, hX5, hX6⟩ := hX
    replace hXs := Lib.hid hXs
    generalize ordA fullC = os at *
    rw [← hz10] at Hi10
    replace Hi10 := Lib.hid Hi10
    clear hz10 hA hn hc hl0
    generalize clA fullC = cs at *
    generalize clA (evC c) = zs at *
    generalize spanM 1 31 = M5 at *
    generalize spanM 1 7 = M6 at *
    generalize c.back = bk at *
    unfold evV at *
    by_cases h0 : n 0 = 0
    · obtain rfl := hX6 h0
      have h0' : ((n 0 : Int) == 0) = true := by simpa using h0
      clear h0 hX6
      cases bk with
      | true =>
        obtain rfl := hX4 rfl
        clear hX4 hX5
        go_enter Tryz.func5, Tryz.ntmps5
        go_wp2_with fail
        have hE := evAt_new w A n m true 24
        have HE := Lib.hid hE
        clear hE
        refine (HC.out _ (by (repeat' (first | (with_reducible exact Below.refl _ _) | (with_reducible assumption) | (with_reducible refine below_drewN ?_ _) | (with_reducible refine Below.alloc ?_ ?_ _) | (with_reducible refine Below.drew ?_) | (with_reducible refine Below.setCell ?_ ?_ _) | go_size)))).mono ?_
        rintro x w1 ⟨rfl, hq1⟩
        have hb1 : Below w.heap.size w w1 := ((Below.refl _ w).alloc (Nat.le_refl _) _).trans (hq1.mono (by simp))
        have HE1 := Lib.hid (HE.out.below hq1)
        have hz1 : w.heap.size < w1.heap.size := by have := hq1.size; simp at this; omega
        clear hq1 HC HE
        go_wp2_with (first | (refine wp_store_new (by rfl) 37 _ _ rfl zs _ rfl rfl HI.out H1.out Hs.out ?_; intro w2 hq2 HS2 hz2) | fail)
        have hb2 := bthen hb1 hq2 hb1.size
        have HE2 := Lib.hid (HE1.out.below hq2)
        have HSx : Hid (∀ j v, zs[j]? = some v → w2.cell? ⟨w1.heap.size, j, none⟩ = some v) := arr_lies HS2
        have hlt2 : w1.heap.size < w2.heap.size := by omega
        have hlw2 : w.heap.size < w2.heap.size := by omega
        clear hq2 HS2 HE1 hz2 hb1 hz1
        generalize hB : w1.heap.size = B at *
        clear hB
        refine (HF.out _).mono ?_
        rintro x w3 ⟨rfl, hq3⟩
        have hb3 := bthen hb2 hq3 hb2.size
        have HE3 := Lib.hid (HE2.out.below hq3)
        have HS3 : Hid (∀ j v, zs[j]? = some v → w3.cell? ⟨B, j, none⟩ = some v) := fun j v hj => keepc hq3 (HSx.out j v hj)
        have hlt3 : B < w3.heap.size := Nat.lt_of_lt_of_le hlt2 hq3.size
        have hlw3 : w.heap.size < w3.heap.size := Nat.lt_of_lt_of_le hlw2 hq3.size
        clear HE2 HSx hb2 hq3 hlt2 hlw2
        go_wp2_with (first | (refine wp_store_new (by rfl) 37 _ _ rfl cs _ rfl rfl HI2.out H2.out Hs2.out ?_; intro w4 hq4 HS4 hz4; have hDs : Hid (∀ j v, cs[j]? = some v → w4.cell? ⟨w3.heap.size, j, none⟩ = some v) := arr_lies HS4; have hBs : Hid (∀ j v, zs[j]? = some v → w4.cell? ⟨B, j, none⟩ = some v) := fun j v hj => keepc hq4 (HS3.out j v hj); have HE4 := Lib.hid (HE3.out.below hq4); have hb4 := bthen hb3 hq4 hb3.size; have e0 := fun y : Ext w4 => y.cell HE4.out.h0; have e4 := fun y : Ext w4 => y.cell HE4.out.h4; have x4 := fun y : Ext w4 => y.cell (hBs.out _ _ hXs.out.1); have x5 := fun y : Ext w4 => y.cell (hBs.out _ _ hXs.out.2.1); have x6 := fun y : Ext w4 => y.cell (hBs.out _ _ hXs.out.2.2); have x7 := fun y : Ext w4 => y.cell (hBs.out _ _ hg.out.1); have x25 := fun y : Ext w4 => y.cell (hBs.out _ _ hg.out.2.1); have x26 := fun y : Ext w4 => y.cell (hBs.out _ _ hg.out.2.2.1); have x27 := fun y : Ext w4 => y.cell (hBs.out _ _ hg.out.2.2.2.1); have x28 := fun y : Ext w4 => y.cell (hBs.out _ _ hg.out.2.2.2.2.1); have x29 := fun y : Ext w4 => y.cell (hBs.out _ _ hg.out.2.2.2.2.2); have y4 := fun y : Ext w4 => y.cell (hDs.out _ _ hf.out.1); have y5 := fun y : Ext w4 => y.cell (hDs.out _ _ hf.out.2.1); have y6 := fun y : Ext w4 => y.cell (hDs.out _ _ hf.out.2.2.1); have y25 := fun y : Ext w4 => y.cell (hDs.out _ _ hf.out.2.2.2.1); have y27 := fun y : Ext w4 => y.cell (hDs.out _ _ hf.out.2.2.2.2.1); have y28 := fun y : Ext w4 => y.cell (hDs.out _ _ hf.out.2.2.2.2.2.1); have y29 := fun y : Ext w4 => y.cell (hDs.out _ _ hf.out.2.2.2.2.2.2); have hoB : Hid (∀ W, Grew w4 W → ∀ j v, os[j]? = some v → W.cell? ⟨B, 8 + j, none⟩ = some v) := (fun W ⟨y, hy⟩ j v hj => by rw [hy]; exact y.cell (hBs.out _ _ (hoA.out j v hj).2)); have hoD : Hid (∀ W, Grew w4 W → ∀ j v, os[j]? = some v → W.cell? ⟨w3.heap.size, 8 + j, none⟩ = some v) := (fun W ⟨y, hy⟩ j v hj => by rw [hy]; exact y.cell (hDs.out _ _ (hoA.out j v hj).1)); clear hq4 HS4 hz4 HE3 HS3 hDs hBs hb3 HE4 hg hf hoA hXs HI H1 Hs HI2 H2 Hs2 HF hlt3 hlw3) | (show wpList _ _ _ ({ dst := some 15, op := _, type := _, pos := _, after := _, guard := _ } :: _) _ _; refine wpList_grew ?_; (try simp only [Act.put, List.append, List.cons_append, List.nil_append]); (repeat (first | go_big_quiet_skip | (go_big_quiet_want; (first | (fail; simp only [Act.put, List.setIfInBounds_toArray, List.set_cons_succ, List.set_cons_zero]; go_big_quiet_on) | (go_big_quiet_op; (first | go_big_quiet_on | go_big_quiet_call (with_reducible exact ext_call _ (HVx.out _)))))))); refine wpQuiet_nil ?_; rintro _ ⟨xw, rfl⟩; clear e0 e4 x4 x5 x6 y4 y5 y6; replace x7 := fun z : Ext xw.W => z.cell (x7 xw); replace x25 := fun z : Ext xw.W => z.cell (x25 xw); replace x26 := fun z : Ext xw.W => z.cell (x26 xw); replace x27 := fun z : Ext xw.W => z.cell (x27 xw); replace x28 := fun z : Ext xw.W => z.cell (x28 xw); replace x29 := fun z : Ext xw.W => z.cell (x29 xw); replace y25 := fun z : Ext xw.W => z.cell (y25 xw); replace y27 := fun z : Ext xw.W => z.cell (y27 xw); replace y28 := fun z : Ext xw.W => z.cell (y28 xw); replace y29 := fun z : Ext xw.W => z.cell (y29 xw); have hbw := bthen hb4 (Ext.h xw) hb4.size; have HVx := Lib.hid (fun z : Ext xw.W => HV.out z.W (bthen hbw z.h hbw.size))) | (show wpList _ _ _ ({ dst := some 49, op := _, type := _, pos := _, after := _, guard := _ } :: _) _ _; refine wpList_grew ?_; (try simp only [Act.put, List.append, List.cons_append, List.nil_append]); (repeat (first | go_big_quiet_skip | (go_big_quiet_want; (first | ((first | refine quiet_load 34 _ rfl os B 8 rfl Tryz.underlying34 rfl Hi10.out (fun W hW => hoB.out W (grew_then xw hW)) ?_ | refine quiet_load 34 _ rfl os w3.heap.size 8 rfl Tryz.underlying34 rfl Hi10.out (fun W hW => hoD.out W (grew_then xw hW)) ?_); simp only [Act.put, List.setIfInBounds_toArray, List.set_cons_succ, List.set_cons_zero]; go_big_quiet_on) | (go_big_quiet_op; (first | go_big_quiet_on | go_big_quiet_call (with_reducible exact ext_call _ (HVx.out _)))))))); refine wpQuiet_nil ?_; rintro _ ⟨xv, rfl⟩))
        go_ret
        exact ⟨rfl, bthen hbw (Ext.h xv) hbw.size⟩
      | false =>
        obtain rfl := hX5 rfl
        clear hX4 hX5
        go_enter Tryz.func5, Tryz.ntmps5
        go_wp2_with fail
        have hE := evAt_new w A n m false 24
        have HE := Lib.hid hE
        clear hE
        refine (HC.out _ (by (repeat' (first | (with_reducible exact Below.refl _ _) | (with_reducible assumption) | (with_reducible refine below_drewN ?_ _) | (with_reducible refine Below.alloc ?_ ?_ _) | (with_reducible refine Below.drew ?_) | (with_reducible refine Below.setCell ?_ ?_ _) | go_size)))).mono ?_
        rintro x w1 ⟨rfl, hq1⟩
        have hb1 : Below w.heap.size w w1 := ((Below.refl _ w).alloc (Nat.le_refl _) _).trans (hq1.mono (by simp))
        have HE1 := Lib.hid (HE.out.below hq1)
        have hz1 : w.heap.size < w1.heap.size := by have := hq1.size; simp at this; omega
        clear hq1 HC HE
        go_wp2_with (first | (refine wp_store_new (by rfl) 37 _ _ rfl zs _ rfl rfl HI.out H1.out Hs.out ?_; intro w2 hq2 HS2 hz2) | fail)
        have hb2 := bthen hb1 hq2 hb1.size
        have HE2 := Lib.hid (HE1.out.below hq2)
        have HSx : Hid (∀ j v, zs[j]? = some v → w2.cell? ⟨w1.heap.size, j, none⟩ = some v) := arr_lies HS2
        have hlt2 : w1.heap.size < w2.heap.size := by omega
        have hlw2 : w.heap.size < w2.heap.size := by omega
        clear hq2 HS2 HE1 hz2 hb1 hz1
        generalize hB : w1.heap.size = B at *
        clear hB
        refine (HF.out _).mono ?_
        rintro x w3 ⟨rfl, hq3⟩
        have hb3 := bthen hb2 hq3 hb2.size
        have HE3 := Lib.hid (HE2.out.below hq3)
        have HS3 : Hid (∀ j v, zs[j]? = some v → w3.cell? ⟨B, j, none⟩ = some v) := fun j v hj => keepc hq3 (HSx.out j v hj)
        have hlt3 : B < w3.heap.size := Nat.lt_of_lt_of_le hlt2 hq3.size
        have hlw3 : w.heap.size < w3.heap.size := Nat.lt_of_lt_of_le hlw2 hq3.size
        clear HE2 HSx hb2 hq3 hlt2 hlw2
        go_wp2_with (first | (refine wp_store_new (by rfl) 37 _ _ rfl cs _ rfl rfl HI2.out H2.out Hs2.out ?_; intro w4 hq4 HS4 hz4; have hDs : Hid (∀ j v, cs[j]? = some v → w4.cell? ⟨w3.heap.size, j, none⟩ = some v) := arr_lies HS4; have hBs : Hid (∀ j v, zs[j]? = some v → w4.cell? ⟨B, j, none⟩ = some v) := fun j v hj => keepc hq4 (HS3.out j v hj); have HE4 := Lib.hid (HE3.out.below hq4); have hb4 := bthen hb3 hq4 hb3.size; have e0 := fun y : Ext w4 => y.cell HE4.out.h0; have e4 := fun y : Ext w4 => y.cell HE4.out.h4; have x4 := fun y : Ext w4 => y.cell (hBs.out _ _ hXs.out.1); have x5 := fun y : Ext w4 => y.cell (hBs.out _ _ hXs.out.2.1); have x6 := fun y : Ext w4 => y.cell (hBs.out _ _ hXs.out.2.2); have x7 := fun y : Ext w4 => y.cell (hBs.out _ _ hg.out.1); have x25 := fun y : Ext w4 => y.cell (hBs.out _ _ hg.out.2.1); have x26 := fun y : Ext w4 => y.cell (hBs.out _ _ hg.out.2.2.1); have x27 := fun y : Ext w4 => y.cell (hBs.out _ _ hg.out.2.2.2.1); have x28 := fun y : Ext w4 => y.cell (hBs.out _ _ hg.out.2.2.2.2.1); have x29 := fun y : Ext w4 => y.cell (hBs.out _ _ hg.out.2.2.2.2.2); have y4 := fun y : Ext w4 => y.cell (hDs.out _ _ hf.out.1); have y5 := fun y : Ext w4 => y.cell (hDs.out _ _ hf.out.2.1); have y6 := fun y : Ext w4 => y.cell (hDs.out _ _ hf.out.2.2.1); have y25 := fun y : Ext w4 => y.cell (hDs.out _ _ hf.out.2.2.2.1); have y27 := fun y : Ext w4 => y.cell (hDs.out _ _ hf.out.2.2.2.2.1); have y28 := fun y : Ext w4 => y.cell (hDs.out _ _ hf.out.2.2.2.2.2.1); have y29 := fun y : Ext w4 => y.cell (hDs.out _ _ hf.out.2.2.2.2.2.2); have hoB : Hid (∀ W, Grew w4 W → ∀ j v, os[j]? = some v → W.cell? ⟨B, 8 + j, none⟩ = some v) := (fun W ⟨y, hy⟩ j v hj => by rw [hy]; exact y.cell (hBs.out _ _ (hoA.out j v hj).2)); have hoD : Hid (∀ W, Grew w4 W → ∀ j v, os[j]? = some v → W.cell? ⟨w3.heap.size, 8 + j, none⟩ = some v) := (fun W ⟨y, hy⟩ j v hj => by rw [hy]; exact y.cell (hDs.out _ _ (hoA.out j v hj).1)); clear hq4 HS4 hz4 HE3 HS3 hDs hBs hb3 HE4 hg hf hoA hXs HI H1 Hs HI2 H2 Hs2 HF hlt3 hlw3) | (show wpList _ _ _ ({ dst := some 15, op := _, type := _, pos := _, after := _, guard := _ } :: _) _ _; refine wpList_grew ?_; (try simp only [Act.put, List.append, List.cons_append, List.nil_append]); (repeat (first | go_big_quiet_skip | (go_big_quiet_want; (first | (fail; simp only [Act.put, List.setIfInBounds_toArray, List.set_cons_succ, List.set_cons_zero]; go_big_quiet_on) | (go_big_quiet_op; (first | go_big_quiet_on | go_big_quiet_call (with_reducible exact ext_call _ (HVx.out _)))))))); refine wpQuiet_nil ?_; rintro _ ⟨xw, rfl⟩; clear e0 e4 x4 x5 x6 y4 y5 y6; replace x7 := fun z : Ext xw.W => z.cell (x7 xw); replace x25 := fun z : Ext xw.W => z.cell (x25 xw); replace x26 := fun z : Ext xw.W => z.cell (x26 xw); replace x27 := fun z : Ext xw.W => z.cell (x27 xw); replace x28 := fun z : Ext xw.W => z.cell (x28 xw); replace x29 := fun z : Ext xw.W => z.cell (x29 xw); replace y25 := fun z : Ext xw.W => z.cell (y25 xw); replace y27 := fun z : Ext xw.W => z.cell (y27 xw); replace y28 := fun z : Ext xw.W => z.cell (y28 xw); replace y29 := fun z : Ext xw.W => z.cell (y29 xw); have hbw := bthen hb4 (Ext.h xw) hb4.size; have HVx := Lib.hid (fun z : Ext xw.W => HV.out z.W (bthen hbw z.h hbw.size))) | (show wpList _ _ _ ({ dst := some 49, op := _, type := _, pos := _, after := _, guard := _ } :: _) _ _; refine wpList_grew ?_; (try simp only [Act.put, List.append, List.cons_append, List.nil_append]); (repeat (first | go_big_quiet_skip | (go_big_quiet_want; (first | ((first | refine quiet_load 34 _ rfl os B 8 rfl Tryz.underlying34 rfl Hi10.out (fun W hW => hoB.out W (grew_then xw hW)) ?_ | refine quiet_load 34 _ rfl os w3.heap.size 8 rfl Tryz.underlying34 rfl Hi10.out (fun W hW => hoD.out W (grew_then xw hW)) ?_); simp only [Act.put, List.setIfInBounds_toArray, List.set_cons_succ, List.set_cons_zero]; go_big_quiet_on) | (go_big_quiet_op; (first | go_big_quiet_on | go_big_quiet_call (with_reducible exact ext_call _ (HVx.out _)))))))); refine wpQuiet_nil ?_; rintro _ ⟨xv, rfl⟩))
        go_ret
        exact ⟨rfl, bthen hbw (Ext.h xv) hbw.size⟩
    · have h0' : ((n 0 : Int) == 0) = false := by simpa using h0
      clear h0 hX6
      cases bk with
      | true =>
        obtain rfl := hX4 rfl
        clear hX4 hX5
        go_enter Tryz.func5, Tryz.ntmps5
        go_wp2_with fail
        have hE := evAt_new w A n m true 24
        have HE := Lib.hid hE
        clear hE
        refine (HC.out _ (by (repeat' (first | (with_reducible exact Below.refl _ _) | (with_reducible assumption) | (with_reducible refine below_drewN ?_ _) | (with_reducible refine Below.alloc ?_ ?_ _) | (with_reducible refine Below.drew ?_) | (with_reducible refine Below.setCell ?_ ?_ _) | go_size)))).mono ?_
        rintro x w1 ⟨rfl, hq1⟩
        have hb1 : Below w.heap.size w w1 := ((Below.refl _ w).alloc (Nat.le_refl _) _).trans (hq1.mono (by simp))
        have HE1 := Lib.hid (HE.out.below hq1)
        have hz1 : w.heap.size < w1.heap.size := by have := hq1.size; simp at this; omega
        clear hq1 HC HE
        go_wp2_with (first | (refine wp_store_new (by rfl) 37 _ _ rfl zs _ rfl rfl HI.out H1.out Hs.out ?_; intro w2 hq2 HS2 hz2) | fail)
        have hb2 := bthen hb1 hq2 hb1.size
        have HE2 := Lib.hid (HE1.out.below hq2)
        have HSx : Hid (∀ j v, zs[j]? = some v → w2.cell? ⟨w1.heap.size, j, none⟩ = some v) := arr_lies HS2
        have hlt2 : w1.heap.size < w2.heap.size := by omega
        have hlw2 : w.heap.size < w2.heap.size := by omega
        clear hq2 HS2 HE1 hz2 hb1 hz1
        generalize hB : w1.heap.size = B at *
        clear hB
        refine (HF.out _).mono ?_
        rintro x w3 ⟨rfl, hq3⟩
        have hb3 := bthen hb2 hq3 hb2.size
        have HE3 := Lib.hid (HE2.out.below hq3)
        have HS3 : Hid (∀ j v, zs[j]? = some v → w3.cell? ⟨B, j, none⟩ = some v) := fun j v hj => keepc hq3 (HSx.out j v hj)
        have hlt3 : B < w3.heap.size := Nat.lt_of_lt_of_le hlt2 hq3.size
        have hlw3 : w.heap.size < w3.heap.size := Nat.lt_of_lt_of_le hlw2 hq3.size
        clear HE2 HSx hb2 hq3 hlt2 hlw2
        go_wp2_with (first | (refine wp_store_new (by rfl) 37 _ _ rfl cs _ rfl rfl HI2.out H2.out Hs2.out ?_; intro w4 hq4 HS4 hz4; have hDs : Hid (∀ j v, cs[j]? = some v → w4.cell? ⟨w3.heap.size, j, none⟩ = some v) := arr_lies HS4; have hBs : Hid (∀ j v, zs[j]? = some v → w4.cell? ⟨B, j, none⟩ = some v) := fun j v hj => keepc hq4 (HS3.out j v hj); have HE4 := Lib.hid (HE3.out.below hq4); have hb4 := bthen hb3 hq4 hb3.size; have e0 := fun y : Ext w4 => y.cell HE4.out.h0; have e4 := fun y : Ext w4 => y.cell HE4.out.h4; have x4 := fun y : Ext w4 => y.cell (hBs.out _ _ hXs.out.1); have x5 := fun y : Ext w4 => y.cell (hBs.out _ _ hXs.out.2.1); have x6 := fun y : Ext w4 => y.cell (hBs.out _ _ hXs.out.2.2); have x7 := fun y : Ext w4 => y.cell (hBs.out _ _ hg.out.1); have x25 := fun y : Ext w4 => y.cell (hBs.out _ _ hg.out.2.1); have x26 := fun y : Ext w4 => y.cell (hBs.out _ _ hg.out.2.2.1); have x27 := fun y : Ext w4 => y.cell (hBs.out _ _ hg.out.2.2.2.1); have x28 := fun y : Ext w4 => y.cell (hBs.out _ _ hg.out.2.2.2.2.1); have x29 := fun y : Ext w4 => y.cell (hBs.out _ _ hg.out.2.2.2.2.2); have y4 := fun y : Ext w4 => y.cell (hDs.out _ _ hf.out.1); have y5 := fun y : Ext w4 => y.cell (hDs.out _ _ hf.out.2.1); have y6 := fun y : Ext w4 => y.cell (hDs.out _ _ hf.out.2.2.1); have y25 := fun y : Ext w4 => y.cell (hDs.out _ _ hf.out.2.2.2.1); have y27 := fun y : Ext w4 => y.cell (hDs.out _ _ hf.out.2.2.2.2.1); have y28 := fun y : Ext w4 => y.cell (hDs.out _ _ hf.out.2.2.2.2.2.1); have y29 := fun y : Ext w4 => y.cell (hDs.out _ _ hf.out.2.2.2.2.2.2); have hoB : Hid (∀ W, Grew w4 W → ∀ j v, os[j]? = some v → W.cell? ⟨B, 8 + j, none⟩ = some v) := (fun W ⟨y, hy⟩ j v hj => by rw [hy]; exact y.cell (hBs.out _ _ (hoA.out j v hj).2)); have hoD : Hid (∀ W, Grew w4 W → ∀ j v, os[j]? = some v → W.cell? ⟨w3.heap.size, 8 + j, none⟩ = some v) := (fun W ⟨y, hy⟩ j v hj => by rw [hy]; exact y.cell (hDs.out _ _ (hoA.out j v hj).1)); clear hq4 HS4 hz4 HE3 HS3 hDs hBs hb3 HE4 hg hf hoA hXs HI H1 Hs HI2 H2 Hs2 HF hlt3 hlw3) | (show wpList _ _ _ ({ dst := some 15, op := _, type := _, pos := _, after := _, guard := _ } :: _) _ _; refine wpList_grew ?_; (try simp only [Act.put, List.append, List.cons_append, List.nil_append]); (repeat (first | go_big_quiet_skip | (go_big_quiet_want; (first | (fail; simp only [Act.put, List.setIfInBounds_toArray, List.set_cons_succ, List.set_cons_zero]; go_big_quiet_on) | (go_big_quiet_op; (first | go_big_quiet_on | go_big_quiet_call (with_reducible exact ext_call _ (HVx.out _)))))))); refine wpQuiet_nil ?_; rintro _ ⟨xw, rfl⟩; clear e0 e4 x4 x5 x6 y4 y5 y6; replace x7 := fun z : Ext xw.W => z.cell (x7 xw); replace x25 := fun z : Ext xw.W => z.cell (x25 xw); replace x26 := fun z : Ext xw.W => z.cell (x26 xw); replace x27 := fun z : Ext xw.W => z.cell (x27 xw); replace x28 := fun z : Ext xw.W => z.cell (x28 xw); replace x29 := fun z : Ext xw.W => z.cell (x29 xw); replace y25 := fun z : Ext xw.W => z.cell (y25 xw); replace y27 := fun z : Ext xw.W => z.cell (y27 xw); replace y28 := fun z : Ext xw.W => z.cell (y28 xw); replace y29 := fun z : Ext xw.W => z.cell (y29 xw); have hbw := bthen hb4 (Ext.h xw) hb4.size; have HVx := Lib.hid (fun z : Ext xw.W => HV.out z.W (bthen hbw z.h hbw.size))) | (show wpList _ _ _ ({ dst := some 49, op := _, type := _, pos := _, after := _, guard := _ } :: _) _ _; refine wpList_grew ?_; (try simp only [Act.put, List.append, List.cons_append, List.nil_append]); (repeat (first | go_big_quiet_skip | (go_big_quiet_want; (first | ((first | refine quiet_load 34 _ rfl os B 8 rfl Tryz.underlying34 rfl Hi10.out (fun W hW => hoB.out W (grew_then xw hW)) ?_ | refine quiet_load 34 _ rfl os w3.heap.size 8 rfl Tryz.underlying34 rfl Hi10.out (fun W hW => hoD.out W (grew_then xw hW)) ?_); simp only [Act.put, List.setIfInBounds_toArray, List.set_cons_succ, List.set_cons_zero]; go_big_quiet_on) | (go_big_quiet_op; (first | go_big_quiet_on | go_big_quiet_call (with_reducible exact ext_call _ (HVx.out _)))))))); refine wpQuiet_nil ?_; rintro _ ⟨xv, rfl⟩))
        go_ret
        exact ⟨rfl, bthen hbw (Ext.h xv) hbw.size⟩
      | false =>
        obtain rfl := hX5 rfl
        clear hX4 hX5
        go_enter Tryz.func5, Tryz.ntmps5
        go_wp2_with fail
        have hE := evAt_new w A n m false 24
        have HE := Lib.hid hE
        clear hE
        refine (HC.out _ (by (repeat' (first | (with_reducible exact Below.refl _ _) | (with_reducible assumption) | (with_reducible refine below_drewN ?_ _) | (with_reducible refine Below.alloc ?_ ?_ _) | (with_reducible refine Below.drew ?_) | (with_reducible refine Below.setCell ?_ ?_ _) | go_size)))).mono ?_
        rintro x w1 ⟨rfl, hq1⟩
        have hb1 : Below w.heap.size w w1 := ((Below.refl _ w).alloc (Nat.le_refl _) _).trans (hq1.mono (by simp))
        have HE1 := Lib.hid (HE.out.below hq1)
        have hz1 : w.heap.size < w1.heap.size := by have := hq1.size; simp at this; omega
        clear hq1 HC HE
        go_wp2_with (first | (refine wp_store_new (by rfl) 37 _ _ rfl zs _ rfl rfl HI.out H1.out Hs.out ?_; intro w2 hq2 HS2 hz2) | fail)
        have hb2 := bthen hb1 hq2 hb1.size
        have HE2 := Lib.hid (HE1.out.below hq2)
        have HSx : Hid (∀ j v, zs[j]? = some v → w2.cell? ⟨w1.heap.size, j, none⟩ = some v) := arr_lies HS2
        have hlt2 : w1.heap.size < w2.heap.size := by omega
        have hlw2 : w.heap.size < w2.heap.size := by omega
        clear hq2 HS2 HE1 hz2 hb1 hz1
        generalize hB : w1.heap.size = B at *
        clear hB
        refine (HF.out _).mono ?_
        rintro x w3 ⟨rfl, hq3⟩
        have hb3 := bthen hb2 hq3 hb2.size
        have HE3 := Lib.hid (HE2.out.below hq3)
        have HS3 : Hid (∀ j v, zs[j]? = some v → w3.cell? ⟨B, j, none⟩ = some v) := fun j v hj => keepc hq3 (HSx.out j v hj)
        have hlt3 : B < w3.heap.size := Nat.lt_of_lt_of_le hlt2 hq3.size
        have hlw3 : w.heap.size < w3.heap.size := Nat.lt_of_lt_of_le hlw2 hq3.size
        clear HE2 HSx hb2 hq3 hlt2 hlw2
        go_wp2_with (first | (refine wp_store_new (by rfl) 37 _ _ rfl cs _ rfl rfl HI2.out H2.out Hs2.out ?_; intro w4 hq4 HS4 hz4; have hDs : Hid (∀ j v, cs[j]? = some v → w4.cell? ⟨w3.heap.size, j, none⟩ = some v) := arr_lies HS4; have hBs : Hid (∀ j v, zs[j]? = some v → w4.cell? ⟨B, j, none⟩ = some v) := fun j v hj => keepc hq4 (HS3.out j v hj); have HE4 := Lib.hid (HE3.out.below hq4); have hb4 := bthen hb3 hq4 hb3.size; have e0 := fun y : Ext w4 => y.cell HE4.out.h0; have e4 := fun y : Ext w4 => y.cell HE4.out.h4; have x4 := fun y : Ext w4 => y.cell (hBs.out _ _ hXs.out.1); have x5 := fun y : Ext w4 => y.cell (hBs.out _ _ hXs.out.2.1); have x6 := fun y : Ext w4 => y.cell (hBs.out _ _ hXs.out.2.2); have x7 := fun y : Ext w4 => y.cell (hBs.out _ _ hg.out.1); have x25 := fun y : Ext w4 => y.cell (hBs.out _ _ hg.out.2.1); have x26 := fun y : Ext w4 => y.cell (hBs.out _ _ hg.out.2.2.1); have x27 := fun y : Ext w4 => y.cell (hBs.out _ _ hg.out.2.2.2.1); have x28 := fun y : Ext w4 => y.cell (hBs.out _ _ hg.out.2.2.2.2.1); have x29 := fun y : Ext w4 => y.cell (hBs.out _ _ hg.out.2.2.2.2.2); have y4 := fun y : Ext w4 => y.cell (hDs.out _ _ hf.out.1); have y5 := fun y : Ext w4 => y.cell (hDs.out _ _ hf.out.2.1); have y6 := fun y : Ext w4 => y.cell (hDs.out _ _ hf.out.2.2.1); have y25 := fun y : Ext w4 => y.cell (hDs.out _ _ hf.out.2.2.2.1); have y27 := fun y : Ext w4 => y.cell (hDs.out _ _ hf.out.2.2.2.2.1); have y28 := fun y : Ext w4 => y.cell (hDs.out _ _ hf.out.2.2.2.2.2.1); have y29 := fun y : Ext w4 => y.cell (hDs.out _ _ hf.out.2.2.2.2.2.2); have hoB : Hid (∀ W, Grew w4 W → ∀ j v, os[j]? = some v → W.cell? ⟨B, 8 + j, none⟩ = some v) := (fun W ⟨y, hy⟩ j v hj => by rw [hy]; exact y.cell (hBs.out _ _ (hoA.out j v hj).2)); have hoD : Hid (∀ W, Grew w4 W → ∀ j v, os[j]? = some v → W.cell? ⟨w3.heap.size, 8 + j, none⟩ = some v) := (fun W ⟨y, hy⟩ j v hj => by rw [hy]; exact y.cell (hDs.out _ _ (hoA.out j v hj).1)); clear hq4 HS4 hz4 HE3 HS3 hDs hBs hb3 HE4 hg hf hoA hXs HI H1 Hs HI2 H2 Hs2 HF hlt3 hlw3) | (show wpList _ _ _ ({ dst := some 15, op := _, type := _, pos := _, after := _, guard := _ } :: _) _ _; refine wpList_grew ?_; (try simp only [Act.put, List.append, List.cons_append, List.nil_append]); (repeat (first | go_big_quiet_skip | (go_big_quiet_want; (first | (fail; simp only [Act.put, List.setIfInBounds_toArray, List.set_cons_succ, List.set_cons_zero]; go_big_quiet_on) | (go_big_quiet_op; (first | go_big_quiet_on | go_big_quiet_call (with_reducible exact ext_call _ (HVx.out _)))))))); refine wpQuiet_nil ?_; rintro _ ⟨xw, rfl⟩; clear e0 e4 x4 x5 x6 y4 y5 y6; replace x7 := fun z : Ext xw.W => z.cell (x7 xw); replace x25 := fun z : Ext xw.W => z.cell (x25 xw); replace x26 := fun z : Ext xw.W => z.cell (x26 xw); replace x27 := fun z : Ext xw.W => z.cell (x27 xw); replace x28 := fun z : Ext xw.W => z.cell (x28 xw); replace x29 := fun z : Ext xw.W => z.cell (x29 xw); replace y25 := fun z : Ext xw.W => z.cell (y25 xw); replace y27 := fun z : Ext xw.W => z.cell (y27 xw); replace y28 := fun z : Ext xw.W => z.cell (y28 xw); replace y29 := fun z : Ext xw.W => z.cell (y29 xw); have hbw := bthen hb4 (Ext.h xw) hb4.size; have HVx := Lib.hid (fun z : Ext xw.W => HV.out z.W (bthen hbw z.h hbw.size))) | (show wpList _ _ _ ({ dst := some 49, op := _, type := _, pos := _, after := _, guard := _ } :: _) _ _; refine wpList_grew ?_; (try simp only [Act.put, List.append, List.cons_append, List.nil_append]); (repeat (first | go_big_quiet_skip | (go_big_quiet_want; (first | ((first | refine quiet_load 34 _ rfl os B 8 rfl Tryz.underlying34 rfl Hi10.out (fun W hW => hoB.out W (grew_then xw hW)) ?_ | refine quiet_load 34 _ rfl os w3.heap.size 8 rfl Tryz.underlying34 rfl Hi10.out (fun W hW => hoD.out W (grew_then xw hW)) ?_); simp only [Act.put, List.setIfInBounds_toArray, List.set_cons_succ, List.set_cons_zero]; go_big_quiet_on) | (go_big_quiet_op; (first | go_big_quiet_on | go_big_quiet_call (with_reducible exact ext_call _ (HVx.out _)))))))); refine wpQuiet_nil ?_; rintro _ ⟨xv, rfl⟩))
        go_ret
        exact ⟨rfl, bthen hbw (Ext.h xv) hbw.size⟩
  · have HC := Lib.hid (fun W (hb : Below w.heap.size w W) => klowClause_bad A n m c W (hA.below hb) hn hc)
    have HI := Lib.hid (cl_info zeroC)
    have H1 := Lib.hid (clA_cells zeroC)
    have Hs : Hid (30 = (clA zeroC).size) := rfl
    have he : ((kchk c).2 != 0) = true := by simpa using hc
    clear hA hn hc
    generalize (kchk c).2 = e at *
    generalize clA zeroC = cs at *
    generalize c.back = bk at *
    unfold evV at *
    go_enter Tryz.func5, Tryz.ntmps5
    go_wp2_with fail
    refine (HC.out _ (by (repeat' (first | (with_reducible exact Below.refl _ _) | (with_reducible assumption) | (with_reducible refine below_drewN ?_ _) | (with_reducible refine Below.alloc ?_ ?_ _) | (with_reducible refine Below.drew ?_) | (with_reducible refine Below.setCell ?_ ?_ _) | go_size)))).mono ?_
    rintro x w1 ⟨rfl, hq1⟩
    have hb1 : Below w.heap.size w w1 := ((Below.refl _ w).alloc (Nat.le_refl _) _).trans (hq1.mono (by simp))
    clear hq1 HC
    go_wp2_with (first | (refine wp_store_new (by rfl) 37 _ _ rfl cs _ rfl rfl HI.out H1.out Hs.out ?_; intro w2 hq2 HS2 hz2) | fail)
    have hb2 := bthen hb1 hq2 hb1.size
    refine (HV.out _ hb2).mono ?_
    rintro x w3 ⟨rfl, hb3⟩
    go_wp2
    go_ret
    exact ⟨rfl, bthen hb2 hb3 hb2.size⟩
end Go.Proofs.YtochhmkdhdadhaaGreat
