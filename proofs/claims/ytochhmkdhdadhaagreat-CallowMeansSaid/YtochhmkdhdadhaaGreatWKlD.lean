/- The walk of the document's clause of an event. -/
import Derived.Test.YtochhmkdhdadhaaGreatWKlC
import Derived.Test.YtochhmkdhdadhaaGreatRClowA
namespace Go.Proofs.YtochhmkdhdadhaaGreat
open Go.RowKit
set_option linter.unusedSimpArgs false
set_option linter.unusedVariables false

theorem rv_upd1 (a0 a1 a2 a3 D wk : Int) (y : Nat → Int) : ∀ j, j < 30 → updG (updG (updG (updG (updG (updL (updG fullG 6 (.int .u64 wk)) 18 (yL y)) 3 (.int .u64 a3)) 5 (.int .u64 D)) 2 (.int .u64 a2)) 1 (.int .u64 a1)) 0 (.int .u64 a0) j = (clA (mkK a0 a1 a2 a3 D true wk y)).getD j undef :=
  j30 ⟨rfl, rfl, rfl, rfl, rfl, rfl, rfl, rfl, rfl, rfl, rfl, rfl, rfl, rfl, rfl, rfl, rfl, rfl, rfl, rfl, rfl, rfl, rfl, rfl, rfl, rfl, rfl, rfl, rfl, rfl⟩
theorem rv_upd2 (a0 a1 a2 a3 D wk : Int) (y : Nat → Int) : ∀ j, j < 30 → updG (updG (updG (updG (updG (updL (updG fullG 6 (.int .u64 wk)) 18 (yL y)) 3 (.int .u64 a3)) 4 (.int .u64 D)) 2 (.int .u64 a2)) 1 (.int .u64 a1)) 0 (.int .u64 a0) j = (clA (mkK a0 a1 a2 a3 D false wk y)).getD j undef :=
  j30 ⟨rfl, rfl, rfl, rfl, rfl, rfl, rfl, rfl, rfl, rfl, rfl, rfl, rfl, rfl, rfl, rfl, rfl, rfl, rfl, rfl, rfl, rfl, rfl, rfl, rfl, rfl, rfl, rfl, rfl, rfl⟩
theorem rv_upd3 (a0 a1 a2 a3 D : Int) (y : Nat → Int) : ∀ j, j < 30 → updG (updG (updG (updG (updG (updL fullG 18 (yL y)) 3 (.int .u64 a3)) 5 (.int .u64 D)) 2 (.int .u64 a2)) 1 (.int .u64 a1)) 0 (.int .u64 a0) j = (clA (mkK a0 a1 a2 a3 D true (spanM 1 7) y)).getD j undef :=
  j30 ⟨rfl, rfl, rfl, rfl, rfl, rfl, rfl, rfl, rfl, rfl, rfl, rfl, rfl, rfl, rfl, rfl, rfl, rfl, rfl, rfl, rfl, rfl, rfl, rfl, rfl, rfl, rfl, rfl, rfl, rfl⟩
theorem rv_upd4 (a0 a1 a2 a3 D : Int) (y : Nat → Int) : ∀ j, j < 30 → updG (updG (updG (updG (updG (updL fullG 18 (yL y)) 3 (.int .u64 a3)) 4 (.int .u64 D)) 2 (.int .u64 a2)) 1 (.int .u64 a1)) 0 (.int .u64 a0) j = (clA (mkK a0 a1 a2 a3 D false (spanM 1 7) y)).getD j undef :=
  j30 ⟨rfl, rfl, rfl, rfl, rfl, rfl, rfl, rfl, rfl, rfl, rfl, rfl, rfl, rfl, rfl, rfl, rfl, rfl, rfl, rfl, rfl, rfl, rfl, rfl, rfl, rfl, rfl, rfl, rfl, rfl⟩
theorem refVal_len (l : List It) (lo hi : Int) (h : min hi 9999 - max 0 lo + 1 ≤ 1000000000) : (refVal l lo hi).length ≤ 1000000000 := refVal_len60 l lo hi h
set_option maxRecDepth 20000 in
set_option maxHeartbeats 16000000 in
theorem rclause31_any (A : Nat → Option Addr) (n m : Nat → Nat) (c : CalV) (w : World) (hA : RdEv w A n c) (hn : ∀ j, j < 8 → j ≠ 4 → n j ≤ 100000) :
    Calls Tryz.prog 11 #[evV A n m c.back] w (Ret (.agg (clA (evC c))) w) := by
  have HF := Lib.hid (fun W => rfull_any W)
  have HV0 := Lib.hid (fun W (hb : Below w.heap.size w W) => rvalues_any (A 0) (n 0) (m 0) (kget c 0) 1 7 W ((hA.slot (k := 0) (by decide)).below hb (Nat.le_refl _)) (by have := hn 0 (by decide) (by decide); omega) ⟨by decide, by decide⟩ ⟨by decide, by decide⟩)
  have HL0 : Hid ((refVal (kget c 0) 1 7).length ≤ 1000000000) := refVal_len60 _ _ _ (by decide)
  have HV1 := Lib.hid (fun W (hb : Below w.heap.size w W) => rvalues_any (A 1) (n 1) (m 1) (kget c 1) 1970 2369 W ((hA.slot (k := 1) (by decide)).below hb (Nat.le_refl _)) (by have := hn 1 (by decide) (by decide); omega) ⟨by decide, by decide⟩ ⟨by decide, by decide⟩)
  have HL1 : Hid ((refVal (kget c 1) 1970 2369).length ≤ 1000000000) := refVal_len60 _ _ _ (by decide)
  have HV2 := Lib.hid (fun W (hb : Below w.heap.size w W) => rvalues_any (A 2) (n 2) (m 2) (kget c 2) 1 12 W ((hA.slot (k := 2) (by decide)).below hb (Nat.le_refl _)) (by have := hn 2 (by decide) (by decide); omega) ⟨by decide, by decide⟩ ⟨by decide, by decide⟩)
  have HL2 : Hid ((refVal (kget c 2) 1 12).length ≤ 1000000000) := refVal_len60 _ _ _ (by decide)
  have HV3 := Lib.hid (fun W (hb : Below w.heap.size w W) => rvalues_any (A 3) (n 3) (m 3) (kget c 3) 1 31 W ((hA.slot (k := 3) (by decide)).below hb (Nat.le_refl _)) (by have := hn 3 (by decide) (by decide); omega) ⟨by decide, by decide⟩ ⟨by decide, by decide⟩)
  have HL3 : Hid ((refVal (kget c 3) 1 31).length ≤ 1000000000) := refVal_len60 _ _ _ (by decide)
  have HV4 := Lib.hid (fun W (hb : Below w.heap.size w W) => rvalues_any (A 5) (n 5) (m 5) (kget c 4) 0 23 W ((hA.slot (k := 4) (by decide)).below hb (Nat.le_refl _)) (by have := hn 5 (by decide) (by decide); omega) ⟨by decide, by decide⟩ ⟨by decide, by decide⟩)
  have HL4 : Hid ((refVal (kget c 4) 0 23).length ≤ 1000000000) := refVal_len60 _ _ _ (by decide)
  have HV5 := Lib.hid (fun W (hb : Below w.heap.size w W) => rvalues_any (A 6) (n 6) (m 6) (kget c 5) 0 59 W ((hA.slot (k := 5) (by decide)).below hb (Nat.le_refl _)) (by have := hn 6 (by decide) (by decide); omega) ⟨by decide, by decide⟩ ⟨by decide, by decide⟩)
  have HL5 : Hid ((refVal (kget c 5) 0 59).length ≤ 1000000000) := refVal_len60 _ _ _ (by decide)
  have HV6 := Lib.hid (fun W (hb : Below w.heap.size w W) => rvalues_any (A 7) (n 7) (m 7) (kget c 6) 0 59 W ((hA.slot (k := 6) (by decide)).below hb (Nat.le_refl _)) (by have := hn 7 (by decide) (by decide); omega) ⟨by decide, by decide⟩ ⟨by decide, by decide⟩)
  have HL6 : Hid ((refVal (kget c 6) 0 59).length ≤ 1000000000) := refVal_len60 _ _ _ (by decide)
  have HO := Lib.hid (fun A' c' V W (h : RdInts W A' V.length V) (hl : V.length ≤ 1000000000) => rmaskOf_any A' V.length c' V W h (by omega))
  have HWd : Hid (∀ A' q c' W, RdInts W A' q ((refVal (kget c 1) 1970 2369).map (· - 1970)) → q ≤ 9223372036854775806 → Calls Tryz.prog 30 #[.slice A' q c'] W (Ret (.agg #[.int .u64 (evY c 0), .int .u64 (evY c 1), .int .u64 (evY c 2), .int .u64 (evY c 3), .int .u64 (evY c 4), .int .u64 (evY c 5), .int .u64 (evY c 6)]) W)) := fun A' q c' W h hq => rwideOf_any A' q c' _ W h hq
  have HBd : Hid (∀ x ∈ refVal (kget c 1) 1970 2369, 1970 ≤ x ∧ x ≤ 2369) := fun x hx => rval_bd hx
  have HI := Lib.hid (cl_info fullC)
  have HC := Lib.hid (clA_cells fullC)
  have HI2 := Lib.hid (cl_info (evC c))
  have HC2 := Lib.hid (clA_cells (evC c))
  have HZs : Hid (30 = (clA fullC).size ∧ (clA fullC).size = 30) := ⟨rfl, rfl⟩
  have HS30 : Hid ((clA (evC c)).size = 30) := rfl
  have hl0 : (kget c 0).length = n 0 := (hA.slot (k := 0) (by decide)).1
  have HEv : Hid (evC c = mkK (maskL (refVal (kget c 6) 0 59)) (maskL (refVal (kget c 5) 0 59)) (maskL (refVal (kget c 4) 0 23)) (maskL (refVal (kget c 2) 1 12)) (maskL (refVal (kget c 3) 1 31)) c.back (if n 0 = 0 then spanM 1 7 else maskL (refVal (kget c 0) 1 7)) (evY c)) := by
    show _ = _
    rw [← hl0]; rfl
  clear hA hn hl0
  generalize refVal (kget c 0) 1 7 = V0 at *
  generalize refVal (kget c 1) 1970 2369 = V1 at *
  generalize refVal (kget c 2) 1 12 = V2 at *
  generalize refVal (kget c 3) 1 31 = V3 at *
  generalize refVal (kget c 4) 0 23 = V4 at *
  generalize refVal (kget c 5) 0 59 = V5 at *
  generalize refVal (kget c 6) 0 59 = V6 at *
  generalize evY c = y at *
  generalize evC c = K at *
  generalize c.back = bk at *
  unfold evV
  by_cases h0 : n 0 = 0
  · have h0' : ¬ 0 < (n 0 : Int) := by omega
    have HG : Hid (∀ j, j < 30 → (if bk then updG (updG (updG (updG (updG (updL fullG 18 (yL y)) 3 (.int .u64 (maskL V2))) 5 (.int .u64 (maskL V3))) 2 (.int .u64 (maskL V4))) 1 (.int .u64 (maskL V5))) 0 (.int .u64 (maskL V6)) j else updG (updG (updG (updG (updG (updL fullG 18 (yL y)) 3 (.int .u64 (maskL V2))) 4 (.int .u64 (maskL V3))) 2 (.int .u64 (maskL V4))) 1 (.int .u64 (maskL V5))) 0 (.int .u64 (maskL V6)) j) = (clA K).getD j undef) := by
      show ∀ j, _
      rw [HEv.out, if_pos h0]
      cases bk
      · exact rv_upd4 _ _ _ _ _ y
      · exact rv_upd3 _ _ _ _ _ y
    unfold fullG yL at HG
    clear h0 HEv HV0 HL0
    generalize clA fullC = cs at *
    generalize clA K = zs at *
    go_enter Tryz.func11, Tryz.ntmps11
    go_wp2_with fail
    have hT := there_new (w.alloc (.cells #[.slice (A 0) (n 0) (m 0), .slice (A 1) (n 1) (m 1), .slice (A 2) (n 2) (m 2), .slice (A 3) (n 3) (m 3), .bool bk, .slice (A 5) (n 5) (m 5), .slice (A 6) (n 6) (m 6), .slice (A 7) (n 7) (m 7)] 24)) #[.int .u64 0, .int .u64 0, .int .u64 0, .int .u64 0, .int .u64 0, .int .u64 0, .int .u64 0, .bool false, .int .i64 0, .bool false, .int .u64 0, .int .u64 0, .int .u64 0, .int .u64 0, .int .u64 0, .int .u64 0, .int .u64 0, .int .u64 0, .int .u64 0, .int .u64 0, .int .u64 0, .int .u64 0, .int .u64 0, .int .u64 0, .int .u64 0, .int .i64 0, .int .i64 0, .int .i64 0, .int .i64 0, .int .i64 0] 37
    rw [show (w.alloc (.cells #[.slice (A 0) (n 0) (m 0), .slice (A 1) (n 1) (m 1), .slice (A 2) (n 2) (m 2), .slice (A 3) (n 3) (m 3), .bool bk, .slice (A 5) (n 5) (m 5), .slice (A 6) (n 6) (m 6), .slice (A 7) (n 7) (m 7)] 24)).heap.size = w.heap.size + 1 by simp] at hT
    have hE := (evAt_new w A n m bk 24).below ((Below.refl _ _).alloc (Nat.le_refl _) (.cells #[.int .u64 0, .int .u64 0, .int .u64 0, .int .u64 0, .int .u64 0, .int .u64 0, .int .u64 0, .bool false, .int .i64 0, .bool false, .int .u64 0, .int .u64 0, .int .u64 0, .int .u64 0, .int .u64 0, .int .u64 0, .int .u64 0, .int .u64 0, .int .u64 0, .int .u64 0, .int .u64 0, .int .u64 0, .int .u64 0, .int .u64 0, .int .u64 0, .int .i64 0, .int .i64 0, .int .i64 0, .int .i64 0, .int .i64 0] 37))
    have hb1 : Below w.heap.size w ((w.alloc (.cells #[.slice (A 0) (n 0) (m 0), .slice (A 1) (n 1) (m 1), .slice (A 2) (n 2) (m 2), .slice (A 3) (n 3) (m 3), .bool bk, .slice (A 5) (n 5) (m 5), .slice (A 6) (n 6) (m 6), .slice (A 7) (n 7) (m 7)] 24)).alloc (.cells #[.int .u64 0, .int .u64 0, .int .u64 0, .int .u64 0, .int .u64 0, .int .u64 0, .int .u64 0, .bool false, .int .i64 0, .bool false, .int .u64 0, .int .u64 0, .int .u64 0, .int .u64 0, .int .u64 0, .int .u64 0, .int .u64 0, .int .u64 0, .int .u64 0, .int .u64 0, .int .u64 0, .int .u64 0, .int .u64 0, .int .u64 0, .int .u64 0, .int .i64 0, .int .i64 0, .int .i64 0, .int .i64 0, .int .i64 0] 37)) := by (repeat' (first | (with_reducible exact Below.refl _ _) | (with_reducible assumption) | (with_reducible refine below_drewN ?_ _) | (with_reducible refine Below.alloc ?_ ?_ _) | (with_reducible refine Below.drew ?_) | (with_reducible refine Below.setCell ?_ ?_ _) | go_size))
    have hz1 : w.heap.size + 2 ≤ ((w.alloc (.cells #[.slice (A 0) (n 0) (m 0), .slice (A 1) (n 1) (m 1), .slice (A 2) (n 2) (m 2), .slice (A 3) (n 3) (m 3), .bool bk, .slice (A 5) (n 5) (m 5), .slice (A 6) (n 6) (m 6), .slice (A 7) (n 7) (m 7)] 24)).alloc (.cells #[.int .u64 0, .int .u64 0, .int .u64 0, .int .u64 0, .int .u64 0, .int .u64 0, .int .u64 0, .bool false, .int .i64 0, .bool false, .int .u64 0, .int .u64 0, .int .u64 0, .int .u64 0, .int .u64 0, .int .u64 0, .int .u64 0, .int .u64 0, .int .u64 0, .int .u64 0, .int .u64 0, .int .u64 0, .int .u64 0, .int .u64 0, .int .u64 0, .int .i64 0, .int .i64 0, .int .i64 0, .int .i64 0, .int .i64 0] 37)).heap.size := by simp
    generalize (w.alloc (.cells #[.slice (A 0) (n 0) (m 0), .slice (A 1) (n 1) (m 1), .slice (A 2) (n 2) (m 2), .slice (A 3) (n 3) (m 3), .bool bk, .slice (A 5) (n 5) (m 5), .slice (A 6) (n 6) (m 6), .slice (A 7) (n 7) (m 7)] 24)).alloc (.cells #[.int .u64 0, .int .u64 0, .int .u64 0, .int .u64 0, .int .u64 0, .int .u64 0, .int .u64 0, .bool false, .int .i64 0, .bool false, .int .u64 0, .int .u64 0, .int .u64 0, .int .u64 0, .int .u64 0, .int .u64 0, .int .u64 0, .int .u64 0, .int .u64 0, .int .u64 0, .int .u64 0, .int .u64 0, .int .u64 0, .int .u64 0, .int .u64 0, .int .i64 0, .int .i64 0, .int .i64 0, .int .i64 0, .int .i64 0] 37) = w1 at *
    have HE1 := Lib.hid hE
    have HT1 := Lib.hid hT
    clear hE hT
    refine (HF.out _).mono ?_
    rintro x w2 ⟨rfl, hq2⟩
    have hb2 := bthen hb1 hq2 hb1.size
    have HE2 := Lib.hid (HE1.out.below hq2)
    have HT2 := Lib.hid (there_below HT1.out (by omega) hq2)
    have hz2 : w.heap.size + 2 ≤ w2.heap.size := by have := hq2.size; omega
    clear HE1 HT1 hb1 hq2 hz1 HF
    go_wp2_with (refine wp_store_new (by rfl) 37 _ _ rfl cs _ rfl rfl HI.out HC.out HZs.out.1 ?_; intro w3 hq3 HA3 hz3; have HS : Hid (LowK w w3 w2.heap.size A n m bk (fun j => cs.getD j undef)) := ⟨HE2.out.below hq3, by rw [← HZs.out.2]; exact HA3, there_below HT2.out (by omega) hq3, by omega, bthen hb2 hq3 hb2.size⟩; have e0 := HS.out.ev.h0; have e1 := HS.out.ev.h1; have e2 := HS.out.ev.h2; have e3 := HS.out.ev.h3; have e4 := HS.out.ev.h4; have e5 := HS.out.ev.h5; have e6 := HS.out.ev.h6; have e7 := HS.out.ev.h7; have hltB : w.heap.size < w2.heap.size := by omega)
    clear hq3 HA3 hz3 HE2 HT2 hb2 hz2
    generalize hB : w2.heap.size = B at *
    clear hB
    generalize w3 = w4 at *
    obtain ⟨G0, hG0⟩ : ∃ G : Nat → Value, G = (fun j => cs.getD j undef) := ⟨_, rfl⟩
    rw [← hG0] at HS HG
    clear hG0
    refine (HV1.out _ HS.out.below).mono ?_
    rintro x w5 ⟨v, rfl, hown, hq⟩
    have hBw : B < w4.heap.size := Arr.lt HS.out.arr (by decide)
    replace HS := Lib.hid (HS.out.later hq)
    have hbq := hq
    clear HV1 hq
    ((try clear e0); (try clear e1); (try clear e2); (try clear e3); (try clear e4); (try clear e5); (try clear e6); (try clear e7); (try clear hltB))
    rcases own_some hown with ⟨rfl, h0⟩ | ⟨g, cg, rfl, hg, hgs⟩
    · have h0z := List.length_eq_zero_iff.1 h0
      have HFY := Lib.hid (HWd.out none 0 0 w5 (by rw [h0z]; exact Rd.nil) (by decide))
      clear hown h0 h0z HWd
      go_wp2
      go_loopw [5] (fun i wr => i = .int .i64 0 ∧ wr = w5) (fun _ _ => 0)
      case atStart => exact ⟨by go_num, rfl⟩
      case round =>
        obtain ⟨rfl, rfl⟩ := hrel
        go_wp2_with fail
        refine HFY.out.mono ?_
        rintro x w6 ⟨rfl, hq⟩
        replace HS := Lib.hid (HS.out.later hq)
        clear hq HFY
        go_wp2_with (refine wp_store_rng rfl 35 _ _ rfl #[.int .u64 (y 0), .int .u64 (y 1), .int .u64 (y 2), .int .u64 (y 3), .int .u64 (y 4), .int .u64 (y 5), .int .u64 (y 6)] B 18 rfl rfl (by kernel_rfl) (by kernel_rfl) (arr_there HS.out.arr 18 7 (by decide)) ?_; generalize hW6 : World.setCells _ _ _ _ = w4'; have HSy := LowK.updL [.int .u64 (y 0), .int .u64 (y 1), .int .u64 (y 2), .int .u64 (y 3), .int .u64 (y 4), .int .u64 (y 5), .int .u64 (y 6)] _ 18 _ HS.out (by simp); rw [show World.setCells w6 B 18 [.int .u64 (y 0), .int .u64 (y 1), .int .u64 (y 2), .int .u64 (y 3), .int .u64 (y 4), .int .u64 (y 5), .int .u64 (y 6)] = w4' from hW6] at HSy; replace HS := Lib.hid HSy; clear HSy hW6; have e0 := HS.out.ev.h0; have e1 := HS.out.ev.h1; have e2 := HS.out.ev.h2; have e3 := HS.out.ev.h3; have e4 := HS.out.ev.h4; have e5 := HS.out.ev.h5; have e6 := HS.out.ev.h6; have e7 := HS.out.ev.h7; have hltB : w.heap.size < B := Nat.lt_trans (Nat.lt_succ_self _) HS.out.lt)
        ((try clear e0); (try clear e1); (try clear e2); (try clear e3); (try clear e4); (try clear e5); (try clear e6); (try clear e7); (try clear hltB))
        ((try clear e0); (try clear e1); (try clear e2); (try clear e3); (try clear e4); (try clear e5); (try clear e6); (try clear e7); (try clear hltB))
        refine (HV2.out _ HS.out.below).mono ?_
        rintro x w5 ⟨v, rfl, hown, hq⟩
        obtain ⟨A', c', rfl, _, _, hrd, _⟩ := OwnInts.rd hown
        replace HS := Lib.hid (HS.out.later hq)
        have HRd := Lib.hid hrd
        clear hq hown hrd HV2
        ((try clear e0); (try clear e1); (try clear e2); (try clear e3); (try clear e4); (try clear e5); (try clear e6); (try clear e7); (try clear hltB))
        go_wp2_with fail
        refine (HO.out A' c' V2 _ HRd.out HL2.out).mono ?_
        rintro x w6 ⟨rfl, rfl⟩
        clear HRd
        have c0 := HS.out.arr.1 3 (by decide)
        have f0 := HS.out.arr.2 3
        have e0 := HS.out.ev.h0; have e1 := HS.out.ev.h1; have e2 := HS.out.ev.h2; have e3 := HS.out.ev.h3; have e4 := HS.out.ev.h4; have e5 := HS.out.ev.h5; have e6 := HS.out.ev.h6; have e7 := HS.out.ev.h7; have hltB : w.heap.size < B := Nat.lt_trans (Nat.lt_succ_self _) HS.out.lt
        go_wp2_with fail
        replace HS := Lib.hid (HS.out.updG 3 (by decide) (.int .u64 (maskL V2)))
        clear c0 f0
        ((try clear e0); (try clear e1); (try clear e2); (try clear e3); (try clear e4); (try clear e5); (try clear e6); (try clear e7); (try clear hltB))
        generalize World.setCell w5 _ _ = w4 at *
        refine (HV3.out _ HS.out.below).mono ?_
        rintro x w5 ⟨v, rfl, hown, hq⟩
        obtain ⟨A', c', rfl, _, _, hrd, _⟩ := OwnInts.rd hown
        replace HS := Lib.hid (HS.out.later hq)
        have HRd := Lib.hid hrd
        clear hq hown hrd HV3
        go_wp2_with fail
        refine (HO.out A' c' V3 _ HRd.out HL3.out).mono ?_
        rintro x w6 ⟨rfl, rfl⟩
        clear HRd
        cases bk with
        | true =>
          have c0 := HS.out.arr.1 5 (by decide)
          have f0 := HS.out.arr.2 5
          have e0 := HS.out.ev.h0; have e1 := HS.out.ev.h1; have e2 := HS.out.ev.h2; have e3 := HS.out.ev.h3; have e4 := HS.out.ev.h4; have e5 := HS.out.ev.h5; have e6 := HS.out.ev.h6; have e7 := HS.out.ev.h7; have hltB : w.heap.size < B := Nat.lt_trans (Nat.lt_succ_self _) HS.out.lt
          go_wp2_with fail
          replace HS := Lib.hid (HS.out.updG 5 (by decide) (.int .u64 (maskL V3)))
          clear c0 f0
          ((try clear e0); (try clear e1); (try clear e2); (try clear e3); (try clear e4); (try clear e5); (try clear e6); (try clear e7); (try clear hltB))
          generalize World.setCell w5 _ _ = w4 at *
          refine (HV4.out _ HS.out.below).mono ?_
          rintro x w5 ⟨v, rfl, hown, hq⟩
          obtain ⟨A', c', rfl, _, _, hrd, _⟩ := OwnInts.rd hown
          replace HS := Lib.hid (HS.out.later hq)
          have HRd := Lib.hid hrd
          clear hq hown hrd HV4
          ((try clear e0); (try clear e1); (try clear e2); (try clear e3); (try clear e4); (try clear e5); (try clear e6); (try clear e7); (try clear hltB))
          go_wp2_with fail
          refine (HO.out A' c' V4 _ HRd.out HL4.out).mono ?_
          rintro x w6 ⟨rfl, rfl⟩
          clear HRd
          have c0 := HS.out.arr.1 2 (by decide)
          have f0 := HS.out.arr.2 2
          have e0 := HS.out.ev.h0; have e1 := HS.out.ev.h1; have e2 := HS.out.ev.h2; have e3 := HS.out.ev.h3; have e4 := HS.out.ev.h4; have e5 := HS.out.ev.h5; have e6 := HS.out.ev.h6; have e7 := HS.out.ev.h7; have hltB : w.heap.size < B := Nat.lt_trans (Nat.lt_succ_self _) HS.out.lt
          go_wp2_with fail
          replace HS := Lib.hid (HS.out.updG 2 (by decide) (.int .u64 (maskL V4)))
          clear c0 f0
          ((try clear e0); (try clear e1); (try clear e2); (try clear e3); (try clear e4); (try clear e5); (try clear e6); (try clear e7); (try clear hltB))
          generalize World.setCell w5 _ _ = w4 at *
          refine (HV5.out _ HS.out.below).mono ?_
          rintro x w5 ⟨v, rfl, hown, hq⟩
          obtain ⟨A', c', rfl, _, _, hrd, _⟩ := OwnInts.rd hown
          replace HS := Lib.hid (HS.out.later hq)
          have HRd := Lib.hid hrd
          clear hq hown hrd HV5
          ((try clear e0); (try clear e1); (try clear e2); (try clear e3); (try clear e4); (try clear e5); (try clear e6); (try clear e7); (try clear hltB))
          go_wp2_with fail
          refine (HO.out A' c' V5 _ HRd.out HL5.out).mono ?_
          rintro x w6 ⟨rfl, rfl⟩
          clear HRd
          have c0 := HS.out.arr.1 1 (by decide)
          have f0 := HS.out.arr.2 1
          have e0 := HS.out.ev.h0; have e1 := HS.out.ev.h1; have e2 := HS.out.ev.h2; have e3 := HS.out.ev.h3; have e4 := HS.out.ev.h4; have e5 := HS.out.ev.h5; have e6 := HS.out.ev.h6; have e7 := HS.out.ev.h7; have hltB : w.heap.size < B := Nat.lt_trans (Nat.lt_succ_self _) HS.out.lt
          go_wp2_with fail
          replace HS := Lib.hid (HS.out.updG 1 (by decide) (.int .u64 (maskL V5)))
          clear c0 f0
          ((try clear e0); (try clear e1); (try clear e2); (try clear e3); (try clear e4); (try clear e5); (try clear e6); (try clear e7); (try clear hltB))
          generalize World.setCell w5 _ _ = w4 at *
          refine (HV6.out _ HS.out.below).mono ?_
          rintro x w5 ⟨v, rfl, hown, hq⟩
          obtain ⟨A', c', rfl, _, _, hrd, _⟩ := OwnInts.rd hown
          replace HS := Lib.hid (HS.out.later hq)
          have HRd := Lib.hid hrd
          clear hq hown hrd HV6
          ((try clear e0); (try clear e1); (try clear e2); (try clear e3); (try clear e4); (try clear e5); (try clear e6); (try clear e7); (try clear hltB))
          go_wp2_with fail
          refine (HO.out A' c' V6 _ HRd.out HL6.out).mono ?_
          rintro x w6 ⟨rfl, rfl⟩
          clear HRd
          have c0 := HS.out.arr.1 0 (by decide)
          have f0 := HS.out.arr.2 0
          have e0 := HS.out.ev.h0; have e1 := HS.out.ev.h1; have e2 := HS.out.ev.h2; have e3 := HS.out.ev.h3; have e4 := HS.out.ev.h4; have e5 := HS.out.ev.h5; have e6 := HS.out.ev.h6; have e7 := HS.out.ev.h7; have hltB : w.heap.size < B := Nat.lt_trans (Nat.lt_succ_self _) HS.out.lt
          replace HS := Lib.hid (HS.out.updG 0 (by decide) (.int .u64 (maskL V6)))
          have HZ14 : Hid (∀ j v, zs[j]? = some v → (w5.setCell ⟨B, 0, none⟩ (.int .u64 (maskL V6))).cell? ⟨B, 0 + j, none⟩ = some v) := fun j v hj => by
            have hl : j < 30 := by rw [← HS30.out]; exact (Array.getElem?_eq_some_iff.1 hj).1
            rw [Nat.zero_add]
            refine ((HS.out.arr.1 j hl).trans (congrArg some (HG.out j hl))).trans ?_
            rw [Array.getD_eq_getD_getElem?, hj]
            rfl
          have HT14 : Hid ((w5.setCell ⟨B, 0, none⟩ (.int .u64 (maskL V6))).there (w.heap.size + 1) 0 zs.size) := by show World.there _ _ _ _; rw [HS30.out]; exact HS.out.out
          have HB14 := Lib.hid HS.out.below
          clear HG HS
          go_wp2_with (first
            | (refine wp_load_arr (by rfl) 37 _ rfl zs B 0 rfl Tryz.underlying37 rfl HI2.out HZ14.out ?_)
            | (refine wp_store_at (w := w) rfl 37 _ _ rfl zs (w.heap.size + 1) (by omega) rfl rfl Tryz.underlying37 rfl HI2.out HC2.out HB14.out HT14.out ?_; intro W' hLd hbE))
          (try simp only [Exit.inBlock, Exit.then])
          skip
          skip
          refine bodyPost_ret (v := .agg zs) ?_ rfl ⟨rfl, hbE⟩
          rw [results_cell1 rfl]
          exact hLd.out
        | false =>
          have c0 := HS.out.arr.1 4 (by decide)
          have f0 := HS.out.arr.2 4
          have e0 := HS.out.ev.h0; have e1 := HS.out.ev.h1; have e2 := HS.out.ev.h2; have e3 := HS.out.ev.h3; have e4 := HS.out.ev.h4; have e5 := HS.out.ev.h5; have e6 := HS.out.ev.h6; have e7 := HS.out.ev.h7; have hltB : w.heap.size < B := Nat.lt_trans (Nat.lt_succ_self _) HS.out.lt
          go_wp2_with fail
          replace HS := Lib.hid (HS.out.updG 4 (by decide) (.int .u64 (maskL V3)))
          clear c0 f0
          ((try clear e0); (try clear e1); (try clear e2); (try clear e3); (try clear e4); (try clear e5); (try clear e6); (try clear e7); (try clear hltB))
          generalize World.setCell w5 _ _ = w4 at *
          refine (HV4.out _ HS.out.below).mono ?_
          rintro x w5 ⟨v, rfl, hown, hq⟩
          obtain ⟨A', c', rfl, _, _, hrd, _⟩ := OwnInts.rd hown
          replace HS := Lib.hid (HS.out.later hq)
          have HRd := Lib.hid hrd
          clear hq hown hrd HV4
          ((try clear e0); (try clear e1); (try clear e2); (try clear e3); (try clear e4); (try clear e5); (try clear e6); (try clear e7); (try clear hltB))
          go_wp2_with fail
          refine (HO.out A' c' V4 _ HRd.out HL4.out).mono ?_
          rintro x w6 ⟨rfl, rfl⟩
          clear HRd
          have c0 := HS.out.arr.1 2 (by decide)
          have f0 := HS.out.arr.2 2
          have e0 := HS.out.ev.h0; have e1 := HS.out.ev.h1; have e2 := HS.out.ev.h2; have e3 := HS.out.ev.h3; have e4 := HS.out.ev.h4; have e5 := HS.out.ev.h5; have e6 := HS.out.ev.h6; have e7 := HS.out.ev.h7; have hltB : w.heap.size < B := Nat.lt_trans (Nat.lt_succ_self _) HS.out.lt
          go_wp2_with fail
          replace HS := Lib.hid (HS.out.updG 2 (by decide) (.int .u64 (maskL V4)))
          clear c0 f0
          ((try clear e0); (try clear e1); (try clear e2); (try clear e3); (try clear e4); (try clear e5); (try clear e6); (try clear e7); (try clear hltB))
          generalize World.setCell w5 _ _ = w4 at *
          refine (HV5.out _ HS.out.below).mono ?_
          rintro x w5 ⟨v, rfl, hown, hq⟩
          obtain ⟨A', c', rfl, _, _, hrd, _⟩ := OwnInts.rd hown
          replace HS := Lib.hid (HS.out.later hq)
          have HRd := Lib.hid hrd
          clear hq hown hrd HV5
          ((try clear e0); (try clear e1); (try clear e2); (try clear e3); (try clear e4); (try clear e5); (try clear e6); (try clear e7); (try clear hltB))
          go_wp2_with fail
          refine (HO.out A' c' V5 _ HRd.out HL5.out).mono ?_
          rintro x w6 ⟨rfl, rfl⟩
          clear HRd
          have c0 := HS.out.arr.1 1 (by decide)
          have f0 := HS.out.arr.2 1
          have e0 := HS.out.ev.h0; have e1 := HS.out.ev.h1; have e2 := HS.out.ev.h2; have e3 := HS.out.ev.h3; have e4 := HS.out.ev.h4; have e5 := HS.out.ev.h5; have e6 := HS.out.ev.h6; have e7 := HS.out.ev.h7; have hltB : w.heap.size < B := Nat.lt_trans (Nat.lt_succ_self _) HS.out.lt
          go_wp2_with fail
          replace HS := Lib.hid (HS.out.updG 1 (by decide) (.int .u64 (maskL V5)))
          clear c0 f0
          ((try clear e0); (try clear e1); (try clear e2); (try clear e3); (try clear e4); (try clear e5); (try clear e6); (try clear e7); (try clear hltB))
          generalize World.setCell w5 _ _ = w4 at *
          refine (HV6.out _ HS.out.below).mono ?_
          rintro x w5 ⟨v, rfl, hown, hq⟩
          obtain ⟨A', c', rfl, _, _, hrd, _⟩ := OwnInts.rd hown
          replace HS := Lib.hid (HS.out.later hq)
          have HRd := Lib.hid hrd
          clear hq hown hrd HV6
          ((try clear e0); (try clear e1); (try clear e2); (try clear e3); (try clear e4); (try clear e5); (try clear e6); (try clear e7); (try clear hltB))
          go_wp2_with fail
          refine (HO.out A' c' V6 _ HRd.out HL6.out).mono ?_
          rintro x w6 ⟨rfl, rfl⟩
          clear HRd
          have c0 := HS.out.arr.1 0 (by decide)
          have f0 := HS.out.arr.2 0
          have e0 := HS.out.ev.h0; have e1 := HS.out.ev.h1; have e2 := HS.out.ev.h2; have e3 := HS.out.ev.h3; have e4 := HS.out.ev.h4; have e5 := HS.out.ev.h5; have e6 := HS.out.ev.h6; have e7 := HS.out.ev.h7; have hltB : w.heap.size < B := Nat.lt_trans (Nat.lt_succ_self _) HS.out.lt
          replace HS := Lib.hid (HS.out.updG 0 (by decide) (.int .u64 (maskL V6)))
          have HZ14 : Hid (∀ j v, zs[j]? = some v → (w5.setCell ⟨B, 0, none⟩ (.int .u64 (maskL V6))).cell? ⟨B, 0 + j, none⟩ = some v) := fun j v hj => by
            have hl : j < 30 := by rw [← HS30.out]; exact (Array.getElem?_eq_some_iff.1 hj).1
            rw [Nat.zero_add]
            refine ((HS.out.arr.1 j hl).trans (congrArg some (HG.out j hl))).trans ?_
            rw [Array.getD_eq_getD_getElem?, hj]
            rfl
          have HT14 : Hid ((w5.setCell ⟨B, 0, none⟩ (.int .u64 (maskL V6))).there (w.heap.size + 1) 0 zs.size) := by show World.there _ _ _ _; rw [HS30.out]; exact HS.out.out
          have HB14 := Lib.hid HS.out.below
          clear HG HS
          go_wp2_with (first
            | (refine wp_load_arr (by rfl) 37 _ rfl zs B 0 rfl Tryz.underlying37 rfl HI2.out HZ14.out ?_)
            | (refine wp_store_at (w := w) rfl 37 _ _ rfl zs (w.heap.size + 1) (by omega) rfl rfl Tryz.underlying37 rfl HI2.out HC2.out HB14.out HT14.out ?_; intro W' hLd hbE))
          (try simp only [Exit.inBlock, Exit.then])
          skip
          skip
          refine bodyPost_ret (v := .agg zs) ?_ rfl ⟨rfl, hbE⟩
          rw [results_cell1 rfl]
          exact hLd.out
    · obtain ⟨-, hgB, hfz⟩ := own_cells hown
      obtain ⟨A', c2, e, hc1, hc2, hrd, hge⟩ := OwnInts.rd hown
      cases e
      obtain ⟨q, hm⟩ : ∃ q, q = V1.length := ⟨_, rfl⟩
      have HVL : Hid (V1.length = q) := hm.symm
      rw [← hm] at hrd hc1 ⊢
      have hql : q ≤ 1000000000 := by have := HL1.out; omega
      have HRD := Lib.hid hrd
      have HFZ := Lib.hid hfz
      have hBg : B < g := by omega
      clear hm hown hrd hfz hge
      go_wp2
      go_loopw [5] (fun i wr => ∃ k : Nat, k ≤ q ∧ i = .int .i64 k ∧ Hid (∀ j x, V1[j]? = some x → wr.cell? ⟨g, j, none⟩ = some (.int .i64 (if j < k then x - 1970 else x))) ∧ Hid (∀ j, wr.frozen? ⟨g, j, none⟩ = false) ∧ Hid (LowK w wr B A n m bk G0) ∧ w5.heap.size ≤ wr.heap.size) (fun i _ => q - (intOf i).toNat)
      case atStart =>
        refine ⟨0, Nat.zero_le _, by go_num, fun j x hj => ?_, HFZ.out, HS, Nat.le_refl _⟩
        obtain ⟨b, o, x', e, _, hx, hc⟩ := RdInts.at_ HRD.out (i := j) (by have := (List.getElem?_eq_some_iff.1 hj).1; have := HVL.out; omega)
        cases e
        obtain rfl : x = x' := by rw [hj] at hx; injection hx
        simpa using hc
      case round =>
        obtain ⟨k, hk, rfl, HCl, HFZ, HS, hsw⟩ := hrel
        by_cases hlt : k < q
        · have hlt' : (k : Int) < (q : Int) := by omega
          have hkV : k < V1.length := by have := HVL.out; omega
          have hx := List.getElem?_eq_getElem hkV
          obtain ⟨x, hxx⟩ : ∃ x, x = V1[k] := ⟨_, rfl⟩
          rw [← hxx] at hx
          have hxm : x ∈ V1 := List.mem_of_getElem? hx
          obtain ⟨b1, b2⟩ := HBd.out x hxm
          have c0 := HCl.out k x hx
          rw [if_neg (Nat.lt_irrefl k)] at c0
          have f0 := HFZ.out k
          have HX := Lib.hid hx
          clear hx hxx hxm hkV
          go_wp2
          go_roundw
          case rel =>
            refine ⟨k + 1, by omega, by go_num, fun j y hj => ?_, fun j => by rw [World.frozen?_setCell]; exact HFZ.out j, HS.out.other hBg _, by simpa using hsw⟩
            by_cases e : j = k
            · subst e
              obtain rfl : x = y := by have := HX.out; rw [hj] at this; injection this with h; exact h.symm
              rw [World.cell?_setCell_same _ _ _ (HCl.out j x hj), if_pos (by omega)]
            · rw [World.cell?_setCell_other _ _ _ _ (by intro e2; injection e2 with _ e3; exact e e3.symm), HCl.out j y hj]
              by_cases hjk : j < k
              · rw [if_pos hjk, if_pos (by omega)]
              · rw [if_neg hjk, if_neg (by omega)]
          case measure => simp [intOf]; omega
        · obtain rfl : k = q := by omega
          have hrd2 : RdInts wr (some ⟨g, 0, none⟩) k (V1.map (· - 1970)) := by
            refine ⟨by rw [List.length_map]; exact HVL.out, fun hn => ⟨g, 0, rfl, by omega, fun j y hj i v hv => ?_⟩⟩
            rw [List.getElem?_map] at hj
            rcases hvj : V1[j]? with _ | x
            · rw [hvj] at hj; cases hj
            · rw [hvj] at hj
              obtain rfl : x - 1970 = y := by simpa using hj
              have hi : i = 0 := by have := (List.getElem?_eq_some_iff.1 hv).1; simpa [intEnc] using this
              subst hi
              obtain rfl : Value.int .i64 (x - 1970) = v := by simpa [intEnc] using hv
              have := HCl.out j x hvj
              rw [if_pos (by have := (List.getElem?_eq_some_iff.1 hvj).1; have := HVL.out; omega)] at this
              simpa using this
          have HFY := Lib.hid (HWd.out (some ⟨g, 0, none⟩) k cg wr hrd2 (by omega))
          clear hrd2 HCl HFZ HWd HRD
          go_wp2_with fail
          refine HFY.out.mono ?_
          rintro x w6 ⟨rfl, hq⟩
          replace HS := Lib.hid (HS.out.later hq)
          clear hq HFY
          go_wp2_with (refine wp_store_rng rfl 35 _ _ rfl #[.int .u64 (y 0), .int .u64 (y 1), .int .u64 (y 2), .int .u64 (y 3), .int .u64 (y 4), .int .u64 (y 5), .int .u64 (y 6)] B 18 rfl rfl (by kernel_rfl) (by kernel_rfl) (arr_there HS.out.arr 18 7 (by decide)) ?_; generalize hW6 : World.setCells _ _ _ _ = w4'; have HSy := LowK.updL [.int .u64 (y 0), .int .u64 (y 1), .int .u64 (y 2), .int .u64 (y 3), .int .u64 (y 4), .int .u64 (y 5), .int .u64 (y 6)] _ 18 _ HS.out (by simp); rw [show World.setCells w6 B 18 [.int .u64 (y 0), .int .u64 (y 1), .int .u64 (y 2), .int .u64 (y 3), .int .u64 (y 4), .int .u64 (y 5), .int .u64 (y 6)] = w4' from hW6] at HSy; replace HS := Lib.hid HSy; clear HSy hW6; have e0 := HS.out.ev.h0; have e1 := HS.out.ev.h1; have e2 := HS.out.ev.h2; have e3 := HS.out.ev.h3; have e4 := HS.out.ev.h4; have e5 := HS.out.ev.h5; have e6 := HS.out.ev.h6; have e7 := HS.out.ev.h7; have hltB : w.heap.size < B := Nat.lt_trans (Nat.lt_succ_self _) HS.out.lt)
          ((try clear e0); (try clear e1); (try clear e2); (try clear e3); (try clear e4); (try clear e5); (try clear e6); (try clear e7); (try clear hltB))
          ((try clear e0); (try clear e1); (try clear e2); (try clear e3); (try clear e4); (try clear e5); (try clear e6); (try clear e7); (try clear hltB))
          refine (HV2.out _ HS.out.below).mono ?_
          rintro x w5 ⟨v, rfl, hown, hq⟩
          obtain ⟨A', c', rfl, _, _, hrd, _⟩ := OwnInts.rd hown
          replace HS := Lib.hid (HS.out.later hq)
          have HRd := Lib.hid hrd
          clear hq hown hrd HV2
          ((try clear e0); (try clear e1); (try clear e2); (try clear e3); (try clear e4); (try clear e5); (try clear e6); (try clear e7); (try clear hltB))
          go_wp2_with fail
          refine (HO.out A' c' V2 _ HRd.out HL2.out).mono ?_
          rintro x w6 ⟨rfl, rfl⟩
          clear HRd
          have c0 := HS.out.arr.1 3 (by decide)
          have f0 := HS.out.arr.2 3
          have e0 := HS.out.ev.h0; have e1 := HS.out.ev.h1; have e2 := HS.out.ev.h2; have e3 := HS.out.ev.h3; have e4 := HS.out.ev.h4; have e5 := HS.out.ev.h5; have e6 := HS.out.ev.h6; have e7 := HS.out.ev.h7; have hltB : w.heap.size < B := Nat.lt_trans (Nat.lt_succ_self _) HS.out.lt
          go_wp2_with fail
          replace HS := Lib.hid (HS.out.updG 3 (by decide) (.int .u64 (maskL V2)))
          clear c0 f0
          ((try clear e0); (try clear e1); (try clear e2); (try clear e3); (try clear e4); (try clear e5); (try clear e6); (try clear e7); (try clear hltB))
          generalize World.setCell w5 _ _ = w4 at *
          refine (HV3.out _ HS.out.below).mono ?_
          rintro x w5 ⟨v, rfl, hown, hq⟩
          obtain ⟨A', c', rfl, _, _, hrd, _⟩ := OwnInts.rd hown
          replace HS := Lib.hid (HS.out.later hq)
          have HRd := Lib.hid hrd
          clear hq hown hrd HV3
          go_wp2_with fail
          refine (HO.out A' c' V3 _ HRd.out HL3.out).mono ?_
          rintro x w6 ⟨rfl, rfl⟩
          clear HRd
          cases bk with
          | true =>
            have c0 := HS.out.arr.1 5 (by decide)
            have f0 := HS.out.arr.2 5
            have e0 := HS.out.ev.h0; have e1 := HS.out.ev.h1; have e2 := HS.out.ev.h2; have e3 := HS.out.ev.h3; have e4 := HS.out.ev.h4; have e5 := HS.out.ev.h5; have e6 := HS.out.ev.h6; have e7 := HS.out.ev.h7; have hltB : w.heap.size < B := Nat.lt_trans (Nat.lt_succ_self _) HS.out.lt
            go_wp2_with fail
            replace HS := Lib.hid (HS.out.updG 5 (by decide) (.int .u64 (maskL V3)))
            clear c0 f0
            ((try clear e0); (try clear e1); (try clear e2); (try clear e3); (try clear e4); (try clear e5); (try clear e6); (try clear e7); (try clear hltB))
            generalize World.setCell w5 _ _ = w4 at *
            refine (HV4.out _ HS.out.below).mono ?_
            rintro x w5 ⟨v, rfl, hown, hq⟩
            obtain ⟨A', c', rfl, _, _, hrd, _⟩ := OwnInts.rd hown
            replace HS := Lib.hid (HS.out.later hq)
            have HRd := Lib.hid hrd
            clear hq hown hrd HV4
            ((try clear e0); (try clear e1); (try clear e2); (try clear e3); (try clear e4); (try clear e5); (try clear e6); (try clear e7); (try clear hltB))
            go_wp2_with fail
            refine (HO.out A' c' V4 _ HRd.out HL4.out).mono ?_
            rintro x w6 ⟨rfl, rfl⟩
            clear HRd
            have c0 := HS.out.arr.1 2 (by decide)
            have f0 := HS.out.arr.2 2
            have e0 := HS.out.ev.h0; have e1 := HS.out.ev.h1; have e2 := HS.out.ev.h2; have e3 := HS.out.ev.h3; have e4 := HS.out.ev.h4; have e5 := HS.out.ev.h5; have e6 := HS.out.ev.h6; have e7 := HS.out.ev.h7; have hltB : w.heap.size < B := Nat.lt_trans (Nat.lt_succ_self _) HS.out.lt
            go_wp2_with fail
            replace HS := Lib.hid (HS.out.updG 2 (by decide) (.int .u64 (maskL V4)))
            clear c0 f0
            ((try clear e0); (try clear e1); (try clear e2); (try clear e3); (try clear e4); (try clear e5); (try clear e6); (try clear e7); (try clear hltB))
            generalize World.setCell w5 _ _ = w4 at *
            refine (HV5.out _ HS.out.below).mono ?_
            rintro x w5 ⟨v, rfl, hown, hq⟩
            obtain ⟨A', c', rfl, _, _, hrd, _⟩ := OwnInts.rd hown
            replace HS := Lib.hid (HS.out.later hq)
            have HRd := Lib.hid hrd
            clear hq hown hrd HV5
            ((try clear e0); (try clear e1); (try clear e2); (try clear e3); (try clear e4); (try clear e5); (try clear e6); (try clear e7); (try clear hltB))
            go_wp2_with fail
            refine (HO.out A' c' V5 _ HRd.out HL5.out).mono ?_
            rintro x w6 ⟨rfl, rfl⟩
            clear HRd
            have c0 := HS.out.arr.1 1 (by decide)
            have f0 := HS.out.arr.2 1
            have e0 := HS.out.ev.h0; have e1 := HS.out.ev.h1; have e2 := HS.out.ev.h2; have e3 := HS.out.ev.h3; have e4 := HS.out.ev.h4; have e5 := HS.out.ev.h5; have e6 := HS.out.ev.h6; have e7 := HS.out.ev.h7; have hltB : w.heap.size < B := Nat.lt_trans (Nat.lt_succ_self _) HS.out.lt
            go_wp2_with fail
            replace HS := Lib.hid (HS.out.updG 1 (by decide) (.int .u64 (maskL V5)))
            clear c0 f0
            ((try clear e0); (try clear e1); (try clear e2); (try clear e3); (try clear e4); (try clear e5); (try clear e6); (try clear e7); (try clear hltB))
            generalize World.setCell w5 _ _ = w4 at *
            refine (HV6.out _ HS.out.below).mono ?_
            rintro x w5 ⟨v, rfl, hown, hq⟩
            obtain ⟨A', c', rfl, _, _, hrd, _⟩ := OwnInts.rd hown
            replace HS := Lib.hid (HS.out.later hq)
            have HRd := Lib.hid hrd
            clear hq hown hrd HV6
            ((try clear e0); (try clear e1); (try clear e2); (try clear e3); (try clear e4); (try clear e5); (try clear e6); (try clear e7); (try clear hltB))
            go_wp2_with fail
            refine (HO.out A' c' V6 _ HRd.out HL6.out).mono ?_
            rintro x w6 ⟨rfl, rfl⟩
            clear HRd
            have c0 := HS.out.arr.1 0 (by decide)
            have f0 := HS.out.arr.2 0
            have e0 := HS.out.ev.h0; have e1 := HS.out.ev.h1; have e2 := HS.out.ev.h2; have e3 := HS.out.ev.h3; have e4 := HS.out.ev.h4; have e5 := HS.out.ev.h5; have e6 := HS.out.ev.h6; have e7 := HS.out.ev.h7; have hltB : w.heap.size < B := Nat.lt_trans (Nat.lt_succ_self _) HS.out.lt
            replace HS := Lib.hid (HS.out.updG 0 (by decide) (.int .u64 (maskL V6)))
            have HZ14 : Hid (∀ j v, zs[j]? = some v → (w5.setCell ⟨B, 0, none⟩ (.int .u64 (maskL V6))).cell? ⟨B, 0 + j, none⟩ = some v) := fun j v hj => by
              have hl : j < 30 := by rw [← HS30.out]; exact (Array.getElem?_eq_some_iff.1 hj).1
              rw [Nat.zero_add]
              refine ((HS.out.arr.1 j hl).trans (congrArg some (HG.out j hl))).trans ?_
              rw [Array.getD_eq_getD_getElem?, hj]
              rfl
            have HT14 : Hid ((w5.setCell ⟨B, 0, none⟩ (.int .u64 (maskL V6))).there (w.heap.size + 1) 0 zs.size) := by show World.there _ _ _ _; rw [HS30.out]; exact HS.out.out
            have HB14 := Lib.hid HS.out.below
            clear HG HS
            go_wp2_with (first
              | (refine wp_load_arr (by rfl) 37 _ rfl zs B 0 rfl Tryz.underlying37 rfl HI2.out HZ14.out ?_)
              | (refine wp_store_at (w := w) rfl 37 _ _ rfl zs (w.heap.size + 1) (by omega) rfl rfl Tryz.underlying37 rfl HI2.out HC2.out HB14.out HT14.out ?_; intro W' hLd hbE))
            (try simp only [Exit.inBlock, Exit.then])
            skip
            skip
            refine bodyPost_ret (v := .agg zs) ?_ rfl ⟨rfl, hbE⟩
            rw [results_cell1 rfl]
            exact hLd.out
          | false =>
            have c0 := HS.out.arr.1 4 (by decide)
            have f0 := HS.out.arr.2 4
            have e0 := HS.out.ev.h0; have e1 := HS.out.ev.h1; have e2 := HS.out.ev.h2; have e3 := HS.out.ev.h3; have e4 := HS.out.ev.h4; have e5 := HS.out.ev.h5; have e6 := HS.out.ev.h6; have e7 := HS.out.ev.h7; have hltB : w.heap.size < B := Nat.lt_trans (Nat.lt_succ_self _) HS.out.lt
            go_wp2_with fail
            replace HS := Lib.hid (HS.out.updG 4 (by decide) (.int .u64 (maskL V3)))
            clear c0 f0
            ((try clear e0); (try clear e1); (try clear e2); (try clear e3); (try clear e4); (try clear e5); (try clear e6); (try clear e7); (try clear hltB))
            generalize World.setCell w5 _ _ = w4 at *
            refine (HV4.out _ HS.out.below).mono ?_
            rintro x w5 ⟨v, rfl, hown, hq⟩
            obtain ⟨A', c', rfl, _, _, hrd, _⟩ := OwnInts.rd hown
            replace HS := Lib.hid (HS.out.later hq)
            have HRd := Lib.hid hrd
            clear hq hown hrd HV4
            ((try clear e0); (try clear e1); (try clear e2); (try clear e3); (try clear e4); (try clear e5); (try clear e6); (try clear e7); (try clear hltB))
            go_wp2_with fail
            refine (HO.out A' c' V4 _ HRd.out HL4.out).mono ?_
            rintro x w6 ⟨rfl, rfl⟩
            clear HRd
            have c0 := HS.out.arr.1 2 (by decide)
            have f0 := HS.out.arr.2 2
            have e0 := HS.out.ev.h0; have e1 := HS.out.ev.h1; have e2 := HS.out.ev.h2; have e3 := HS.out.ev.h3; have e4 := HS.out.ev.h4; have e5 := HS.out.ev.h5; have e6 := HS.out.ev.h6; have e7 := HS.out.ev.h7; have hltB : w.heap.size < B := Nat.lt_trans (Nat.lt_succ_self _) HS.out.lt
            go_wp2_with fail
            replace HS := Lib.hid (HS.out.updG 2 (by decide) (.int .u64 (maskL V4)))
            clear c0 f0
            ((try clear e0); (try clear e1); (try clear e2); (try clear e3); (try clear e4); (try clear e5); (try clear e6); (try clear e7); (try clear hltB))
            generalize World.setCell w5 _ _ = w4 at *
            refine (HV5.out _ HS.out.below).mono ?_
            rintro x w5 ⟨v, rfl, hown, hq⟩
            obtain ⟨A', c', rfl, _, _, hrd, _⟩ := OwnInts.rd hown
            replace HS := Lib.hid (HS.out.later hq)
            have HRd := Lib.hid hrd
            clear hq hown hrd HV5
            ((try clear e0); (try clear e1); (try clear e2); (try clear e3); (try clear e4); (try clear e5); (try clear e6); (try clear e7); (try clear hltB))
            go_wp2_with fail
            refine (HO.out A' c' V5 _ HRd.out HL5.out).mono ?_
            rintro x w6 ⟨rfl, rfl⟩
            clear HRd
            have c0 := HS.out.arr.1 1 (by decide)
            have f0 := HS.out.arr.2 1
            have e0 := HS.out.ev.h0; have e1 := HS.out.ev.h1; have e2 := HS.out.ev.h2; have e3 := HS.out.ev.h3; have e4 := HS.out.ev.h4; have e5 := HS.out.ev.h5; have e6 := HS.out.ev.h6; have e7 := HS.out.ev.h7; have hltB : w.heap.size < B := Nat.lt_trans (Nat.lt_succ_self _) HS.out.lt
            go_wp2_with fail
            replace HS := Lib.hid (HS.out.updG 1 (by decide) (.int .u64 (maskL V5)))
            clear c0 f0
            ((try clear e0); (try clear e1); (try clear e2); (try clear e3); (try clear e4); (try clear e5); (try clear e6); (try clear e7); (try clear hltB))
            generalize World.setCell w5 _ _ = w4 at *
            refine (HV6.out _ HS.out.below).mono ?_
            rintro x w5 ⟨v, rfl, hown, hq⟩
            obtain ⟨A', c', rfl, _, _, hrd, _⟩ := OwnInts.rd hown
            replace HS := Lib.hid (HS.out.later hq)
            have HRd := Lib.hid hrd
            clear hq hown hrd HV6
            ((try clear e0); (try clear e1); (try clear e2); (try clear e3); (try clear e4); (try clear e5); (try clear e6); (try clear e7); (try clear hltB))
            go_wp2_with fail
            refine (HO.out A' c' V6 _ HRd.out HL6.out).mono ?_
            rintro x w6 ⟨rfl, rfl⟩
            clear HRd
            have c0 := HS.out.arr.1 0 (by decide)
            have f0 := HS.out.arr.2 0
            have e0 := HS.out.ev.h0; have e1 := HS.out.ev.h1; have e2 := HS.out.ev.h2; have e3 := HS.out.ev.h3; have e4 := HS.out.ev.h4; have e5 := HS.out.ev.h5; have e6 := HS.out.ev.h6; have e7 := HS.out.ev.h7; have hltB : w.heap.size < B := Nat.lt_trans (Nat.lt_succ_self _) HS.out.lt
            replace HS := Lib.hid (HS.out.updG 0 (by decide) (.int .u64 (maskL V6)))
            have HZ14 : Hid (∀ j v, zs[j]? = some v → (w5.setCell ⟨B, 0, none⟩ (.int .u64 (maskL V6))).cell? ⟨B, 0 + j, none⟩ = some v) := fun j v hj => by
              have hl : j < 30 := by rw [← HS30.out]; exact (Array.getElem?_eq_some_iff.1 hj).1
              rw [Nat.zero_add]
              refine ((HS.out.arr.1 j hl).trans (congrArg some (HG.out j hl))).trans ?_
              rw [Array.getD_eq_getD_getElem?, hj]
              rfl
            have HT14 : Hid ((w5.setCell ⟨B, 0, none⟩ (.int .u64 (maskL V6))).there (w.heap.size + 1) 0 zs.size) := by show World.there _ _ _ _; rw [HS30.out]; exact HS.out.out
            have HB14 := Lib.hid HS.out.below
            clear HG HS
            go_wp2_with (first
              | (refine wp_load_arr (by rfl) 37 _ rfl zs B 0 rfl Tryz.underlying37 rfl HI2.out HZ14.out ?_)
              | (refine wp_store_at (w := w) rfl 37 _ _ rfl zs (w.heap.size + 1) (by omega) rfl rfl Tryz.underlying37 rfl HI2.out HC2.out HB14.out HT14.out ?_; intro W' hLd hbE))
            (try simp only [Exit.inBlock, Exit.then])
            skip
            skip
            refine bodyPost_ret (v := .agg zs) ?_ rfl ⟨rfl, hbE⟩
            rw [results_cell1 rfl]
            exact hLd.out
  · have h0' : 0 < (n 0 : Int) := by omega
    have HG : Hid (∀ j, j < 30 → (if bk then updG (updG (updG (updG (updG (updL (updG fullG 6 (.int .u64 (maskL V0))) 18 (yL y)) 3 (.int .u64 (maskL V2))) 5 (.int .u64 (maskL V3))) 2 (.int .u64 (maskL V4))) 1 (.int .u64 (maskL V5))) 0 (.int .u64 (maskL V6)) j else updG (updG (updG (updG (updG (updL (updG fullG 6 (.int .u64 (maskL V0))) 18 (yL y)) 3 (.int .u64 (maskL V2))) 4 (.int .u64 (maskL V3))) 2 (.int .u64 (maskL V4))) 1 (.int .u64 (maskL V5))) 0 (.int .u64 (maskL V6)) j) = (clA K).getD j undef) := by
      show ∀ j, _
      rw [HEv.out, if_neg h0]
      cases bk
      · exact rv_upd2 _ _ _ _ _ _ y
      · exact rv_upd1 _ _ _ _ _ _ y
    unfold fullG yL at HG
    clear h0 HEv
    generalize clA fullC = cs at *
    generalize clA K = zs at *
    go_enter Tryz.func11, Tryz.ntmps11
    go_wp2_with fail
    have hT := there_new (w.alloc (.cells #[.slice (A 0) (n 0) (m 0), .slice (A 1) (n 1) (m 1), .slice (A 2) (n 2) (m 2), .slice (A 3) (n 3) (m 3), .bool bk, .slice (A 5) (n 5) (m 5), .slice (A 6) (n 6) (m 6), .slice (A 7) (n 7) (m 7)] 24)) #[.int .u64 0, .int .u64 0, .int .u64 0, .int .u64 0, .int .u64 0, .int .u64 0, .int .u64 0, .bool false, .int .i64 0, .bool false, .int .u64 0, .int .u64 0, .int .u64 0, .int .u64 0, .int .u64 0, .int .u64 0, .int .u64 0, .int .u64 0, .int .u64 0, .int .u64 0, .int .u64 0, .int .u64 0, .int .u64 0, .int .u64 0, .int .u64 0, .int .i64 0, .int .i64 0, .int .i64 0, .int .i64 0, .int .i64 0] 37
    rw [show (w.alloc (.cells #[.slice (A 0) (n 0) (m 0), .slice (A 1) (n 1) (m 1), .slice (A 2) (n 2) (m 2), .slice (A 3) (n 3) (m 3), .bool bk, .slice (A 5) (n 5) (m 5), .slice (A 6) (n 6) (m 6), .slice (A 7) (n 7) (m 7)] 24)).heap.size = w.heap.size + 1 by simp] at hT
    have hE := (evAt_new w A n m bk 24).below ((Below.refl _ _).alloc (Nat.le_refl _) (.cells #[.int .u64 0, .int .u64 0, .int .u64 0, .int .u64 0, .int .u64 0, .int .u64 0, .int .u64 0, .bool false, .int .i64 0, .bool false, .int .u64 0, .int .u64 0, .int .u64 0, .int .u64 0, .int .u64 0, .int .u64 0, .int .u64 0, .int .u64 0, .int .u64 0, .int .u64 0, .int .u64 0, .int .u64 0, .int .u64 0, .int .u64 0, .int .u64 0, .int .i64 0, .int .i64 0, .int .i64 0, .int .i64 0, .int .i64 0] 37))
    have hb1 : Below w.heap.size w ((w.alloc (.cells #[.slice (A 0) (n 0) (m 0), .slice (A 1) (n 1) (m 1), .slice (A 2) (n 2) (m 2), .slice (A 3) (n 3) (m 3), .bool bk, .slice (A 5) (n 5) (m 5), .slice (A 6) (n 6) (m 6), .slice (A 7) (n 7) (m 7)] 24)).alloc (.cells #[.int .u64 0, .int .u64 0, .int .u64 0, .int .u64 0, .int .u64 0, .int .u64 0, .int .u64 0, .bool false, .int .i64 0, .bool false, .int .u64 0, .int .u64 0, .int .u64 0, .int .u64 0, .int .u64 0, .int .u64 0, .int .u64 0, .int .u64 0, .int .u64 0, .int .u64 0, .int .u64 0, .int .u64 0, .int .u64 0, .int .u64 0, .int .u64 0, .int .i64 0, .int .i64 0, .int .i64 0, .int .i64 0, .int .i64 0] 37)) := by (repeat' (first | (with_reducible exact Below.refl _ _) | (with_reducible assumption) | (with_reducible refine below_drewN ?_ _) | (with_reducible refine Below.alloc ?_ ?_ _) | (with_reducible refine Below.drew ?_) | (with_reducible refine Below.setCell ?_ ?_ _) | go_size))
    have hz1 : w.heap.size + 2 ≤ ((w.alloc (.cells #[.slice (A 0) (n 0) (m 0), .slice (A 1) (n 1) (m 1), .slice (A 2) (n 2) (m 2), .slice (A 3) (n 3) (m 3), .bool bk, .slice (A 5) (n 5) (m 5), .slice (A 6) (n 6) (m 6), .slice (A 7) (n 7) (m 7)] 24)).alloc (.cells #[.int .u64 0, .int .u64 0, .int .u64 0, .int .u64 0, .int .u64 0, .int .u64 0, .int .u64 0, .bool false, .int .i64 0, .bool false, .int .u64 0, .int .u64 0, .int .u64 0, .int .u64 0, .int .u64 0, .int .u64 0, .int .u64 0, .int .u64 0, .int .u64 0, .int .u64 0, .int .u64 0, .int .u64 0, .int .u64 0, .int .u64 0, .int .u64 0, .int .i64 0, .int .i64 0, .int .i64 0, .int .i64 0, .int .i64 0] 37)).heap.size := by simp
    generalize (w.alloc (.cells #[.slice (A 0) (n 0) (m 0), .slice (A 1) (n 1) (m 1), .slice (A 2) (n 2) (m 2), .slice (A 3) (n 3) (m 3), .bool bk, .slice (A 5) (n 5) (m 5), .slice (A 6) (n 6) (m 6), .slice (A 7) (n 7) (m 7)] 24)).alloc (.cells #[.int .u64 0, .int .u64 0, .int .u64 0, .int .u64 0, .int .u64 0, .int .u64 0, .int .u64 0, .bool false, .int .i64 0, .bool false, .int .u64 0, .int .u64 0, .int .u64 0, .int .u64 0, .int .u64 0, .int .u64 0, .int .u64 0, .int .u64 0, .int .u64 0, .int .u64 0, .int .u64 0, .int .u64 0, .int .u64 0, .int .u64 0, .int .u64 0, .int .i64 0, .int .i64 0, .int .i64 0, .int .i64 0, .int .i64 0] 37) = w1 at *
    have HE1 := Lib.hid hE
    have HT1 := Lib.hid hT
    clear hE hT
    refine (HF.out _).mono ?_
    rintro x w2 ⟨rfl, hq2⟩
    have hb2 := bthen hb1 hq2 hb1.size
    have HE2 := Lib.hid (HE1.out.below hq2)
    have HT2 := Lib.hid (there_below HT1.out (by omega) hq2)
    have hz2 : w.heap.size + 2 ≤ w2.heap.size := by have := hq2.size; omega
    clear HE1 HT1 hb1 hq2 hz1 HF
    go_wp2_with (refine wp_store_new (by rfl) 37 _ _ rfl cs _ rfl rfl HI.out HC.out HZs.out.1 ?_; intro w3 hq3 HA3 hz3; have HS : Hid (LowK w w3 w2.heap.size A n m bk (fun j => cs.getD j undef)) := ⟨HE2.out.below hq3, by rw [← HZs.out.2]; exact HA3, there_below HT2.out (by omega) hq3, by omega, bthen hb2 hq3 hb2.size⟩; have e0 := HS.out.ev.h0; have e1 := HS.out.ev.h1; have e2 := HS.out.ev.h2; have e3 := HS.out.ev.h3; have e4 := HS.out.ev.h4; have e5 := HS.out.ev.h5; have e6 := HS.out.ev.h6; have e7 := HS.out.ev.h7; have hltB : w.heap.size < w2.heap.size := by omega)
    clear hq3 HA3 hz3 HE2 HT2 hb2 hz2
    generalize hB : w2.heap.size = B at *
    clear hB
    refine (HV0.out _ HS.out.below).mono ?_
    rintro x w5 ⟨v, rfl, hown, hq⟩
    obtain ⟨A', c', rfl, _, _, hrd, _⟩ := OwnInts.rd hown
    replace HS := Lib.hid (HS.out.later hq)
    have HRd := Lib.hid hrd
    clear hq hown hrd HV0
    ((try clear e0); (try clear e1); (try clear e2); (try clear e3); (try clear e4); (try clear e5); (try clear e6); (try clear e7); (try clear hltB))
    go_wp2_with fail
    refine (HO.out A' c' V0 _ HRd.out HL0.out).mono ?_
    rintro x w6 ⟨rfl, rfl⟩
    clear HRd
    have c0 := HS.out.arr.1 6 (by decide)
    have f0 := HS.out.arr.2 6
    have e0 := HS.out.ev.h0; have e1 := HS.out.ev.h1; have e2 := HS.out.ev.h2; have e3 := HS.out.ev.h3; have e4 := HS.out.ev.h4; have e5 := HS.out.ev.h5; have e6 := HS.out.ev.h6; have e7 := HS.out.ev.h7; have hltB : w.heap.size < B := Nat.lt_trans (Nat.lt_succ_self _) HS.out.lt
    go_wp2_with fail
    replace HS := Lib.hid (HS.out.updG 6 (by decide) (.int .u64 (maskL V0)))
    clear c0 f0
    ((try clear e0); (try clear e1); (try clear e2); (try clear e3); (try clear e4); (try clear e5); (try clear e6); (try clear e7); (try clear hltB))
    generalize World.setCell w5 _ _ = w4 at *
    obtain ⟨G0, hG0⟩ : ∃ G : Nat → Value, G = updG (fun j => cs.getD j undef) 6 (.int .u64 (maskL V0)) := ⟨_, rfl⟩
    rw [← hG0] at HS HG
    clear hG0
    refine (HV1.out _ HS.out.below).mono ?_
    rintro x w5 ⟨v, rfl, hown, hq⟩
    have hBw : B < w4.heap.size := Arr.lt HS.out.arr (by decide)
    replace HS := Lib.hid (HS.out.later hq)
    have hbq := hq
    clear HV1 hq
    ((try clear e0); (try clear e1); (try clear e2); (try clear e3); (try clear e4); (try clear e5); (try clear e6); (try clear e7); (try clear hltB))
    rcases own_some hown with ⟨rfl, h0⟩ | ⟨g, cg, rfl, hg, hgs⟩
    · have h0z := List.length_eq_zero_iff.1 h0
      have HFY := Lib.hid (HWd.out none 0 0 w5 (by rw [h0z]; exact Rd.nil) (by decide))
      clear hown h0 h0z HWd
      go_wp2
      go_loopw [5] (fun i wr => i = .int .i64 0 ∧ wr = w5) (fun _ _ => 0)
      case atStart => exact ⟨by go_num, rfl⟩
      case round =>
        obtain ⟨rfl, rfl⟩ := hrel
        go_wp2_with fail
        refine HFY.out.mono ?_
        rintro x w6 ⟨rfl, hq⟩
        replace HS := Lib.hid (HS.out.later hq)
        clear hq HFY
        go_wp2_with (refine wp_store_rng rfl 35 _ _ rfl #[.int .u64 (y 0), .int .u64 (y 1), .int .u64 (y 2), .int .u64 (y 3), .int .u64 (y 4), .int .u64 (y 5), .int .u64 (y 6)] B 18 rfl rfl (by kernel_rfl) (by kernel_rfl) (arr_there HS.out.arr 18 7 (by decide)) ?_; generalize hW6 : World.setCells _ _ _ _ = w4'; have HSy := LowK.updL [.int .u64 (y 0), .int .u64 (y 1), .int .u64 (y 2), .int .u64 (y 3), .int .u64 (y 4), .int .u64 (y 5), .int .u64 (y 6)] _ 18 _ HS.out (by simp); rw [show World.setCells w6 B 18 [.int .u64 (y 0), .int .u64 (y 1), .int .u64 (y 2), .int .u64 (y 3), .int .u64 (y 4), .int .u64 (y 5), .int .u64 (y 6)] = w4' from hW6] at HSy; replace HS := Lib.hid HSy; clear HSy hW6; have e0 := HS.out.ev.h0; have e1 := HS.out.ev.h1; have e2 := HS.out.ev.h2; have e3 := HS.out.ev.h3; have e4 := HS.out.ev.h4; have e5 := HS.out.ev.h5; have e6 := HS.out.ev.h6; have e7 := HS.out.ev.h7; have hltB : w.heap.size < B := Nat.lt_trans (Nat.lt_succ_self _) HS.out.lt)
        ((try clear e0); (try clear e1); (try clear e2); (try clear e3); (try clear e4); (try clear e5); (try clear e6); (try clear e7); (try clear hltB))
        ((try clear e0); (try clear e1); (try clear e2); (try clear e3); (try clear e4); (try clear e5); (try clear e6); (try clear e7); (try clear hltB))
        refine (HV2.out _ HS.out.below).mono ?_
        rintro x w5 ⟨v, rfl, hown, hq⟩
        obtain ⟨A', c', rfl, _, _, hrd, _⟩ := OwnInts.rd hown
        replace HS := Lib.hid (HS.out.later hq)
        have HRd := Lib.hid hrd
        clear hq hown hrd HV2
        ((try clear e0); (try clear e1); (try clear e2); (try clear e3); (try clear e4); (try clear e5); (try clear e6); (try clear e7); (try clear hltB))
        go_wp2_with fail
        refine (HO.out A' c' V2 _ HRd.out HL2.out).mono ?_
        rintro x w6 ⟨rfl, rfl⟩
        clear HRd
        have c0 := HS.out.arr.1 3 (by decide)
        have f0 := HS.out.arr.2 3
        have e0 := HS.out.ev.h0; have e1 := HS.out.ev.h1; have e2 := HS.out.ev.h2; have e3 := HS.out.ev.h3; have e4 := HS.out.ev.h4; have e5 := HS.out.ev.h5; have e6 := HS.out.ev.h6; have e7 := HS.out.ev.h7; have hltB : w.heap.size < B := Nat.lt_trans (Nat.lt_succ_self _) HS.out.lt
        go_wp2_with fail
        replace HS := Lib.hid (HS.out.updG 3 (by decide) (.int .u64 (maskL V2)))
        clear c0 f0
        ((try clear e0); (try clear e1); (try clear e2); (try clear e3); (try clear e4); (try clear e5); (try clear e6); (try clear e7); (try clear hltB))
        generalize World.setCell w5 _ _ = w4 at *
        refine (HV3.out _ HS.out.below).mono ?_
        rintro x w5 ⟨v, rfl, hown, hq⟩
        obtain ⟨A', c', rfl, _, _, hrd, _⟩ := OwnInts.rd hown
        replace HS := Lib.hid (HS.out.later hq)
        have HRd := Lib.hid hrd
        clear hq hown hrd HV3
        go_wp2_with fail
        refine (HO.out A' c' V3 _ HRd.out HL3.out).mono ?_
        rintro x w6 ⟨rfl, rfl⟩
        clear HRd
        cases bk with
        | true =>
          have c0 := HS.out.arr.1 5 (by decide)
          have f0 := HS.out.arr.2 5
          have e0 := HS.out.ev.h0; have e1 := HS.out.ev.h1; have e2 := HS.out.ev.h2; have e3 := HS.out.ev.h3; have e4 := HS.out.ev.h4; have e5 := HS.out.ev.h5; have e6 := HS.out.ev.h6; have e7 := HS.out.ev.h7; have hltB : w.heap.size < B := Nat.lt_trans (Nat.lt_succ_self _) HS.out.lt
          go_wp2_with fail
          replace HS := Lib.hid (HS.out.updG 5 (by decide) (.int .u64 (maskL V3)))
          clear c0 f0
          ((try clear e0); (try clear e1); (try clear e2); (try clear e3); (try clear e4); (try clear e5); (try clear e6); (try clear e7); (try clear hltB))
          generalize World.setCell w5 _ _ = w4 at *
          refine (HV4.out _ HS.out.below).mono ?_
          rintro x w5 ⟨v, rfl, hown, hq⟩
          obtain ⟨A', c', rfl, _, _, hrd, _⟩ := OwnInts.rd hown
          replace HS := Lib.hid (HS.out.later hq)
          have HRd := Lib.hid hrd
          clear hq hown hrd HV4
          ((try clear e0); (try clear e1); (try clear e2); (try clear e3); (try clear e4); (try clear e5); (try clear e6); (try clear e7); (try clear hltB))
          go_wp2_with fail
          refine (HO.out A' c' V4 _ HRd.out HL4.out).mono ?_
          rintro x w6 ⟨rfl, rfl⟩
          clear HRd
          have c0 := HS.out.arr.1 2 (by decide)
          have f0 := HS.out.arr.2 2
          have e0 := HS.out.ev.h0; have e1 := HS.out.ev.h1; have e2 := HS.out.ev.h2; have e3 := HS.out.ev.h3; have e4 := HS.out.ev.h4; have e5 := HS.out.ev.h5; have e6 := HS.out.ev.h6; have e7 := HS.out.ev.h7; have hltB : w.heap.size < B := Nat.lt_trans (Nat.lt_succ_self _) HS.out.lt
          go_wp2_with fail
          replace HS := Lib.hid (HS.out.updG 2 (by decide) (.int .u64 (maskL V4)))
          clear c0 f0
          ((try clear e0); (try clear e1); (try clear e2); (try clear e3); (try clear e4); (try clear e5); (try clear e6); (try clear e7); (try clear hltB))
          generalize World.setCell w5 _ _ = w4 at *
          refine (HV5.out _ HS.out.below).mono ?_
          rintro x w5 ⟨v, rfl, hown, hq⟩
          obtain ⟨A', c', rfl, _, _, hrd, _⟩ := OwnInts.rd hown
          replace HS := Lib.hid (HS.out.later hq)
          have HRd := Lib.hid hrd
          clear hq hown hrd HV5
          ((try clear e0); (try clear e1); (try clear e2); (try clear e3); (try clear e4); (try clear e5); (try clear e6); (try clear e7); (try clear hltB))
          go_wp2_with fail
          refine (HO.out A' c' V5 _ HRd.out HL5.out).mono ?_
          rintro x w6 ⟨rfl, rfl⟩
          clear HRd
          have c0 := HS.out.arr.1 1 (by decide)
          have f0 := HS.out.arr.2 1
          have e0 := HS.out.ev.h0; have e1 := HS.out.ev.h1; have e2 := HS.out.ev.h2; have e3 := HS.out.ev.h3; have e4 := HS.out.ev.h4; have e5 := HS.out.ev.h5; have e6 := HS.out.ev.h6; have e7 := HS.out.ev.h7; have hltB : w.heap.size < B := Nat.lt_trans (Nat.lt_succ_self _) HS.out.lt
          go_wp2_with fail
          replace HS := Lib.hid (HS.out.updG 1 (by decide) (.int .u64 (maskL V5)))
          clear c0 f0
          ((try clear e0); (try clear e1); (try clear e2); (try clear e3); (try clear e4); (try clear e5); (try clear e6); (try clear e7); (try clear hltB))
          generalize World.setCell w5 _ _ = w4 at *
          refine (HV6.out _ HS.out.below).mono ?_
          rintro x w5 ⟨v, rfl, hown, hq⟩
          obtain ⟨A', c', rfl, _, _, hrd, _⟩ := OwnInts.rd hown
          replace HS := Lib.hid (HS.out.later hq)
          have HRd := Lib.hid hrd
          clear hq hown hrd HV6
          ((try clear e0); (try clear e1); (try clear e2); (try clear e3); (try clear e4); (try clear e5); (try clear e6); (try clear e7); (try clear hltB))
          go_wp2_with fail
          refine (HO.out A' c' V6 _ HRd.out HL6.out).mono ?_
          rintro x w6 ⟨rfl, rfl⟩
          clear HRd
          have c0 := HS.out.arr.1 0 (by decide)
          have f0 := HS.out.arr.2 0
          have e0 := HS.out.ev.h0; have e1 := HS.out.ev.h1; have e2 := HS.out.ev.h2; have e3 := HS.out.ev.h3; have e4 := HS.out.ev.h4; have e5 := HS.out.ev.h5; have e6 := HS.out.ev.h6; have e7 := HS.out.ev.h7; have hltB : w.heap.size < B := Nat.lt_trans (Nat.lt_succ_self _) HS.out.lt
          replace HS := Lib.hid (HS.out.updG 0 (by decide) (.int .u64 (maskL V6)))
          have HZ14 : Hid (∀ j v, zs[j]? = some v → (w5.setCell ⟨B, 0, none⟩ (.int .u64 (maskL V6))).cell? ⟨B, 0 + j, none⟩ = some v) := fun j v hj => by
            have hl : j < 30 := by rw [← HS30.out]; exact (Array.getElem?_eq_some_iff.1 hj).1
            rw [Nat.zero_add]
            refine ((HS.out.arr.1 j hl).trans (congrArg some (HG.out j hl))).trans ?_
            rw [Array.getD_eq_getD_getElem?, hj]
            rfl
          have HT14 : Hid ((w5.setCell ⟨B, 0, none⟩ (.int .u64 (maskL V6))).there (w.heap.size + 1) 0 zs.size) := by show World.there _ _ _ _; rw [HS30.out]; exact HS.out.out
          have HB14 := Lib.hid HS.out.below
          clear HG HS
          go_wp2_with (first
            | (refine wp_load_arr (by rfl) 37 _ rfl zs B 0 rfl Tryz.underlying37 rfl HI2.out HZ14.out ?_)
            | (refine wp_store_at (w := w) rfl 37 _ _ rfl zs (w.heap.size + 1) (by omega) rfl rfl Tryz.underlying37 rfl HI2.out HC2.out HB14.out HT14.out ?_; intro W' hLd hbE))
          (try simp only [Exit.inBlock, Exit.then])
          skip
          skip
          refine bodyPost_ret (v := .agg zs) ?_ rfl ⟨rfl, hbE⟩
          rw [results_cell1 rfl]
          exact hLd.out
        | false =>
          have c0 := HS.out.arr.1 4 (by decide)
          have f0 := HS.out.arr.2 4
          have e0 := HS.out.ev.h0; have e1 := HS.out.ev.h1; have e2 := HS.out.ev.h2; have e3 := HS.out.ev.h3; have e4 := HS.out.ev.h4; have e5 := HS.out.ev.h5; have e6 := HS.out.ev.h6; have e7 := HS.out.ev.h7; have hltB : w.heap.size < B := Nat.lt_trans (Nat.lt_succ_self _) HS.out.lt
          go_wp2_with fail
          replace HS := Lib.hid (HS.out.updG 4 (by decide) (.int .u64 (maskL V3)))
          clear c0 f0
          ((try clear e0); (try clear e1); (try clear e2); (try clear e3); (try clear e4); (try clear e5); (try clear e6); (try clear e7); (try clear hltB))
          generalize World.setCell w5 _ _ = w4 at *
          refine (HV4.out _ HS.out.below).mono ?_
          rintro x w5 ⟨v, rfl, hown, hq⟩
          obtain ⟨A', c', rfl, _, _, hrd, _⟩ := OwnInts.rd hown
          replace HS := Lib.hid (HS.out.later hq)
          have HRd := Lib.hid hrd
          clear hq hown hrd HV4
          ((try clear e0); (try clear e1); (try clear e2); (try clear e3); (try clear e4); (try clear e5); (try clear e6); (try clear e7); (try clear hltB))
          go_wp2_with fail
          refine (HO.out A' c' V4 _ HRd.out HL4.out).mono ?_
          rintro x w6 ⟨rfl, rfl⟩
          clear HRd
          have c0 := HS.out.arr.1 2 (by decide)
          have f0 := HS.out.arr.2 2
          have e0 := HS.out.ev.h0; have e1 := HS.out.ev.h1; have e2 := HS.out.ev.h2; have e3 := HS.out.ev.h3; have e4 := HS.out.ev.h4; have e5 := HS.out.ev.h5; have e6 := HS.out.ev.h6; have e7 := HS.out.ev.h7; have hltB : w.heap.size < B := Nat.lt_trans (Nat.lt_succ_self _) HS.out.lt
          go_wp2_with fail
          replace HS := Lib.hid (HS.out.updG 2 (by decide) (.int .u64 (maskL V4)))
          clear c0 f0
          ((try clear e0); (try clear e1); (try clear e2); (try clear e3); (try clear e4); (try clear e5); (try clear e6); (try clear e7); (try clear hltB))
          generalize World.setCell w5 _ _ = w4 at *
          refine (HV5.out _ HS.out.below).mono ?_
          rintro x w5 ⟨v, rfl, hown, hq⟩
          obtain ⟨A', c', rfl, _, _, hrd, _⟩ := OwnInts.rd hown
          replace HS := Lib.hid (HS.out.later hq)
          have HRd := Lib.hid hrd
          clear hq hown hrd HV5
          ((try clear e0); (try clear e1); (try clear e2); (try clear e3); (try clear e4); (try clear e5); (try clear e6); (try clear e7); (try clear hltB))
          go_wp2_with fail
          refine (HO.out A' c' V5 _ HRd.out HL5.out).mono ?_
          rintro x w6 ⟨rfl, rfl⟩
          clear HRd
          have c0 := HS.out.arr.1 1 (by decide)
          have f0 := HS.out.arr.2 1
          have e0 := HS.out.ev.h0; have e1 := HS.out.ev.h1; have e2 := HS.out.ev.h2; have e3 := HS.out.ev.h3; have e4 := HS.out.ev.h4; have e5 := HS.out.ev.h5; have e6 := HS.out.ev.h6; have e7 := HS.out.ev.h7; have hltB : w.heap.size < B := Nat.lt_trans (Nat.lt_succ_self _) HS.out.lt
          go_wp2_with fail
          replace HS := Lib.hid (HS.out.updG 1 (by decide) (.int .u64 (maskL V5)))
          clear c0 f0
          ((try clear e0); (try clear e1); (try clear e2); (try clear e3); (try clear e4); (try clear e5); (try clear e6); (try clear e7); (try clear hltB))
          generalize World.setCell w5 _ _ = w4 at *
          refine (HV6.out _ HS.out.below).mono ?_
          rintro x w5 ⟨v, rfl, hown, hq⟩
          obtain ⟨A', c', rfl, _, _, hrd, _⟩ := OwnInts.rd hown
          replace HS := Lib.hid (HS.out.later hq)
          have HRd := Lib.hid hrd
          clear hq hown hrd HV6
          ((try clear e0); (try clear e1); (try clear e2); (try clear e3); (try clear e4); (try clear e5); (try clear e6); (try clear e7); (try clear hltB))
          go_wp2_with fail
          refine (HO.out A' c' V6 _ HRd.out HL6.out).mono ?_
          rintro x w6 ⟨rfl, rfl⟩
          clear HRd
          have c0 := HS.out.arr.1 0 (by decide)
          have f0 := HS.out.arr.2 0
          have e0 := HS.out.ev.h0; have e1 := HS.out.ev.h1; have e2 := HS.out.ev.h2; have e3 := HS.out.ev.h3; have e4 := HS.out.ev.h4; have e5 := HS.out.ev.h5; have e6 := HS.out.ev.h6; have e7 := HS.out.ev.h7; have hltB : w.heap.size < B := Nat.lt_trans (Nat.lt_succ_self _) HS.out.lt
          replace HS := Lib.hid (HS.out.updG 0 (by decide) (.int .u64 (maskL V6)))
          have HZ14 : Hid (∀ j v, zs[j]? = some v → (w5.setCell ⟨B, 0, none⟩ (.int .u64 (maskL V6))).cell? ⟨B, 0 + j, none⟩ = some v) := fun j v hj => by
            have hl : j < 30 := by rw [← HS30.out]; exact (Array.getElem?_eq_some_iff.1 hj).1
            rw [Nat.zero_add]
            refine ((HS.out.arr.1 j hl).trans (congrArg some (HG.out j hl))).trans ?_
            rw [Array.getD_eq_getD_getElem?, hj]
            rfl
          have HT14 : Hid ((w5.setCell ⟨B, 0, none⟩ (.int .u64 (maskL V6))).there (w.heap.size + 1) 0 zs.size) := by show World.there _ _ _ _; rw [HS30.out]; exact HS.out.out
          have HB14 := Lib.hid HS.out.below
          clear HG HS
          go_wp2_with (first
            | (refine wp_load_arr (by rfl) 37 _ rfl zs B 0 rfl Tryz.underlying37 rfl HI2.out HZ14.out ?_)
            | (refine wp_store_at (w := w) rfl 37 _ _ rfl zs (w.heap.size + 1) (by omega) rfl rfl Tryz.underlying37 rfl HI2.out HC2.out HB14.out HT14.out ?_; intro W' hLd hbE))
          (try simp only [Exit.inBlock, Exit.then])
          skip
          skip
          refine bodyPost_ret (v := .agg zs) ?_ rfl ⟨rfl, hbE⟩
          rw [results_cell1 rfl]
          exact hLd.out
    · obtain ⟨-, hgB, hfz⟩ := own_cells hown
      obtain ⟨A', c2, e, hc1, hc2, hrd, hge⟩ := OwnInts.rd hown
      cases e
      obtain ⟨q, hm⟩ : ∃ q, q = V1.length := ⟨_, rfl⟩
      have HVL : Hid (V1.length = q) := hm.symm
      rw [← hm] at hrd hc1 ⊢
      have hql : q ≤ 1000000000 := by have := HL1.out; omega
      have HRD := Lib.hid hrd
      have HFZ := Lib.hid hfz
      have hBg : B < g := by omega
      clear hm hown hrd hfz hge
      go_wp2
      go_loopw [5] (fun i wr => ∃ k : Nat, k ≤ q ∧ i = .int .i64 k ∧ Hid (∀ j x, V1[j]? = some x → wr.cell? ⟨g, j, none⟩ = some (.int .i64 (if j < k then x - 1970 else x))) ∧ Hid (∀ j, wr.frozen? ⟨g, j, none⟩ = false) ∧ Hid (LowK w wr B A n m bk G0) ∧ w5.heap.size ≤ wr.heap.size) (fun i _ => q - (intOf i).toNat)
      case atStart =>
        refine ⟨0, Nat.zero_le _, by go_num, fun j x hj => ?_, HFZ.out, HS, Nat.le_refl _⟩
        obtain ⟨b, o, x', e, _, hx, hc⟩ := RdInts.at_ HRD.out (i := j) (by have := (List.getElem?_eq_some_iff.1 hj).1; have := HVL.out; omega)
        cases e
        obtain rfl : x = x' := by rw [hj] at hx; injection hx
        simpa using hc
      case round =>
        obtain ⟨k, hk, rfl, HCl, HFZ, HS, hsw⟩ := hrel
        by_cases hlt : k < q
        · have hlt' : (k : Int) < (q : Int) := by omega
          have hkV : k < V1.length := by have := HVL.out; omega
          have hx := List.getElem?_eq_getElem hkV
          obtain ⟨x, hxx⟩ : ∃ x, x = V1[k] := ⟨_, rfl⟩
          rw [← hxx] at hx
          have hxm : x ∈ V1 := List.mem_of_getElem? hx
          obtain ⟨b1, b2⟩ := HBd.out x hxm
          have c0 := HCl.out k x hx
          rw [if_neg (Nat.lt_irrefl k)] at c0
          have f0 := HFZ.out k
          have HX := Lib.hid hx
          clear hx hxx hxm hkV
          go_wp2
          go_roundw
          case rel =>
            refine ⟨k + 1, by omega, by go_num, fun j y hj => ?_, fun j => by rw [World.frozen?_setCell]; exact HFZ.out j, HS.out.other hBg _, by simpa using hsw⟩
            by_cases e : j = k
            · subst e
              obtain rfl : x = y := by have := HX.out; rw [hj] at this; injection this with h; exact h.symm
              rw [World.cell?_setCell_same _ _ _ (HCl.out j x hj), if_pos (by omega)]
            · rw [World.cell?_setCell_other _ _ _ _ (by intro e2; injection e2 with _ e3; exact e e3.symm), HCl.out j y hj]
              by_cases hjk : j < k
              · rw [if_pos hjk, if_pos (by omega)]
              · rw [if_neg hjk, if_neg (by omega)]
          case measure => simp [intOf]; omega
        · obtain rfl : k = q := by omega
          have hrd2 : RdInts wr (some ⟨g, 0, none⟩) k (V1.map (· - 1970)) := by
            refine ⟨by rw [List.length_map]; exact HVL.out, fun hn => ⟨g, 0, rfl, by omega, fun j y hj i v hv => ?_⟩⟩
            rw [List.getElem?_map] at hj
            rcases hvj : V1[j]? with _ | x
            · rw [hvj] at hj; cases hj
            · rw [hvj] at hj
              obtain rfl : x - 1970 = y := by simpa using hj
              have hi : i = 0 := by have := (List.getElem?_eq_some_iff.1 hv).1; simpa [intEnc] using this
              subst hi
              obtain rfl : Value.int .i64 (x - 1970) = v := by simpa [intEnc] using hv
              have := HCl.out j x hvj
              rw [if_pos (by have := (List.getElem?_eq_some_iff.1 hvj).1; have := HVL.out; omega)] at this
              simpa using this
          have HFY := Lib.hid (HWd.out (some ⟨g, 0, none⟩) k cg wr hrd2 (by omega))
          clear hrd2 HCl HFZ HWd HRD
          go_wp2_with fail
          refine HFY.out.mono ?_
          rintro x w6 ⟨rfl, hq⟩
          replace HS := Lib.hid (HS.out.later hq)
          clear hq HFY
          go_wp2_with (refine wp_store_rng rfl 35 _ _ rfl #[.int .u64 (y 0), .int .u64 (y 1), .int .u64 (y 2), .int .u64 (y 3), .int .u64 (y 4), .int .u64 (y 5), .int .u64 (y 6)] B 18 rfl rfl (by kernel_rfl) (by kernel_rfl) (arr_there HS.out.arr 18 7 (by decide)) ?_; generalize hW6 : World.setCells _ _ _ _ = w4'; have HSy := LowK.updL [.int .u64 (y 0), .int .u64 (y 1), .int .u64 (y 2), .int .u64 (y 3), .int .u64 (y 4), .int .u64 (y 5), .int .u64 (y 6)] _ 18 _ HS.out (by simp); rw [show World.setCells w6 B 18 [.int .u64 (y 0), .int .u64 (y 1), .int .u64 (y 2), .int .u64 (y 3), .int .u64 (y 4), .int .u64 (y 5), .int .u64 (y 6)] = w4' from hW6] at HSy; replace HS := Lib.hid HSy; clear HSy hW6; have e0 := HS.out.ev.h0; have e1 := HS.out.ev.h1; have e2 := HS.out.ev.h2; have e3 := HS.out.ev.h3; have e4 := HS.out.ev.h4; have e5 := HS.out.ev.h5; have e6 := HS.out.ev.h6; have e7 := HS.out.ev.h7; have hltB : w.heap.size < B := Nat.lt_trans (Nat.lt_succ_self _) HS.out.lt)
          ((try clear e0); (try clear e1); (try clear e2); (try clear e3); (try clear e4); (try clear e5); (try clear e6); (try clear e7); (try clear hltB))
          ((try clear e0); (try clear e1); (try clear e2); (try clear e3); (try clear e4); (try clear e5); (try clear e6); (try clear e7); (try clear hltB))
          refine (HV2.out _ HS.out.below).mono ?_
          rintro x w5 ⟨v, rfl, hown, hq⟩
          obtain ⟨A', c', rfl, _, _, hrd, _⟩ := OwnInts.rd hown
          replace HS := Lib.hid (HS.out.later hq)
          have HRd := Lib.hid hrd
          clear hq hown hrd HV2
          ((try clear e0); (try clear e1); (try clear e2); (try clear e3); (try clear e4); (try clear e5); (try clear e6); (try clear e7); (try clear hltB))
          go_wp2_with fail
          refine (HO.out A' c' V2 _ HRd.out HL2.out).mono ?_
          rintro x w6 ⟨rfl, rfl⟩
          clear HRd
          have c0 := HS.out.arr.1 3 (by decide)
          have f0 := HS.out.arr.2 3
          have e0 := HS.out.ev.h0; have e1 := HS.out.ev.h1; have e2 := HS.out.ev.h2; have e3 := HS.out.ev.h3; have e4 := HS.out.ev.h4; have e5 := HS.out.ev.h5; have e6 := HS.out.ev.h6; have e7 := HS.out.ev.h7; have hltB : w.heap.size < B := Nat.lt_trans (Nat.lt_succ_self _) HS.out.lt
          go_wp2_with fail
          replace HS := Lib.hid (HS.out.updG 3 (by decide) (.int .u64 (maskL V2)))
          clear c0 f0
          ((try clear e0); (try clear e1); (try clear e2); (try clear e3); (try clear e4); (try clear e5); (try clear e6); (try clear e7); (try clear hltB))
          generalize World.setCell w5 _ _ = w4 at *
          refine (HV3.out _ HS.out.below).mono ?_
          rintro x w5 ⟨v, rfl, hown, hq⟩
          obtain ⟨A', c', rfl, _, _, hrd, _⟩ := OwnInts.rd hown
          replace HS := Lib.hid (HS.out.later hq)
          have HRd := Lib.hid hrd
          clear hq hown hrd HV3
          go_wp2_with fail
          refine (HO.out A' c' V3 _ HRd.out HL3.out).mono ?_
          rintro x w6 ⟨rfl, rfl⟩
          clear HRd
          cases bk with
          | true =>
            have c0 := HS.out.arr.1 5 (by decide)
            have f0 := HS.out.arr.2 5
            have e0 := HS.out.ev.h0; have e1 := HS.out.ev.h1; have e2 := HS.out.ev.h2; have e3 := HS.out.ev.h3; have e4 := HS.out.ev.h4; have e5 := HS.out.ev.h5; have e6 := HS.out.ev.h6; have e7 := HS.out.ev.h7; have hltB : w.heap.size < B := Nat.lt_trans (Nat.lt_succ_self _) HS.out.lt
            go_wp2_with fail
            replace HS := Lib.hid (HS.out.updG 5 (by decide) (.int .u64 (maskL V3)))
            clear c0 f0
            ((try clear e0); (try clear e1); (try clear e2); (try clear e3); (try clear e4); (try clear e5); (try clear e6); (try clear e7); (try clear hltB))
            generalize World.setCell w5 _ _ = w4 at *
            refine (HV4.out _ HS.out.below).mono ?_
            rintro x w5 ⟨v, rfl, hown, hq⟩
            obtain ⟨A', c', rfl, _, _, hrd, _⟩ := OwnInts.rd hown
            replace HS := Lib.hid (HS.out.later hq)
            have HRd := Lib.hid hrd
            clear hq hown hrd HV4
            ((try clear e0); (try clear e1); (try clear e2); (try clear e3); (try clear e4); (try clear e5); (try clear e6); (try clear e7); (try clear hltB))
            go_wp2_with fail
            refine (HO.out A' c' V4 _ HRd.out HL4.out).mono ?_
            rintro x w6 ⟨rfl, rfl⟩
            clear HRd
            have c0 := HS.out.arr.1 2 (by decide)
            have f0 := HS.out.arr.2 2
            have e0 := HS.out.ev.h0; have e1 := HS.out.ev.h1; have e2 := HS.out.ev.h2; have e3 := HS.out.ev.h3; have e4 := HS.out.ev.h4; have e5 := HS.out.ev.h5; have e6 := HS.out.ev.h6; have e7 := HS.out.ev.h7; have hltB : w.heap.size < B := Nat.lt_trans (Nat.lt_succ_self _) HS.out.lt
            go_wp2_with fail
            replace HS := Lib.hid (HS.out.updG 2 (by decide) (.int .u64 (maskL V4)))
            clear c0 f0
            ((try clear e0); (try clear e1); (try clear e2); (try clear e3); (try clear e4); (try clear e5); (try clear e6); (try clear e7); (try clear hltB))
            generalize World.setCell w5 _ _ = w4 at *
            refine (HV5.out _ HS.out.below).mono ?_
            rintro x w5 ⟨v, rfl, hown, hq⟩
            obtain ⟨A', c', rfl, _, _, hrd, _⟩ := OwnInts.rd hown
            replace HS := Lib.hid (HS.out.later hq)
            have HRd := Lib.hid hrd
            clear hq hown hrd HV5
            ((try clear e0); (try clear e1); (try clear e2); (try clear e3); (try clear e4); (try clear e5); (try clear e6); (try clear e7); (try clear hltB))
            go_wp2_with fail
            refine (HO.out A' c' V5 _ HRd.out HL5.out).mono ?_
            rintro x w6 ⟨rfl, rfl⟩
            clear HRd
            have c0 := HS.out.arr.1 1 (by decide)
            have f0 := HS.out.arr.2 1
            have e0 := HS.out.ev.h0; have e1 := HS.out.ev.h1; have e2 := HS.out.ev.h2; have e3 := HS.out.ev.h3; have e4 := HS.out.ev.h4; have e5 := HS.out.ev.h5; have e6 := HS.out.ev.h6; have e7 := HS.out.ev.h7; have hltB : w.heap.size < B := Nat.lt_trans (Nat.lt_succ_self _) HS.out.lt
            go_wp2_with fail
            replace HS := Lib.hid (HS.out.updG 1 (by decide) (.int .u64 (maskL V5)))
            clear c0 f0
            ((try clear e0); (try clear e1); (try clear e2); (try clear e3); (try clear e4); (try clear e5); (try clear e6); (try clear e7); (try clear hltB))
            generalize World.setCell w5 _ _ = w4 at *
            refine (HV6.out _ HS.out.below).mono ?_
            rintro x w5 ⟨v, rfl, hown, hq⟩
            obtain ⟨A', c', rfl, _, _, hrd, _⟩ := OwnInts.rd hown
            replace HS := Lib.hid (HS.out.later hq)
            have HRd := Lib.hid hrd
            clear hq hown hrd HV6
            ((try clear e0); (try clear e1); (try clear e2); (try clear e3); (try clear e4); (try clear e5); (try clear e6); (try clear e7); (try clear hltB))
            go_wp2_with fail
            refine (HO.out A' c' V6 _ HRd.out HL6.out).mono ?_
            rintro x w6 ⟨rfl, rfl⟩
            clear HRd
            have c0 := HS.out.arr.1 0 (by decide)
            have f0 := HS.out.arr.2 0
            have e0 := HS.out.ev.h0; have e1 := HS.out.ev.h1; have e2 := HS.out.ev.h2; have e3 := HS.out.ev.h3; have e4 := HS.out.ev.h4; have e5 := HS.out.ev.h5; have e6 := HS.out.ev.h6; have e7 := HS.out.ev.h7; have hltB : w.heap.size < B := Nat.lt_trans (Nat.lt_succ_self _) HS.out.lt
            replace HS := Lib.hid (HS.out.updG 0 (by decide) (.int .u64 (maskL V6)))
            have HZ14 : Hid (∀ j v, zs[j]? = some v → (w5.setCell ⟨B, 0, none⟩ (.int .u64 (maskL V6))).cell? ⟨B, 0 + j, none⟩ = some v) := fun j v hj => by
              have hl : j < 30 := by rw [← HS30.out]; exact (Array.getElem?_eq_some_iff.1 hj).1
              rw [Nat.zero_add]
              refine ((HS.out.arr.1 j hl).trans (congrArg some (HG.out j hl))).trans ?_
              rw [Array.getD_eq_getD_getElem?, hj]
              rfl
            have HT14 : Hid ((w5.setCell ⟨B, 0, none⟩ (.int .u64 (maskL V6))).there (w.heap.size + 1) 0 zs.size) := by show World.there _ _ _ _; rw [HS30.out]; exact HS.out.out
            have HB14 := Lib.hid HS.out.below
            clear HG HS
            go_wp2_with (first
              | (refine wp_load_arr (by rfl) 37 _ rfl zs B 0 rfl Tryz.underlying37 rfl HI2.out HZ14.out ?_)
              | (refine wp_store_at (w := w) rfl 37 _ _ rfl zs (w.heap.size + 1) (by omega) rfl rfl Tryz.underlying37 rfl HI2.out HC2.out HB14.out HT14.out ?_; intro W' hLd hbE))
            (try simp only [Exit.inBlock, Exit.then])
            skip
            skip
            refine bodyPost_ret (v := .agg zs) ?_ rfl ⟨rfl, hbE⟩
            rw [results_cell1 rfl]
            exact hLd.out
          | false =>
            have c0 := HS.out.arr.1 4 (by decide)
            have f0 := HS.out.arr.2 4
            have e0 := HS.out.ev.h0; have e1 := HS.out.ev.h1; have e2 := HS.out.ev.h2; have e3 := HS.out.ev.h3; have e4 := HS.out.ev.h4; have e5 := HS.out.ev.h5; have e6 := HS.out.ev.h6; have e7 := HS.out.ev.h7; have hltB : w.heap.size < B := Nat.lt_trans (Nat.lt_succ_self _) HS.out.lt
            go_wp2_with fail
            replace HS := Lib.hid (HS.out.updG 4 (by decide) (.int .u64 (maskL V3)))
            clear c0 f0
            ((try clear e0); (try clear e1); (try clear e2); (try clear e3); (try clear e4); (try clear e5); (try clear e6); (try clear e7); (try clear hltB))
            generalize World.setCell w5 _ _ = w4 at *
            refine (HV4.out _ HS.out.below).mono ?_
            rintro x w5 ⟨v, rfl, hown, hq⟩
            obtain ⟨A', c', rfl, _, _, hrd, _⟩ := OwnInts.rd hown
            replace HS := Lib.hid (HS.out.later hq)
            have HRd := Lib.hid hrd
            clear hq hown hrd HV4
            ((try clear e0); (try clear e1); (try clear e2); (try clear e3); (try clear e4); (try clear e5); (try clear e6); (try clear e7); (try clear hltB))
            go_wp2_with fail
            refine (HO.out A' c' V4 _ HRd.out HL4.out).mono ?_
            rintro x w6 ⟨rfl, rfl⟩
            clear HRd
            have c0 := HS.out.arr.1 2 (by decide)
            have f0 := HS.out.arr.2 2
            have e0 := HS.out.ev.h0; have e1 := HS.out.ev.h1; have e2 := HS.out.ev.h2; have e3 := HS.out.ev.h3; have e4 := HS.out.ev.h4; have e5 := HS.out.ev.h5; have e6 := HS.out.ev.h6; have e7 := HS.out.ev.h7; have hltB : w.heap.size < B := Nat.lt_trans (Nat.lt_succ_self _) HS.out.lt
            go_wp2_with fail
            replace HS := Lib.hid (HS.out.updG 2 (by decide) (.int .u64 (maskL V4)))
            clear c0 f0
            ((try clear e0); (try clear e1); (try clear e2); (try clear e3); (try clear e4); (try clear e5); (try clear e6); (try clear e7); (try clear hltB))
            generalize World.setCell w5 _ _ = w4 at *
            refine (HV5.out _ HS.out.below).mono ?_
            rintro x w5 ⟨v, rfl, hown, hq⟩
            obtain ⟨A', c', rfl, _, _, hrd, _⟩ := OwnInts.rd hown
            replace HS := Lib.hid (HS.out.later hq)
            have HRd := Lib.hid hrd
            clear hq hown hrd HV5
            ((try clear e0); (try clear e1); (try clear e2); (try clear e3); (try clear e4); (try clear e5); (try clear e6); (try clear e7); (try clear hltB))
            go_wp2_with fail
            refine (HO.out A' c' V5 _ HRd.out HL5.out).mono ?_
            rintro x w6 ⟨rfl, rfl⟩
            clear HRd
            have c0 := HS.out.arr.1 1 (by decide)
            have f0 := HS.out.arr.2 1
            have e0 := HS.out.ev.h0; have e1 := HS.out.ev.h1; have e2 := HS.out.ev.h2; have e3 := HS.out.ev.h3; have e4 := HS.out.ev.h4; have e5 := HS.out.ev.h5; have e6 := HS.out.ev.h6; have e7 := HS.out.ev.h7; have hltB : w.heap.size < B := Nat.lt_trans (Nat.lt_succ_self _) HS.out.lt
            go_wp2_with fail
            replace HS := Lib.hid (HS.out.updG 1 (by decide) (.int .u64 (maskL V5)))
            clear c0 f0
            ((try clear e0); (try clear e1); (try clear e2); (try clear e3); (try clear e4); (try clear e5); (try clear e6); (try clear e7); (try clear hltB))
            generalize World.setCell w5 _ _ = w4 at *
            refine (HV6.out _ HS.out.below).mono ?_
            rintro x w5 ⟨v, rfl, hown, hq⟩
            obtain ⟨A', c', rfl, _, _, hrd, _⟩ := OwnInts.rd hown
            replace HS := Lib.hid (HS.out.later hq)
            have HRd := Lib.hid hrd
            clear hq hown hrd HV6
            ((try clear e0); (try clear e1); (try clear e2); (try clear e3); (try clear e4); (try clear e5); (try clear e6); (try clear e7); (try clear hltB))
            go_wp2_with fail
            refine (HO.out A' c' V6 _ HRd.out HL6.out).mono ?_
            rintro x w6 ⟨rfl, rfl⟩
            clear HRd
            have c0 := HS.out.arr.1 0 (by decide)
            have f0 := HS.out.arr.2 0
            have e0 := HS.out.ev.h0; have e1 := HS.out.ev.h1; have e2 := HS.out.ev.h2; have e3 := HS.out.ev.h3; have e4 := HS.out.ev.h4; have e5 := HS.out.ev.h5; have e6 := HS.out.ev.h6; have e7 := HS.out.ev.h7; have hltB : w.heap.size < B := Nat.lt_trans (Nat.lt_succ_self _) HS.out.lt
            replace HS := Lib.hid (HS.out.updG 0 (by decide) (.int .u64 (maskL V6)))
            have HZ14 : Hid (∀ j v, zs[j]? = some v → (w5.setCell ⟨B, 0, none⟩ (.int .u64 (maskL V6))).cell? ⟨B, 0 + j, none⟩ = some v) := fun j v hj => by
              have hl : j < 30 := by rw [← HS30.out]; exact (Array.getElem?_eq_some_iff.1 hj).1
              rw [Nat.zero_add]
              refine ((HS.out.arr.1 j hl).trans (congrArg some (HG.out j hl))).trans ?_
              rw [Array.getD_eq_getD_getElem?, hj]
              rfl
            have HT14 : Hid ((w5.setCell ⟨B, 0, none⟩ (.int .u64 (maskL V6))).there (w.heap.size + 1) 0 zs.size) := by show World.there _ _ _ _; rw [HS30.out]; exact HS.out.out
            have HB14 := Lib.hid HS.out.below
            clear HG HS
            go_wp2_with (first
              | (refine wp_load_arr (by rfl) 37 _ rfl zs B 0 rfl Tryz.underlying37 rfl HI2.out HZ14.out ?_)
              | (refine wp_store_at (w := w) rfl 37 _ _ rfl zs (w.heap.size + 1) (by omega) rfl rfl Tryz.underlying37 rfl HI2.out HC2.out HB14.out HT14.out ?_; intro W' hLd hbE))
            (try simp only [Exit.inBlock, Exit.then])
            skip
            skip
            refine bodyPost_ret (v := .agg zs) ?_ rfl ⟨rfl, hbE⟩
            rw [results_cell1 rfl]
            exact hLd.out
end Go.Proofs.YtochhmkdhdadhaaGreat
