/- The walks of package calread's reader: a date. -/
import Derived.Test.YtochhmkdhdadhaaGreatWCalH
/- The walks of package calread's reader: a date, a time. -/
namespace Go.Proofs.YtochhmkdhdadhaaGreat
open Go.RowKit
set_option linter.unusedSimpArgs false
set_option linter.unusedVariables false

theorem rdB2 {w : World} {B : Nat} {c d : UInt8} (h : w.cell? ⟨B, 0, none⟩ = some (.int .u8 (c.toNat : Int))) (h1 : w.cell? ⟨B, 1, none⟩ = some (.int .u8 (d.toNat : Int))) : RdBytes w (some ⟨B, 0, none⟩) 2 [c, d] :=
  ⟨rfl, fun _ => ⟨B, 0, rfl, World.block_lt_of_cell? w _ h, fun i x hi j v hj => by
    rcases j with _ | j
    · rcases i with _ | _ | i
      · obtain rfl : c = x := by simpa using hi
        obtain rfl : Value.int .u8 (c.toNat : Int) = v := by simpa [byteEnc] using hj
        simpa using h
      · obtain rfl : d = x := by simpa using hi
        obtain rfl : Value.int .u8 (d.toNat : Int) = v := by simpa [byteEnc] using hj
        simpa using h1
      · simp at hi
    · simp [byteEnc] at hj⟩⟩
section
variable {w : World} {b C B : Nat} {s : ByteArray} {σ : PS} {c : CalV} (hs : s.size ≤ 1000000)
include hs
set_option maxRecDepth 20000 in
set_option maxHeartbeats 1000000 in
theorem time_ks (h : RdP w b s σ) (hc : CalAt w C B c) (hCb : C ≠ b) (hCB : C < B) (hbB : b < B) (hB : B ≤ w.heap.size) : Calls Tryz.prog 81 #[kV b s, .pointer (some ⟨C, 0, none⟩)] w (RetC (.tuple #[]) b C B s (ktimeP s.size c σ).1 (ktimeP s.size c σ).2 w) := by
  have hs9 : s.size ≤ 9223372036854775807 := by omega
  have hlt := h.lt
  have hne : ¬ w.heap.size = b := by omega
  have hCl := hc.lt
  have hneC : ¬ w.heap.size = C := by omega
  have hneC' : ¬ C = w.heap.size := by omega
  have H := Lib.hid h
  have HC := Lib.hid hc
  have HR : Hid (ktimeP s.size c σ = if (isP [58] (kfieldP s.size 5 (mustP s.size [58] (kfieldP s.size 4 σ).1).1).1).2 then
      ((kfieldP s.size 6 (isP [58] (kfieldP s.size 5 (mustP s.size [58] (kfieldP s.size 4 σ).1).1).1).1).1, { c with hour := (kfieldP s.size 4 σ).2, minute := (kfieldP s.size 5 (mustP s.size [58] (kfieldP s.size 4 σ).1).1).2, second := (kfieldP s.size 6 (isP [58] (kfieldP s.size 5 (mustP s.size [58] (kfieldP s.size 4 σ).1).1).1).1).2 })
    else ((isP [58] (kfieldP s.size 5 (mustP s.size [58] (kfieldP s.size 4 σ).1).1).1).1, { c with hour := (kfieldP s.size 4 σ).2, minute := (kfieldP s.size 5 (mustP s.size [58] (kfieldP s.size 4 σ).1).1).2 })) := rfl
  generalize ktimeP s.size c σ = R at *
  have HF1 := Lib.hid (fun W (h : RdP W b s σ) => field_ks hs 4 (by decide) (by decide) h)
  rw [show ((4 : Nat) : Int) = 4 from rfl] at HF1
  generalize kfieldP s.size 4 σ = y1 at *
  obtain ⟨τ1, L1⟩ := y1
  dsimp only at *
  have HM1 := Lib.hid (fun W A n cp (h : RdP W b s τ1) (hA : RdBytes W A n [58]) (hn : n ≤ 9223372036854775807) => must_ps (cp := cp) hs9 h hA hn)
  generalize mustP s.size [58] τ1 = m1 at *
  obtain ⟨τ2, mv⟩ := m1
  dsimp only at *
  have HF2 := Lib.hid (fun W (h : RdP W b s τ2) => field_ks hs 5 (by decide) (by decide) h)
  rw [show ((5 : Nat) : Int) = 5 from rfl] at HF2
  generalize kfieldP s.size 5 τ2 = y2 at *
  obtain ⟨τ3, L2⟩ := y2
  dsimp only at *
  have HI := Lib.hid (fun W A n cp (h : RdP W b s τ3) (hA : RdBytes W A n [58]) (hn : n ≤ 9223372036854775807) => is_ps (cp := cp) hs9 h hA hn)
  generalize isP [58] τ3 = u at *
  obtain ⟨τ4, yes⟩ := u
  dsimp only at *
  have HF3 := Lib.hid (fun W (h : RdP W b s τ4) => field_ks hs 6 (by decide) (by decide) h)
  rw [show ((6 : Nat) : Int) = 6 from rfl] at HF3
  generalize kfieldP s.size 6 τ4 = y3 at *
  obtain ⟨τ5, L3⟩ := y3
  dsimp only at *
  have HB := Lib.hid (kbox_new w b s 82)
  clear h hc
  go_enter Tryz.func81, Tryz.ntmps81
  go_wp2_with fail
  refine (HF1.out _ (H.out.alloc _)).mono ?_
  rintro e w1 ⟨v1, rfl, hv1, hL1, h1, g1⟩
  obtain ⟨A1, m1, cp1, rfl⟩ := own_slice hv1
  have HB := Lib.hid (HB.out.chg g1 hne)
  have hzz1 := g1.size
  have hv1 := Lib.hid (own_base hv1 (Nat.le_trans hB (Chg2.size ((((Chg.refl b w).two C).alloc _)))))
  have hcal1 := Lib.hid (CalAt.chg (HC.out.alloc _) g1 hCb hbB)
  have g1' := ((((Chg.refl b w).two C).alloc _)).then g1
  (try clear c0 c1)
  obtain ⟨c0, c1⟩ := HB.out
  (try clear x0 x1 x2 x3 x4 x5 x6 x7 xf)
  obtain ⟨gx, x0, x1, x2, x3, x4, x5, x6, x7, xf⟩ := CalAt.cells hcal1.out
  have hset1 := Lib.hid (CalAt.setL (c' := { c with hour := L1 }) hcal1.out hCB 5 (by decide) (by decide) (.slice A1 m1 cp1) hv1.out hL1 (fun k hk hn => by rcases k with _ | _ | _ | _ | _ | _ | _ | _ | k <;> first | rfl | (exact absurd rfl hn) | omega) rfl)
  have hs1 := h1.set (o := 5) hCb (.slice A1 m1 cp1)
  have gs1 := g1'.set 5 (.slice A1 m1 cp1)
  clear hL1
  have HBs1 := Lib.hid (HB.out.set (o := 5) hneC' (.slice A1 m1 cp1))
  have HB := HBs1
  go_wp2_with fail
  (try clear c0 c1)
  obtain ⟨c0, c1⟩ := HB.out
  (try clear x0 x1 x2 x3 x4 x5 x6 x7 xf)
  obtain ⟨gx, x0, x1, x2, x3, x4, x5, x6, x7, xf⟩ := CalAt.cells hset1.out
  refine (HM1.out _ _ _ _ (hs1.alloc _) (rdB1 (c := 58) (cell_new (by simp) rfl)) (by decide)).mono ?_
  rintro e w2 ⟨rfl, h2, g2⟩
  have HB := Lib.hid ((HB.out.alloc _).chg g2 hne)
  have hcal2 := Lib.hid ((hset1.out.alloc _).chg g2 hCb hbB)
  have g2' := (gs1.alloc _).then g2
  have hzz2 := g2.size
  (try simp at hzz2)
  (try clear c0 c1)
  obtain ⟨c0, c1⟩ := HB.out
  (try clear x0 x1 x2 x3 x4 x5 x6 x7 xf)
  obtain ⟨gx, x0, x1, x2, x3, x4, x5, x6, x7, xf⟩ := CalAt.cells hcal2.out
  go_wp2_with fail
  refine (HF2.out _ h2).mono ?_
  rintro e w3 ⟨v3, rfl, hv3, hL3, h3, g3⟩
  obtain ⟨A3, m3, cp3, rfl⟩ := own_slice hv3
  have HB := Lib.hid (HB.out.chg g3 hne)
  have hzz3 := g3.size
  have hv3 := Lib.hid (own_base hv3 (Nat.le_trans hB (Chg2.size (g2'))))
  have hcal3 := Lib.hid (CalAt.chg hcal2.out g3 hCb hbB)
  have g3' := (g2').then g3
  (try clear c0 c1)
  obtain ⟨c0, c1⟩ := HB.out
  (try clear x0 x1 x2 x3 x4 x5 x6 x7 xf)
  obtain ⟨gx, x0, x1, x2, x3, x4, x5, x6, x7, xf⟩ := CalAt.cells hcal3.out
  have hset3 := Lib.hid (CalAt.setL (c' := { c with hour := L1, minute := L2 }) hcal3.out hCB 6 (by decide) (by decide) (.slice A3 m3 cp3) hv3.out hL3 (fun k hk hn => by rcases k with _ | _ | _ | _ | _ | _ | _ | _ | k <;> first | rfl | (exact absurd rfl hn) | omega) rfl)
  have hs3 := h3.set (o := 6) hCb (.slice A3 m3 cp3)
  have gs3 := g3'.set 6 (.slice A3 m3 cp3)
  clear hL3
  have HBs3 := Lib.hid (HB.out.set (o := 6) hneC' (.slice A3 m3 cp3))
  have HB := HBs3
  go_wp2_with fail
  (try clear c0 c1)
  obtain ⟨c0, c1⟩ := HB.out
  (try clear x0 x1 x2 x3 x4 x5 x6 x7 xf)
  obtain ⟨gx, x0, x1, x2, x3, x4, x5, x6, x7, xf⟩ := CalAt.cells hset3.out
  refine (HI.out _ _ _ _ (hs3.alloc _) (rdB1 (c := 58) (cell_new (by simp) rfl)) (by decide)).mono ?_
  rintro e w4 ⟨rfl, h4, g4⟩
  have HB := Lib.hid ((HB.out.alloc _).chg g4 hne)
  have hcal4 := Lib.hid ((hset3.out.alloc _).chg g4 hCb hbB)
  have g4' := (gs3.alloc _).then g4
  have hzz4 := g4.size
  (try simp at hzz4)
  (try clear c0 c1)
  obtain ⟨c0, c1⟩ := HB.out
  (try clear x0 x1 x2 x3 x4 x5 x6 x7 xf)
  obtain ⟨gx, x0, x1, x2, x3, x4, x5, x6, x7, xf⟩ := CalAt.cells hcal4.out
  cases yes with
  | false =>
    have HE : Hid (R = (τ4, { c with hour := L1, minute := L2 })) := by show _ = _; rw [HR.out]; rfl
    clear HR
    go_wp2
    first | go_end0 | (refine bodyPost_ret (results_none rfl _ _ _) rfl ?_)
    exact ⟨rfl, by rw [HE.out]; exact h4, by rw [HE.out]; exact hcal4.out, g4'⟩
  | true =>
    have HE : Hid (R = (τ5, { c with hour := L1, minute := L2, second := L3 })) := by show _ = _; rw [HR.out]; rfl
    clear HR
    go_wp2_with fail
    refine (HF3.out _ h4).mono ?_
    rintro e w5 ⟨v5, rfl, hv5, hL5, h5, g5⟩
    obtain ⟨A5, m5, cp5, rfl⟩ := own_slice hv5
    have HB := Lib.hid (HB.out.chg g5 hne)
    have hzz5 := g5.size
    have hv5 := Lib.hid (own_base hv5 (Nat.le_trans hB (Chg2.size (g4'))))
    have hcal5 := Lib.hid (CalAt.chg hcal4.out g5 hCb hbB)
    have g5' := (g4').then g5
    (try clear c0 c1)
    obtain ⟨c0, c1⟩ := HB.out
    (try clear x0 x1 x2 x3 x4 x5 x6 x7 xf)
    obtain ⟨gx, x0, x1, x2, x3, x4, x5, x6, x7, xf⟩ := CalAt.cells hcal5.out
    have hset5 := Lib.hid (CalAt.setL (c' := { c with hour := L1, minute := L2, second := L3 }) hcal5.out hCB 7 (by decide) (by decide) (.slice A5 m5 cp5) hv5.out hL5 (fun k hk hn => by rcases k with _ | _ | _ | _ | _ | _ | _ | _ | k <;> first | rfl | (exact absurd rfl hn) | omega) rfl)
    have hs5 := h5.set (o := 7) hCb (.slice A5 m5 cp5)
    have gs5 := g5'.set 7 (.slice A5 m5 cp5)
    clear hL5
    have HBs5 := Lib.hid (HB.out.set (o := 7) hneC' (.slice A5 m5 cp5))
    go_wp2
    first | go_end0 | (refine bodyPost_ret (results_none rfl _ _ _) rfl ?_)
    exact ⟨rfl, by rw [HE.out]; exact hs5, by rw [HE.out]; exact hset5.out, gs5⟩
end
end Go.Proofs.YtochhmkdhdadhaaGreat

namespace Go.Proofs.YtochhmkdhdadhaaGreat
open Go.RowKit
set_option linter.unusedSimpArgs false
set_option linter.unusedVariables false

section
variable {w : World} {b C B : Nat} {s : ByteArray} {σ : PS} {c : CalV} (hs : s.size ≤ 1000000)
include hs
set_option maxRecDepth 20000 in
set_option maxHeartbeats 2000000 in
theorem date_ks (h : RdP w b s σ) (hc : CalAt w C B c) (hm : MaxAt w) (hCb : C ≠ b) (hCB : C < B) (hbB : b < B) (hB : B ≤ w.heap.size) : Calls Tryz.prog 80 #[kV b s, .pointer (some ⟨C, 0, none⟩)] w (RetC (.tuple #[]) b C B s (kdateP s.size c σ).1 (kdateP s.size c σ).2 w) := by
  have hs9 : s.size ≤ 9223372036854775807 := by omega
  have hlt := h.lt
  have hne : ¬ w.heap.size = b := by omega
  have hCl := hc.lt
  have hneC : ¬ w.heap.size = C := by omega
  have hneC' : ¬ C = w.heap.size := by omega
  have H := Lib.hid h
  have HC := Lib.hid hc
  have HW := Lib.hid (fun W (h : RdP W b s σ) (hm : MaxAt W) => word_ks hs h hm)
  have HM0 : Hid (MaxAt (w.alloc (.cells #[.pointer (some ⟨b, 0, none⟩), .string s] 82))) := hm.below ((Below.refl _ w).alloc (Nat.le_refl _) _)
  have hwl : (wordP σ).length ≤ 1000000 := by
    have h1 := h.len
    unfold wordP
    split
    · have h2 : (σ.l.takeWhile (fun c => decide (c ≠ 32))).length ≤ σ.l.length := (List.takeWhile_prefix _).length_le
      omega
    · simp
  have HN : ∀ d : UInt8, Hid (∀ W, Calls Tryz.prog 115 #[.string (strB (wordP σ)), .string ⟨#[d]⟩] W (RetQ (.int .i64 ((wordP σ).count d : Int)) W)) := fun d W => by
    have := Tryz.strings_Count_one (strB (wordP σ)) d W
    rw [strB_data] at this
    exact this.mono fun _ _ hh => ⟨hh.1, hh.2.symm⟩
  have HN1 := HN 45
  have HN2 := HN 126
  have hc1 : (wordP σ).count 45 ≤ (wordP σ).length := List.count_le_length
  have hc2 : (wordP σ).count 126 ≤ (wordP σ).length := List.count_le_length
  have HD : Hid (dashes (wordP σ) = (wordP σ).count 45 + (wordP σ).count 126) := rfl
  have HY1 : Hid (1 < dashes (wordP σ) → kdateP s.size c σ = ((kfieldP s.size 3 (mustP s.size [45, 126] (kfieldP s.size 2 (mustP s.size [45] (kfieldP s.size 1 σ).1).1).1).1).1, { c with year := (kfieldP s.size 1 σ).2, month := (kfieldP s.size 2 (mustP s.size [45] (kfieldP s.size 1 σ).1).1).2, back := decide ((mustP s.size [45, 126] (kfieldP s.size 2 (mustP s.size [45] (kfieldP s.size 1 σ).1).1).1).2 = 126), day := (kfieldP s.size 3 (mustP s.size [45, 126] (kfieldP s.size 2 (mustP s.size [45] (kfieldP s.size 1 σ).1).1).1).1).2 })) := fun hy => by
    unfold kdateP; rw [if_pos hy]
  have HY2 : Hid (¬ 1 < dashes (wordP σ) → kdateP s.size c σ = ((kfieldP s.size 3 (mustP s.size [45, 126] (kfieldP s.size 2 σ).1).1).1, { c with month := (kfieldP s.size 2 σ).2, back := decide ((mustP s.size [45, 126] (kfieldP s.size 2 σ).1).2 = 126), day := (kfieldP s.size 3 (mustP s.size [45, 126] (kfieldP s.size 2 σ).1).1).2 })) := fun hy => by
    unfold kdateP; rw [if_neg hy]
  generalize kdateP s.size c σ = R at *
  generalize dashes (wordP σ) = dd at *
  obtain ⟨n1, hn1⟩ : ∃ n1 : Int, n1 = ((wordP σ).count 45 : Int) := ⟨_, rfl⟩
  obtain ⟨n2, hn2⟩ : ∃ n2 : Int, n2 = ((wordP σ).count 126 : Int) := ⟨_, rfl⟩
  rw [← hn1] at HN1
  rw [← hn2] at HN2
  have hb1 : 0 ≤ n1 := by omega
  have hb2 : 0 ≤ n2 := by omega
  have hb3 : n1 ≤ 1000000 := by omega
  have hb4 : n2 ≤ 1000000 := by omega
  have hdd : (1 < dd) ↔ (1 < n1 + n2) := by have := HD.out; omega
  generalize strB (wordP σ) = X at *
  clear hn1 hn2 hc1 hc2 hwl HN HD h hc hm
  have HB := Lib.hid (kbox_new w b s 82)
  by_cases hy : 1 < n1 + n2
  · have HY := Lib.hid (HY1.out (hdd.2 hy))
    clear HY1 HY2
    have HF1 := Lib.hid (fun W (h : RdP W b s σ) => field_ks hs 1 (by decide) (by decide) h)
    rw [show ((1 : Nat) : Int) = 1 from rfl] at HF1
    generalize kfieldP s.size 1 σ = y1 at *
    obtain ⟨τ1, L1⟩ := y1
    dsimp only at *
    have HM1 := Lib.hid (fun W A n cp (h : RdP W b s τ1) (hA : RdBytes W A n [45]) (hn : n ≤ 9223372036854775807) => must_ps (cp := cp) hs9 h hA hn)
    generalize mustP s.size [45] τ1 = m1 at *
    obtain ⟨τ2, mv⟩ := m1
    dsimp only at *
    generalize hcy : ({ c with year := L1 } : CalV) = cy at *
    have HF2 := Lib.hid (fun W (h : RdP W b s τ2) => field_ks hs 2 (by decide) (by decide) h)
    rw [show ((2 : Nat) : Int) = 2 from rfl] at HF2
    generalize kfieldP s.size 2 τ2 = y2 at *
    obtain ⟨τ3, L2⟩ := y2
    dsimp only at *
    have HM3 := Lib.hid (fun W A n cp (h : RdP W b s τ3) (hA : RdBytes W A n [45, 126]) (hn : n ≤ 9223372036854775807) => must_ps (cp := cp) hs9 h hA hn)
    generalize mustP s.size [45, 126] τ3 = m3 at *
    obtain ⟨τ4, mb⟩ := m3
    dsimp only at *
    have HF3 := Lib.hid (fun W (h : RdP W b s τ4) => field_ks hs 3 (by decide) (by decide) h)
    rw [show ((3 : Nat) : Int) = 3 from rfl] at HF3
    generalize kfieldP s.size 3 τ4 = y3 at *
    obtain ⟨τ5, L3⟩ := y3
    dsimp only at *
    have HE : Hid (R = (τ5, { cy with month := L2, back := decide (mb = 126), day := L3 })) := by
      show _ = _
      rw [HY.out]
      (try rw [← hcy])
    clear HY
    clear hdd
    go_enter Tryz.func80, Tryz.ntmps80
    go_wp2_with fail
    refine (HW.out _ (H.out.alloc _) HM0.out).mono ?_
    rintro e w0 ⟨rfl, h0, g0⟩
    have HB := Lib.hid (HB.out.chg g0 hne)
    have hcal0 := Lib.hid ((HC.out.alloc (.cells #[.pointer (some ⟨b, 0, none⟩), .string s] 82)).chg g0 hCb hbB)
    have g0' := (((Chg.refl b w).two C).alloc (.cells #[.pointer (some ⟨b, 0, none⟩), .string s] 82)).then g0
    have hzz0 := g0.size
    (try simp at hzz0)
    (try clear c0 c1)
    obtain ⟨c0, c1⟩ := HB.out
    (try clear x0 x1 x2 x3 x4 x5 x6 x7 xf)
    obtain ⟨gx, x0, x1, x2, x3, x4, x5, x6, x7, xf⟩ := CalAt.cells hcal0.out
    go_wp2_with fail
    refine (HN1.out _).mono ?_
    rintro e w9 ⟨rfl, rfl⟩
    go_wp2_with fail
    refine (HN2.out _).mono ?_
    rintro e w9 ⟨rfl, rfl⟩
    go_wp2_with fail
    refine (HF1.out _ h0).mono ?_
    rintro e w1 ⟨v1, rfl, hv1, hL1, h1, g1⟩
    obtain ⟨A1, m1, cp1, rfl⟩ := own_slice hv1
    have HB := Lib.hid (HB.out.chg g1 hne)
    have hzz1 := g1.size
    have hv1 := Lib.hid (own_base hv1 (Nat.le_trans hB (Chg2.size (g0'))))
    have hcal1 := Lib.hid (CalAt.chg hcal0.out g1 hCb hbB)
    have g1' := (g0').then g1
    (try clear c0 c1)
    obtain ⟨c0, c1⟩ := HB.out
    (try clear x0 x1 x2 x3 x4 x5 x6 x7 xf)
    obtain ⟨gx, x0, x1, x2, x3, x4, x5, x6, x7, xf⟩ := CalAt.cells hcal1.out
    have hset1 := Lib.hid (CalAt.setL (c' := { c with year := L1 }) hcal1.out hCB 1 (by decide) (by decide) (.slice A1 m1 cp1) hv1.out hL1 (fun k hk hn => by rcases k with _ | _ | _ | _ | _ | _ | _ | _ | k <;> first | rfl | (exact absurd rfl hn) | omega) rfl)
    have hs1 := h1.set (o := 1) hCb (.slice A1 m1 cp1)
    have gs1 := g1'.set 1 (.slice A1 m1 cp1)
    clear hL1
    have HBs1 := Lib.hid (HB.out.set (o := 1) hneC' (.slice A1 m1 cp1))
    have HB := HBs1
    go_wp2_with fail
    (try clear c0 c1)
    obtain ⟨c0, c1⟩ := HB.out
    (try clear x0 x1 x2 x3 x4 x5 x6 x7 xf)
    obtain ⟨gx, x0, x1, x2, x3, x4, x5, x6, x7, xf⟩ := CalAt.cells hset1.out
    refine (HM1.out _ _ _ _ (hs1.alloc _) (rdB1 (c := 45) (cell_new (by simp) rfl)) (by decide)).mono ?_
    rintro e w2 ⟨rfl, h2, g2⟩
    have HB := Lib.hid ((HB.out.alloc _).chg g2 hne)
    have hcal2 := Lib.hid ((hset1.out.alloc _).chg g2 hCb hbB)
    have g2' := (gs1.alloc _).then g2
    have hzz2 := g2.size
    (try simp at hzz2)
    rw [hcy] at hcal2
    (try clear c0 c1)
    obtain ⟨c0, c1⟩ := HB.out
    (try clear x0 x1 x2 x3 x4 x5 x6 x7 xf)
    obtain ⟨gx, x0, x1, x2, x3, x4, x5, x6, x7, xf⟩ := CalAt.cells hcal2.out
    go_wp2_with fail
    refine (HF2.out _ h2).mono ?_
    rintro e w3 ⟨v3, rfl, hv3, hL3, h3, g3⟩
    obtain ⟨A3, m3, cp3, rfl⟩ := own_slice hv3
    have HB := Lib.hid (HB.out.chg g3 hne)
    have hzz3 := g3.size
    have hv3 := Lib.hid (own_base hv3 (Nat.le_trans hB (Chg2.size (g2'))))
    have hcal3 := Lib.hid (CalAt.chg hcal2.out g3 hCb hbB)
    have g3' := (g2').then g3
    (try clear c0 c1)
    obtain ⟨c0, c1⟩ := HB.out
    (try clear x0 x1 x2 x3 x4 x5 x6 x7 xf)
    obtain ⟨gx, x0, x1, x2, x3, x4, x5, x6, x7, xf⟩ := CalAt.cells hcal3.out
    have hset3 := Lib.hid (CalAt.setL (c' := { cy with month := L2 }) hcal3.out hCB 2 (by decide) (by decide) (.slice A3 m3 cp3) hv3.out hL3 (fun k hk hn => by rcases k with _ | _ | _ | _ | _ | _ | _ | _ | k <;> first | rfl | (exact absurd rfl hn) | omega) rfl)
    have hs3 := h3.set (o := 2) hCb (.slice A3 m3 cp3)
    have gs3 := g3'.set 2 (.slice A3 m3 cp3)
    clear hL3
    have HBs3 := Lib.hid (HB.out.set (o := 2) hneC' (.slice A3 m3 cp3))
    have HB := HBs3
    go_wp2_with fail
    (try clear c0 c1)
    obtain ⟨c0, c1⟩ := HB.out
    (try clear x0 x1 x2 x3 x4 x5 x6 x7 xf)
    obtain ⟨gx, x0, x1, x2, x3, x4, x5, x6, x7, xf⟩ := CalAt.cells hset3.out
    refine (HM3.out _ _ _ _ (hs3.alloc _) (rdB2 (B := w3.heap.size) (c := 45) (d := 126) (cell_new (C := #[.int .u8 45, .int .u8 126]) (t := 5) (by simp) rfl) (cell_new (C := #[.int .u8 45, .int .u8 126]) (t := 5) (by simp) rfl)) (by decide)).mono ?_
    rintro e w4 ⟨rfl, h4, g4⟩
    have HB := Lib.hid ((HB.out.alloc _).chg g4 hne)
    have hcal4 := Lib.hid ((hset3.out.alloc _).chg g4 hCb hbB)
    have g4' := (gs3.alloc _).then g4
    have hzz4 := g4.size
    (try simp at hzz4)
    (try clear c0 c1)
    obtain ⟨c0, c1⟩ := HB.out
    (try clear x0 x1 x2 x3 x4 x5 x6 x7 xf)
    obtain ⟨gx, x0, x1, x2, x3, x4, x5, x6, x7, xf⟩ := CalAt.cells hcal4.out
    have hset4 := Lib.hid (CalAt.setBack (c' := { cy with month := L2, back := decide (mb = 126) }) hcal4.out hCB (decide (mb = 126)) (fun k hk => by rcases k with _ | _ | _ | _ | _ | _ | _ | _ | k <;> first | rfl | omega) rfl)
    have hs4 := h4.set (o := 4) hCb (.bool (decide (mb = 126)))
    have gs4 := g4'.set 4 (.bool (decide (mb = 126)))
    have HBs4 := Lib.hid (HB.out.set (o := 4) hneC' (.bool (decide (mb = 126))))
    have hmb : (mb == 126) = decide (mb = 126) := by rw [Bool.eq_iff_iff]; simp
    have HB := HBs4
    go_wp2_with fail
    (try rw [hmb])
    clear hmb
    (try clear c0 c1)
    obtain ⟨c0, c1⟩ := HB.out
    (try clear x0 x1 x2 x3 x4 x5 x6 x7 xf)
    obtain ⟨gx, x0, x1, x2, x3, x4, x5, x6, x7, xf⟩ := CalAt.cells hset4.out
    go_wp2_with fail
    refine (HF3.out _ hs4).mono ?_
    rintro e w5 ⟨v5, rfl, hv5, hL5, h5, g5⟩
    obtain ⟨A5, m5, cp5, rfl⟩ := own_slice hv5
    have HB := Lib.hid (HB.out.chg g5 hne)
    have hzz5 := g5.size
    have hv5 := Lib.hid (own_base hv5 (Nat.le_trans hB (Chg2.size (gs4))))
    have hcal5 := Lib.hid (CalAt.chg hset4.out g5 hCb hbB)
    have g5' := (gs4).then g5
    (try clear c0 c1)
    obtain ⟨c0, c1⟩ := HB.out
    (try clear x0 x1 x2 x3 x4 x5 x6 x7 xf)
    obtain ⟨gx, x0, x1, x2, x3, x4, x5, x6, x7, xf⟩ := CalAt.cells hcal5.out
    have hset5 := Lib.hid (CalAt.setL (c' := { cy with month := L2, back := decide (mb = 126), day := L3 }) hcal5.out hCB 3 (by decide) (by decide) (.slice A5 m5 cp5) hv5.out hL5 (fun k hk hn => by rcases k with _ | _ | _ | _ | _ | _ | _ | _ | k <;> first | rfl | (exact absurd rfl hn) | omega) rfl)
    have hs5 := h5.set (o := 3) hCb (.slice A5 m5 cp5)
    have gs5 := g5'.set 3 (.slice A5 m5 cp5)
    clear hL5
    have HBs5 := Lib.hid (HB.out.set (o := 3) hneC' (.slice A5 m5 cp5))
    go_wp2
    first | go_end0 | (refine bodyPost_ret (results_none rfl _ _ _) rfl ?_)
    exact ⟨rfl, by rw [HE.out]; exact hs5, by rw [HE.out]; exact hset5.out, gs5⟩
  · have HY := Lib.hid (HY2.out (fun x => hy (hdd.1 x)))
    clear HY1 HY2
    obtain ⟨τ2, hτ⟩ : ∃ τ, τ = σ := ⟨_, rfl⟩
    obtain ⟨cy, hcy⟩ : ∃ x, x = c := ⟨_, rfl⟩
    rw [← hτ, ← hcy] at HY
    rw [← hτ] at HW
    rw [← hcy] at HC
    rw [← hτ] at H
    clear hτ hcy
    have HF2 := Lib.hid (fun W (h : RdP W b s τ2) => field_ks hs 2 (by decide) (by decide) h)
    rw [show ((2 : Nat) : Int) = 2 from rfl] at HF2
    generalize kfieldP s.size 2 τ2 = y2 at *
    obtain ⟨τ3, L2⟩ := y2
    dsimp only at *
    have HM3 := Lib.hid (fun W A n cp (h : RdP W b s τ3) (hA : RdBytes W A n [45, 126]) (hn : n ≤ 9223372036854775807) => must_ps (cp := cp) hs9 h hA hn)
    generalize mustP s.size [45, 126] τ3 = m3 at *
    obtain ⟨τ4, mb⟩ := m3
    dsimp only at *
    have HF3 := Lib.hid (fun W (h : RdP W b s τ4) => field_ks hs 3 (by decide) (by decide) h)
    rw [show ((3 : Nat) : Int) = 3 from rfl] at HF3
    generalize kfieldP s.size 3 τ4 = y3 at *
    obtain ⟨τ5, L3⟩ := y3
    dsimp only at *
    have HE : Hid (R = (τ5, { cy with month := L2, back := decide (mb = 126), day := L3 })) := by
      show _ = _
      rw [HY.out]
      (try rw [← hcy])
    clear HY
    clear hdd
    go_enter Tryz.func80, Tryz.ntmps80
    go_wp2_with fail
    refine (HW.out _ (H.out.alloc _) HM0.out).mono ?_
    rintro e w0 ⟨rfl, h0, g0⟩
    have HB := Lib.hid (HB.out.chg g0 hne)
    have hcal0 := Lib.hid ((HC.out.alloc (.cells #[.pointer (some ⟨b, 0, none⟩), .string s] 82)).chg g0 hCb hbB)
    have g0' := (((Chg.refl b w).two C).alloc (.cells #[.pointer (some ⟨b, 0, none⟩), .string s] 82)).then g0
    have hzz0 := g0.size
    (try simp at hzz0)
    (try clear c0 c1)
    obtain ⟨c0, c1⟩ := HB.out
    (try clear x0 x1 x2 x3 x4 x5 x6 x7 xf)
    obtain ⟨gx, x0, x1, x2, x3, x4, x5, x6, x7, xf⟩ := CalAt.cells hcal0.out
    go_wp2_with fail
    refine (HN1.out _).mono ?_
    rintro e w9 ⟨rfl, rfl⟩
    go_wp2_with fail
    refine (HN2.out _).mono ?_
    rintro e w9 ⟨rfl, rfl⟩
    go_wp2_with fail
    refine (HF2.out _ h0).mono ?_
    rintro e w3 ⟨v3, rfl, hv3, hL3, h3, g3⟩
    obtain ⟨A3, m3, cp3, rfl⟩ := own_slice hv3
    have HB := Lib.hid (HB.out.chg g3 hne)
    have hzz3 := g3.size
    have hv3 := Lib.hid (own_base hv3 (Nat.le_trans hB (Chg2.size (g0'))))
    have hcal3 := Lib.hid (CalAt.chg hcal0.out g3 hCb hbB)
    have g3' := (g0').then g3
    (try clear c0 c1)
    obtain ⟨c0, c1⟩ := HB.out
    (try clear x0 x1 x2 x3 x4 x5 x6 x7 xf)
    obtain ⟨gx, x0, x1, x2, x3, x4, x5, x6, x7, xf⟩ := CalAt.cells hcal3.out
    have hset3 := Lib.hid (CalAt.setL (c' := { cy with month := L2 }) hcal3.out hCB 2 (by decide) (by decide) (.slice A3 m3 cp3) hv3.out hL3 (fun k hk hn => by rcases k with _ | _ | _ | _ | _ | _ | _ | _ | k <;> first | rfl | (exact absurd rfl hn) | omega) rfl)
    have hs3 := h3.set (o := 2) hCb (.slice A3 m3 cp3)
    have gs3 := g3'.set 2 (.slice A3 m3 cp3)
    clear hL3
    have HBs3 := Lib.hid (HB.out.set (o := 2) hneC' (.slice A3 m3 cp3))
    have HB := HBs3
    go_wp2_with fail
    (try clear c0 c1)
    obtain ⟨c0, c1⟩ := HB.out
    (try clear x0 x1 x2 x3 x4 x5 x6 x7 xf)
    obtain ⟨gx, x0, x1, x2, x3, x4, x5, x6, x7, xf⟩ := CalAt.cells hset3.out
    refine (HM3.out _ _ _ _ (hs3.alloc _) (rdB2 (B := w3.heap.size) (c := 45) (d := 126) (cell_new (C := #[.int .u8 45, .int .u8 126]) (t := 5) (by simp) rfl) (cell_new (C := #[.int .u8 45, .int .u8 126]) (t := 5) (by simp) rfl)) (by decide)).mono ?_
    rintro e w4 ⟨rfl, h4, g4⟩
    have HB := Lib.hid ((HB.out.alloc _).chg g4 hne)
    have hcal4 := Lib.hid ((hset3.out.alloc _).chg g4 hCb hbB)
    have g4' := (gs3.alloc _).then g4
    have hzz4 := g4.size
    (try simp at hzz4)
    (try clear c0 c1)
    obtain ⟨c0, c1⟩ := HB.out
    (try clear x0 x1 x2 x3 x4 x5 x6 x7 xf)
    obtain ⟨gx, x0, x1, x2, x3, x4, x5, x6, x7, xf⟩ := CalAt.cells hcal4.out
    have hset4 := Lib.hid (CalAt.setBack (c' := { cy with month := L2, back := decide (mb = 126) }) hcal4.out hCB (decide (mb = 126)) (fun k hk => by rcases k with _ | _ | _ | _ | _ | _ | _ | _ | k <;> first | rfl | omega) rfl)
    have hs4 := h4.set (o := 4) hCb (.bool (decide (mb = 126)))
    have gs4 := g4'.set 4 (.bool (decide (mb = 126)))
    have HBs4 := Lib.hid (HB.out.set (o := 4) hneC' (.bool (decide (mb = 126))))
    have hmb : (mb == 126) = decide (mb = 126) := by rw [Bool.eq_iff_iff]; simp
    have HB := HBs4
    go_wp2_with fail
    (try rw [hmb])
    clear hmb
    (try clear c0 c1)
    obtain ⟨c0, c1⟩ := HB.out
    (try clear x0 x1 x2 x3 x4 x5 x6 x7 xf)
    obtain ⟨gx, x0, x1, x2, x3, x4, x5, x6, x7, xf⟩ := CalAt.cells hset4.out
    go_wp2_with fail
    refine (HF3.out _ hs4).mono ?_
    rintro e w5 ⟨v5, rfl, hv5, hL5, h5, g5⟩
    obtain ⟨A5, m5, cp5, rfl⟩ := own_slice hv5
    have HB := Lib.hid (HB.out.chg g5 hne)
    have hzz5 := g5.size
    have hv5 := Lib.hid (own_base hv5 (Nat.le_trans hB (Chg2.size (gs4))))
    have hcal5 := Lib.hid (CalAt.chg hset4.out g5 hCb hbB)
    have g5' := (gs4).then g5
    (try clear c0 c1)
    obtain ⟨c0, c1⟩ := HB.out
    (try clear x0 x1 x2 x3 x4 x5 x6 x7 xf)
    obtain ⟨gx, x0, x1, x2, x3, x4, x5, x6, x7, xf⟩ := CalAt.cells hcal5.out
    have hset5 := Lib.hid (CalAt.setL (c' := { cy with month := L2, back := decide (mb = 126), day := L3 }) hcal5.out hCB 3 (by decide) (by decide) (.slice A5 m5 cp5) hv5.out hL5 (fun k hk hn => by rcases k with _ | _ | _ | _ | _ | _ | _ | _ | k <;> first | rfl | (exact absurd rfl hn) | omega) rfl)
    have hs5 := h5.set (o := 3) hCb (.slice A5 m5 cp5)
    have gs5 := g5'.set 3 (.slice A5 m5 cp5)
    clear hL5
    have HBs5 := Lib.hid (HB.out.set (o := 3) hneC' (.slice A5 m5 cp5))
    go_wp2
    first | go_end0 | (refine bodyPost_ret (results_none rfl _ _ _) rfl ?_)
    exact ⟨rfl, by rw [HE.out]; exact hs5, by rw [HE.out]; exact hset5.out, gs5⟩
end
end Go.Proofs.YtochhmkdhdadhaaGreat
