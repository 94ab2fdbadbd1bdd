/- The walk of the law CronlowMeans. -/
import Derived.Test.YtochhmkdhdadhaaGreatDoorWClZ
import Derived.Test.YtochhmkdhdadhaaGreatDoorLCread
import Derived.Test.YtochhmkdhdadhaaGreatDoorWClAQ
import Derived.Test.YtochhmkdhdadhaaGreatDoorRBack
import Derived.Test.YtochhmkdhdadhaaGreatDoorWCron2
/- The walks of the laws of cronlow: what a line means, the example. -/
namespace Go.Proofs.YtochhmkdhdadhaaGreatDoor
open Go.RowKit
set_option linter.unusedSimpArgs false
set_option linter.unusedVariables false

theorem meansL_R (l : Nat → List It) (t : Int) : meansL l t = (inC t && meansR l (mD (t / 86400)) (dD (t / 86400)) (t % 86400 / 3600) (t % 86400 / 60 % 60) (t % 86400 % 60) (wdD (t / 86400))) := rfl
set_option maxRecDepth 20000 in
set_option maxHeartbeats 4000000 in
theorem lmeans_any (A : Nat → Option Addr) (n c : Nat → Nat) (l : Nat → List It) (t : Int) (w : World) (hA : RdLine w A n l) (hn : ∀ k, n k ≤ 100000) :
    Calls Tryz.prog 14 #[crV A n c, .int .i64 t] w (Ret (.bool (meansL l t)) w) := by
  rw [meansL_R]
  cases hi : inC t with
  | false =>
    have HN := Lib.hid (fun W => retQ_B (in08_any t W))
    rw [hi] at HN
    clear hi hA
    go_enter Tryz.func14, Tryz.ntmps14
    go_wp2_with fail
    generalize hW1 : World.alloc w _ = W1
    have hb1 : Below w.heap.size w W1 := by rw [← hW1]; exact (Below.refl _ _).alloc (Nat.le_refl _) _
    clear hW1
    refine wp_region_grew (by kernel_rfl) (by kernel_rfl) ?_
    repeat (first | go_big_quiet_skip | (go_big_quiet_want; go_big_quiet_op; (first | go_big_quiet_on | go_big_quiet_call ((with_reducible exact ext_call _ (HN.out _))))))
    refine wpQuiet_nil ?_
    rintro _ ⟨xw, rfl⟩
    have hbx := bthen hb1 (Ext.h xw) hb1.size
    go_wp2
    go_ret
    exact ⟨rfl, hbx⟩
  | true =>
    obtain ⟨t0, t1⟩ := in_bd hi
    have HN := Lib.hid (fun W => retQ_B (in08_any t W))
    have HS := Lib.hid (fun W => stamp08_any t hi W)
    have HD := Lib.hid (fun W => rday06_any (t / 86400) (by omega) (by omega) W)
    have HM := Lib.hid (fun W (hb : Below w.heap.size w W) => rmeans24_any A n c l (yD (t / 86400)) (mD (t / 86400)) (dD (t / 86400)) (t % 86400 / 3600) (t % 86400 / 60 % 60) (t % 86400 % 60) (wdD (t / 86400)) W (hA.below hb (Nat.le_refl _)) hn)
    have E1 : Int.tdiv t 86400 = t / 86400 := Int.tdiv_eq_ediv_of_nonneg t0
    rw [hi] at HN
    unfold stV at HS
    have hq0 : 0 ≤ t / 86400 := by omega
    have hq1 : t / 86400 ≤ 146097 := by omega
    clear hi hA
    generalize meansR l (mD (t / 86400)) (dD (t / 86400)) (t % 86400 / 3600) (t % 86400 / 60 % 60) (t % 86400 % 60) (wdD (t / 86400)) = R at *
    generalize yD (t / 86400) = p1 at *
    generalize mD (t / 86400) = p2 at *
    generalize dD (t / 86400) = p3 at *
    generalize t % 86400 / 3600 = p4 at *
    generalize t % 86400 / 60 % 60 = p5 at *
    generalize t % 86400 % 60 = p6 at *
    generalize wdD (t / 86400) = p7 at *
    generalize t / 86400 = p8 at *
    go_enter Tryz.func14, Tryz.ntmps14
    go_wp2_with fail
    generalize hW1 : World.alloc w _ = W1
    have hb1 : Below w.heap.size w W1 := by rw [← hW1]; exact (Below.refl _ _).alloc (Nat.le_refl _) _
    have s0 : W1.cell? ⟨w.heap.size, 0, none⟩ = some (.slice (A 0) (n 0) (c 0)) := by rw [← hW1]; exact cell_new rfl rfl
    have s1 : W1.cell? ⟨w.heap.size, 1, none⟩ = some (.slice (A 1) (n 1) (c 1)) := by rw [← hW1]; exact cell_new rfl rfl
    have s2 : W1.cell? ⟨w.heap.size, 2, none⟩ = some (.slice (A 2) (n 2) (c 2)) := by rw [← hW1]; exact cell_new rfl rfl
    have s3 : W1.cell? ⟨w.heap.size, 3, none⟩ = some (.slice (A 3) (n 3) (c 3)) := by rw [← hW1]; exact cell_new rfl rfl
    have s4 : W1.cell? ⟨w.heap.size, 4, none⟩ = some (.slice (A 4) (n 4) (c 4)) := by rw [← hW1]; exact cell_new rfl rfl
    clear hW1
    have h0' : ∀ y : Ext W1, y.W.cell? ⟨w.heap.size, 0, none⟩ = some (.slice (A 0) (n 0) (c 0)) := fun y => y.cell s0
    have h1' : ∀ y : Ext W1, y.W.cell? ⟨w.heap.size, 1, none⟩ = some (.slice (A 1) (n 1) (c 1)) := fun y => y.cell s1
    have h2' : ∀ y : Ext W1, y.W.cell? ⟨w.heap.size, 2, none⟩ = some (.slice (A 2) (n 2) (c 2)) := fun y => y.cell s2
    have h3' : ∀ y : Ext W1, y.W.cell? ⟨w.heap.size, 3, none⟩ = some (.slice (A 3) (n 3) (c 3)) := fun y => y.cell s3
    have h4' : ∀ y : Ext W1, y.W.cell? ⟨w.heap.size, 4, none⟩ = some (.slice (A 4) (n 4) (c 4)) := fun y => y.cell s4
    have HMx := Lib.hid (fun y : Ext W1 => HM.out y.W (bthen hb1 y.h hb1.size))
    clear s0 s1 s2 s3 s4 HM
    refine wp_region_grew (by kernel_rfl) (by kernel_rfl) ?_
    repeat (first | go_big_quiet_skip | (go_big_quiet_want; go_big_quiet_op; (first | go_big_quiet_on | go_big_quiet_call ((with_reducible first | exact ext_call _ (HN.out _) | exact ext_call _ (HS.out _) | exact ext_call _ (HD.out _) | exact ext_call _ (HMx.out _))))))
    refine wpQuiet_nil ?_
    rintro _ ⟨xw, rfl⟩
    have hbx := bthen hb1 (Ext.h xw) hb1.size
    go_wp2
    go_ret
    exact ⟨rfl, hbx⟩
theorem hasL_line (l : Nat → List It) (t : Int) : hasL [lineC l] t = meansL l t := by
  unfold hasL setC
  simp [line_may, line_has]
def ex27 : List UInt8 := [48, 32, 48, 32, 49, 51, 32, 42, 32, 53]
theorem ex27_read : cRead ex27 = .ok ([[⟨1, 0, 0, 0⟩], [⟨1, 0, 0, 0⟩], [⟨1, 13, 0, 0⟩], [⟨0, 0, 0, 1⟩], [⟨1, 5, 0, 0⟩]], []) := by
  rw [cReadS_eq]; kernel_rfl
def ex27F (k : Nat) : List It := if k = 0 then [⟨1, 0, 0, 0⟩] else if k = 1 then [⟨1, 0, 0, 0⟩] else if k = 2 then [⟨1, 13, 0, 0⟩] else if k = 3 then [⟨0, 0, 0, 1⟩] else [⟨1, 5, 0, 0⟩]
theorem meansL_ext {F G : Nat → List It} (h : ∀ k, k < 5 → F k = G k) (t : Int) : meansL F t = meansL G t := by
  unfold meansL
  rw [h 0 (by decide), h 1 (by decide), h 2 (by decide), h 3 (by decide), h 4 (by decide)]
theorem ex27_has : meansL ex27F 86400 = true ∧ meansL ex27F 1036800 = true ∧ meansL ex27F 0 = false := by decide +kernel
set_option maxRecDepth 20000 in
set_option maxHeartbeats 4000000 in
theorem lives27_any (w : World) : Calls Tryz.prog 7 #[] w (Ret (.bool true) w) := by
  have HA := Lib.hid (fun W => read_line (strB ex27) (by decide) W)
  go_enter Tryz.func7, Tryz.ntmps7
  go_wp2_with fail
  refine (HA.out _).mono ?_
  rintro e w1 ⟨hb1, ⟨F, A, n, c, hO, rfl, hrd, hn, hz, hF, hm⟩ | ⟨a, e, hO, _⟩⟩
  · have hE : outR (strB ex27) = .ok ((List.range 5).map ex27F) := outR_ok (by rw [strB_data]; exact ex27_read)
    rw [hE] at hO
    have hFG := range5_eq (Except.ok.inj hO)
    have HLw := Lib.hid (fun W (hb : Below w1.heap.size w1 W) => lower_ok A n c F W (hrd.below hb (Nat.le_refl _)) (fun k => by have := (hn k).1; omega) hz (by rw [chk_all hm]))
    have e1 : hasL [lineC F] 86400 = true := by rw [hasL_line, ← meansL_ext hFG]; exact ex27_has.1
    have e2 : hasL [lineC F] 1036800 = true := by rw [hasL_line, ← meansL_ext hFG]; exact ex27_has.2.1
    have e3 : hasL [lineC F] 0 = false := by rw [hasL_line, ← meansL_ext hFG]; exact ex27_has.2.2
    have hbits : ∀ k ∈ [lineC F], BitsC k := fun k hk => by rw [List.mem_singleton.1 hk]; exact line_bits F
    have HH := Lib.hid (fun b t W h => irhas_any (some ⟨b, 0, none⟩) 1 1 [lineC F] hbits t W h (by decide))
    have HH1 := Lib.hid (fun b W h => HH.out b 86400 W h)
    have HH2 := Lib.hid (fun b W h => HH.out b 1036800 W h)
    have HH3 := Lib.hid (fun b W h => HH.out b 0 W h)
    rw [e1] at HH1
    rw [e2] at HH2
    rw [e3] at HH3
    clear hO hE hFG hrd hn hz hF hm e1 e2 e3 HH hbits HA
    generalize lineC F = K at *
    go_wp2_with fail
    refine (HLw.out _ (by (repeat' (first | (with_reducible exact Below.refl _ _) | (with_reducible assumption) | (with_reducible refine below_drewN ?_ _) | (with_reducible refine Below.alloc ?_ ?_ _) | (with_reducible refine Below.drew ?_) | (with_reducible refine Below.setCell ?_ ?_ _) | go_size)))).mono ?_
    rintro e w2 ⟨b, rfl, hr, hq2⟩
    have hb2 : Below w.heap.size w w2 := (hb1.alloc hb1.size _).trans (hq2.mono (by simp; have := hb1.size; omega))
    have HR := Lib.hid hr
    clear hb1 hq2 hr HLw
    go_wp2_with fail
    refine (HH1.out _ _ HR.out).mono ?_
    rintro e w3 ⟨rfl, hq3⟩
    have hb3 := bthen hb2 hq3 hb2.size
    replace HR := Lib.hid (HR.out.below hq3 (Nat.le_refl _))
    go_wp2_with fail
    refine (HH2.out _ _ HR.out).mono ?_
    rintro e w4 ⟨rfl, hq4⟩
    have hb4 := bthen hb3 hq4 hb3.size
    replace HR := Lib.hid (HR.out.below hq4 (Nat.le_refl _))
    go_wp2_with fail
    refine (HH3.out _ _ HR.out).mono ?_
    rintro e w5 ⟨rfl, hq5⟩
    have hb5 := bthen hb4 hq5 hb4.size
    go_wp2
    go_ret
    exact ⟨rfl, hb5⟩
  · rw [outR_ok (x := (List.range 5).map ex27F) (by rw [strB_data]; exact ex27_read)] at hO
    cases hO
end Go.Proofs.YtochhmkdhdadhaaGreatDoor

/- The walks of the laws of cronlow: texts. -/
namespace Go.Proofs.YtochhmkdhdadhaaGreatDoor
open Go.RowKit
set_option linter.unusedSimpArgs false
set_option linter.unusedVariables false

theorem has_line (F : Nat → List It) (t : Int) (b : Nat) (W : World) (h : RdCls W (some ⟨b, 0, none⟩) 1 [lineC F]) : Calls Tryz.prog 13 #[.slice (some ⟨b, 0, none⟩) 1 1, .int .i64 t] W (Ret (.bool (meansL F t)) W) := by
  have := irhas_any (some ⟨b, 0, none⟩) 1 1 [lineC F] (fun k hk => by rw [List.mem_singleton.1 hk]; exact line_bits F) t W h (by decide)
  rwa [hasL_line] at this
set_option maxRecDepth 20000 in
set_option maxHeartbeats 4000000 in
theorem cronlowTexts_any (s : ByteArray) (hs : s.size ≤ 9223372036854775807) (t : Int) (w : World) : Calls Tryz.prog 4 #[.string s, .int .i64 t] w (Ret (.bool true) w) := by
  have HV := Lib.hid (fun W => lives27_any W)
  by_cases hbig : 9000 < s.size
  · have hbig' : (9000 : Int) < (s.size : Int) := by omega
    clear hbig
    go_enter Tryz.func4, Tryz.ntmps4
    go_wp2_with fail
    refine (HV.out _).mono ?_
    rintro e w1 ⟨rfl, hb1⟩
    go_wp2
    go_ret
    exact ⟨rfl, hb1⟩
  · have hbig' : ¬ (9000 : Int) < (s.size : Int) := by omega
    have HR := Lib.hid (fun W => read_line s (by omega) W)
    clear hbig
    go_enter Tryz.func4, Tryz.ntmps4
    go_wp2_with fail
    refine (HR.out _).mono ?_
    rintro x w1 ⟨hb1, ⟨F, A, n, c, hO, rfl, hrd, hn, hz, hF, hm⟩ | ⟨a, e, hO, he, ha0, ha1, rfl⟩⟩
    · have hz1 := hb1.size
      have HLw := Lib.hid (fun W (hb : Below w1.heap.size w1 W) => lower_ok A n c F W (hrd.below hb (Nat.le_refl _)) (fun k => by have := (hn k).1; omega) hz (by rw [chk_all hm]))
      have HME := Lib.hid (fun W (hb : Below w1.heap.size w1 W) => lmeans_any A n c F t W (hrd.below hb (Nat.le_refl _)) (fun k => by have := (hn k).1; omega))
      have HH := Lib.hid (fun b W h => has_line F t b W h)
      clear hO hrd hn hz hF hm HR
      generalize meansL F t = R at *
      generalize lineC F = K at *
      go_wp2_with fail
      generalize hW : World.alloc w1 _ = W1
      have hbW : Below w1.heap.size w1 W1 := by rw [← hW]; exact (Below.refl _ _).alloc (Nat.le_refl _) _
      have hL : LineAt W1 w1.heap.size 0 A n c := by rw [← hW]; exact ⟨by simp [go_sem], by simp [go_sem], by simp [go_sem], by simp [go_sem], by simp [go_sem]⟩
      have hzW : w1.heap.size < W1.heap.size := by rw [← hW]; simp
      have HL := Lib.hid hL
      clear hW hL
      refine (HLw.out _ hbW).mono ?_
      rintro e w2 ⟨b, rfl, hr, hq2⟩
      have HL2 := Lib.hid (LineAt.below HL.out (fun o => hq2.cell (p := ⟨_, o, none⟩) hzW))
      obtain ⟨l0, l1, l2, l3, l4⟩ := lineAt_ld HL2.out
      have hb2 : Below w1.heap.size w1 w2 := bthen hbW hq2 hbW.size
      have h0' : ∀ y : Ext w2, y.W.cell? ⟨w1.heap.size, 0, none⟩ = some (.slice (A 0) (n 0) (c 0)) := fun y => y.cell l0
      have h1' : ∀ y : Ext w2, y.W.cell? ⟨w1.heap.size, 1, none⟩ = some (.slice (A 1) (n 1) (c 1)) := fun y => y.cell l1
      have h2' : ∀ y : Ext w2, y.W.cell? ⟨w1.heap.size, 2, none⟩ = some (.slice (A 2) (n 2) (c 2)) := fun y => y.cell l2
      have h3' : ∀ y : Ext w2, y.W.cell? ⟨w1.heap.size, 3, none⟩ = some (.slice (A 3) (n 3) (c 3)) := fun y => y.cell l3
      have h4' : ∀ y : Ext w2, y.W.cell? ⟨w1.heap.size, 4, none⟩ = some (.slice (A 4) (n 4) (c 4)) := fun y => y.cell l4
      have HMx := Lib.hid (fun y : Ext w2 => HME.out y.W (bthen hb2 y.h hb2.size))
      have HHx := Lib.hid (fun y : Ext w2 => HH.out b y.W (hr.below y.h (Nat.le_refl _)))
      have hbz : Below w.heap.size w w2 := bthen hb1 hb2 hb1.size
      clear l0 l1 l2 l3 l4 HL HL2 HME HH hr hq2 hb2 hbW HLw
      go_wp2_with fail
      refine wp_region_grew (by kernel_rfl) (by kernel_rfl) ?_
      repeat (first | go_big_quiet_skip | (go_big_quiet_want; go_big_quiet_op; (first | go_big_quiet_on | go_big_quiet_call ((with_reducible first | exact ext_call _ (HHx.out _) | exact ext_call _ (HMx.out _) | exact ext_call _ (HV.out _))))))
      refine wpQuiet_nil ?_
      rintro _ ⟨xw, rfl⟩
      have hbx := bthen hbz (Ext.h xw) hbz.size
      go_wp2
      go_ret
      exact ⟨rfl, hbx⟩
    · have he' : (e != 0) = true := by simpa using he
      clear he hO ha0 ha1
      go_wp2_with fail
      refine (HV.out _).mono ?_
      rintro e w2 ⟨rfl, hb2⟩
      go_wp2
      go_ret
      exact ⟨rfl, by first | exact bthen hb1 hb2 hb1.size | exact (hb1.alloc hb1.size _).trans (hb2.mono (by simp; have := hb1.size; omega))⟩
end Go.Proofs.YtochhmkdhdadhaaGreatDoor

/- The walks of the laws of cronlow: what is as in Full. -/
namespace Go.Proofs.YtochhmkdhdadhaaGreatDoor
open Go.RowKit
set_option linter.unusedSimpArgs false
set_option linter.unusedVariables false

theorem chk_or (l : Nat → List It) : chk l = (5, 0) ∧ (∀ k, k < 5 → faultI k (l k) = 0) ∨ (chk l).2 ≠ 0 := by
  by_cases h : ∀ k, k < 5 → faultI k (l k) = 0
  · exact .inl ⟨chk_all h, h⟩
  · right
    have h0 : faultI 0 (l 0) ≠ 0 ∨ faultI 1 (l 1) ≠ 0 ∨ faultI 2 (l 2) ≠ 0 ∨ faultI 3 (l 3) ≠ 0 ∨ faultI 4 (l 4) ≠ 0 := by
      refine Classical.byContradiction fun hh => h fun k hk => ?_
      simp only [not_or, Decidable.not_not] at hh
      obtain ⟨a0, a1, a2, a3, a4⟩ := hh
      obtain rfl | rfl | rfl | rfl | rfl : k = 0 ∨ k = 1 ∨ k = 2 ∨ k = 3 ∨ k = 4 := by omega
      all_goals assumption
    unfold chk chkN chkN chkN chkN chkN chkN
    simp only [Nat.sub_self, Nat.reduceSub]
    split
    · split
      · split
        · split
          · split
            · simp_all
            · assumption
          · assumption
        · assumption
      · assumption
    · assumption
theorem chk_small {A : Nat → Option Addr} {n : Nat → Nat} {l : Nat → List It} {w : World} (hA : RdLine w A n l) (h5 : ∀ k, 5 ≤ k → n k = 0) (h : (chk l).2 = 0) : ∀ k, n k ≤ 100000 := by
  rcases chk_or l with ⟨_, H⟩ | H
  · intro k
    by_cases hk : k < 5
    · have h1 := (fault_parts (H k hk)).2.1
      have h2 := (hA k hk).1
      omega
    · rw [h5 k (by omega)]; omega
  · exact absurd h H
set_option maxRecDepth 20000 in
set_option maxHeartbeats 8000000 in
theorem cronlowWhole_any (A : Nat → Option Addr) (n c : Nat → Nat) (l : Nat → List It) (w : World) (hA : RdLine w A n l) (hn : ∀ k, n k ≤ 9223372036854775807) (hnil : ∀ k, A k = none → n k = 0) (h5 : ∀ k, 5 ≤ k → n k = 0) :
    Calls Tryz.prog 5 #[crV A n c] w (Ret (.bool true) w) := by
  have HV := Lib.hid (fun W => lives27_any W)
  by_cases hc : (chk l).2 = 0
  · have HC := Lib.hid (fun W (hb : Below w.heap.size w W) => lowClause_ok A n c l W (hA.below hb (Nat.le_refl _)) (chk_small hA h5 hc) hnil hc)
    have HE2 := Lib.hid (fun W (hb : Below w.heap.size w W) => rstarred_any (A 2) (n 2) (c 2) (l 2) W ((hA 2 (by decide)).below hb (Nat.le_refl _)))
    have HE4 := Lib.hid (fun W (hb : Below w.heap.size w W) => rstarred_any (A 4) (n 4) (c 4) (l 4) W ((hA 4 (by decide)).below hb (Nat.le_refl _)))
    have HF := Lib.hid (fun W => cfull_any W)
    have HI := Lib.hid (cl_info (lineC l))
    have H1 := Lib.hid (clA_cells (lineC l))
    have HI2 := Lib.hid (cl_info fullC)
    have H2 := Lib.hid (clA_cells fullC)
    have Hs : Hid (30 = (clA (lineC l)).size) := rfl
    have Hs2 : Hid (30 = (clA fullC).size) := rfl
    have he : eitherB l = (!starB (l 2) && !starB (l 4)) := rfl
    clear hA hn hnil h5 hc
    have HZ : Hid ((clA fullC).size = 30) := rfl
    have hy0 : Hid (∀ j, j < 7 → (clA fullC)[18 + j]? = some (.int .u64 (fullW j)) ∧ (clA (lineC l))[18 + j]? = some (.int .u64 (fullW j))) := fun j hj => by
      obtain rfl | rfl | rfl | rfl | rfl | rfl | rfl : j = 0 ∨ j = 1 ∨ j = 2 ∨ j = 3 ∨ j = 4 ∨ j = 5 ∨ j = 6 := by omega
      all_goals exact ⟨rfl, rfl⟩
    have hg : Hid ((clA (lineC l))[0]? = some (.int .u64 1) ∧ (clA (lineC l))[5]? = some (.int .u64 (spanM 1 31)) ∧ (clA (lineC l))[7]? = some (.bool (eitherB l)) ∧ (clA (lineC l))[25]? = some (.int .i64 0) ∧ (clA (lineC l))[26]? = some (.int .i64 1) ∧ (clA (lineC l))[27]? = some (.int .i64 0) ∧ (clA (lineC l))[28]? = some (.int .i64 0) ∧ (clA (lineC l))[29]? = some (.int .i64 12622780799)) := ⟨rfl, rfl, rfl, rfl, rfl, rfl, rfl, rfl⟩
    have hf : Hid ((clA fullC)[5]? = some (.int .u64 (spanM 1 31)) ∧ (clA fullC)[25]? = some (.int .i64 0) ∧ (clA fullC)[27]? = some (.int .i64 0) ∧ (clA fullC)[28]? = some (.int .i64 0) ∧ (clA fullC)[29]? = some (.int .i64 12622780799)) := ⟨rfl, rfl, rfl, rfl, rfl⟩
    have hoA : Hid (∀ j v, (ordA fullC)[j]? = some v → (clA fullC)[8 + j]? = some v ∧ (clA (lineC l))[8 + j]? = some v) := fun j v hj => by
      have hl : j < 10 := (Array.getElem?_eq_some_iff.1 hj).1
      obtain rfl | rfl | rfl | rfl | rfl | rfl | rfl | rfl | rfl | rfl : j = 0 ∨ j = 1 ∨ j = 2 ∨ j = 3 ∨ j = 4 ∨ j = 5 ∨ j = 6 ∨ j = 7 ∨ j = 8 ∨ j = 9 := by omega
      all_goals exact ⟨hj, hj⟩
    have hyA : Hid (∀ j v, (#[.int .u64 (fullW 0), .int .u64 (fullW 1), .int .u64 (fullW 2), .int .u64 (fullW 3), .int .u64 (fullW 4), .int .u64 (fullW 5), .int .u64 (fullW 6)] : Array Value)[j]? = some v → (clA fullC)[18 + j]? = some v ∧ (clA (lineC l))[18 + j]? = some v) := fun j v hj => by
      have hl : j < 7 := (Array.getElem?_eq_some_iff.1 hj).1
      have hv : Value.int .u64 (fullW j) = v := by
        generalize fullW = y at *
        obtain rfl | rfl | rfl | rfl | rfl | rfl | rfl : j = 0 ∨ j = 1 ∨ j = 2 ∨ j = 3 ∨ j = 4 ∨ j = 5 ∨ j = 6 := by omega
        all_goals simpa using hj
      rw [← hv]
      exact hy0.out j hl
    have eo : ∀ W, (binOp .eql 34 (.agg (ordA fullC)) (.agg (ordA fullC))).run Tryz.prog W = .ok (.bool true) W := fun W => eql_ord fullC W
    have ey : ∀ W, (binOp .eql 35 (.agg #[.int .u64 (fullW 0), .int .u64 (fullW 1), .int .u64 (fullW 2), .int .u64 (fullW 3), .int .u64 (fullW 4), .int .u64 (fullW 5), .int .u64 (fullW 6)]) (.agg #[.int .u64 (fullW 0), .int .u64 (fullW 1), .int .u64 (fullW 2), .int .u64 (fullW 3), .int .u64 (fullW 4), .int .u64 (fullW 5), .int .u64 (fullW 6)])).run Tryz.prog W = .ok (.bool true) W := fun W => by
      have h := eql_wd fullW fullW W
      rwa [show eqW fullW fullW = true by unfold eqW; simp] at h
    have hz7 : (#[.int .u64 (fullW 0), .int .u64 (fullW 1), .int .u64 (fullW 2), .int .u64 (fullW 3), .int .u64 (fullW 4), .int .u64 (fullW 5), .int .u64 (fullW 6)] : Array Value).size = 7 := rfl
    have hz10 : (ordA fullC).size = 10 := rfl
    have Hi7 : (Tryz.prog.info? 35).map (·.size) = some 7 := by kernel_rfl
    have Hi10 : (Tryz.prog.info? 34).map (·.size) = some 10 := by kernel_rfl
    generalize (#[.int .u64 (fullW 0), .int .u64 (fullW 1), .int .u64 (fullW 2), .int .u64 (fullW 3), .int .u64 (fullW 4), .int .u64 (fullW 5), .int .u64 (fullW 6)] : Array Value) = ys at *
    generalize ordA fullC = os at *
    rw [← hz7] at Hi7
    replace Hi7 := Lib.hid Hi7
    rw [← hz10] at Hi10
    replace Hi10 := Lib.hid Hi10
    rw [he] at hg
    clear he hy0 hz7 hz10
    generalize clA fullC = cs at *
    generalize clA (lineC l) = zs at *
    generalize spanM 1 31 = M5 at *
    generalize starB (l 2) = E2 at *
    generalize starB (l 4) = E4 at *
    go_enter Tryz.func5, Tryz.ntmps5
    go_wp2_with fail
    have hL : LineAt (w.alloc (.cells #[.slice (A 0) (n 0) (c 0), .slice (A 1) (n 1) (c 1), .slice (A 2) (n 2) (c 2), .slice (A 3) (n 3) (c 3), .slice (A 4) (n 4) (c 4)] 24)) w.heap.size 0 A n c := ⟨by simp [go_sem], by simp [go_sem], by simp [go_sem], by simp [go_sem], by simp [go_sem]⟩
    have HL := Lib.hid hL
    clear hL
    refine (HC.out _ (by (repeat' (first | (with_reducible exact Below.refl _ _) | (with_reducible assumption) | (with_reducible refine below_drewN ?_ _) | (with_reducible refine Below.alloc ?_ ?_ _) | (with_reducible refine Below.drew ?_) | (with_reducible refine Below.setCell ?_ ?_ _) | go_size)))).mono ?_
    rintro x w1 ⟨rfl, hq1⟩
    have hb1 : Below w.heap.size w w1 := ((Below.refl _ w).alloc (Nat.le_refl _) _).trans (hq1.mono (by simp))
    have HL1 := Lib.hid (LineAt.below HL.out (fun o => hq1.cell (p := ⟨_, o, none⟩) (by simp)))
    have hz1 : w.heap.size < w1.heap.size := by have := hq1.size; simp at this; omega
    clear hq1 HC HL
    go_wp2_with (first | (refine wp_store_new (by rfl) 37 _ _ rfl zs _ rfl rfl HI.out H1.out Hs.out ?_; intro w2 hq2 HS2 hz2) | fail)
    have hb2 := bthen hb1 hq2 hb1.size
    have HL2 := Lib.hid (LineAt.below HL1.out (fun o => hq2.cell (p := ⟨_, o, none⟩) hz1))
    have HSx : Hid (∀ j v, zs[j]? = some v → w2.cell? ⟨w1.heap.size, j, none⟩ = some v) := arr_lies HS2
    have hlt2 : w1.heap.size < w2.heap.size := by omega
    have hlw2 : w.heap.size < w2.heap.size := by omega
    clear hq2 HS2 HL1 hz2 hb1 hz1
    generalize hB : w1.heap.size = B at *
    clear hB
    refine (HF.out _).mono ?_
    rintro x w3 ⟨rfl, hq3⟩
    have hb3 := bthen hb2 hq3 hb2.size
    have HL3 := Lib.hid (LineAt.below HL2.out (fun o => hq3.cell (p := ⟨_, o, none⟩) hlw2))
    have HS3 : Hid (∀ j v, zs[j]? = some v → w3.cell? ⟨B, j, none⟩ = some v) := fun j v hj => keepc hq3 (HSx.out j v hj)
    have hlt3 : B < w3.heap.size := Nat.lt_of_lt_of_le hlt2 hq3.size
    have hlw3 : w.heap.size < w3.heap.size := Nat.lt_of_lt_of_le hlw2 hq3.size
    clear HL2 HSx hb2 hq3 hlt2 hlw2
    go_wp2_with (first | (refine wp_store_new (by rfl) 37 _ _ rfl cs _ rfl rfl HI2.out H2.out Hs2.out ?_; intro w4 hq4 HS4 hz4) | fail)
    have hDs : Hid (∀ j v, cs[j]? = some v → w4.cell? ⟨w3.heap.size, j, none⟩ = some v) := arr_lies HS4
    have hBs : Hid (∀ j v, zs[j]? = some v → w4.cell? ⟨B, j, none⟩ = some v) := fun j v hj => keepc hq4 (HS3.out j v hj)
    have HL4 := Lib.hid (LineAt.below HL3.out (fun o => hq4.cell (p := ⟨_, o, none⟩) hlw3))
    have hb4 := bthen hb3 hq4 hb3.size
    obtain ⟨l0, l1, l2, l3, l4⟩ := lineAt_ld HL4.out
    clear hq4 HS4 hz4 HL3 HS3 hb3 HL4 hlt3
    generalize hD : w3.heap.size = D at *
    clear hD
    have x0 : ∀ y : Ext w4, y.W.cell? ⟨B, 0, none⟩ = some (.int .u64 1) := fun y => y.cell (hBs.out _ _ hg.out.1)
    have x5 : ∀ y : Ext w4, y.W.cell? ⟨B, 5, none⟩ = some (.int .u64 M5) := fun y => y.cell (hBs.out _ _ hg.out.2.1)
    have x7 : ∀ y : Ext w4, y.W.cell? ⟨B, 7, none⟩ = some (.bool (!E2 && !E4)) := fun y => y.cell (hBs.out _ _ hg.out.2.2.1)
    have x25 : ∀ y : Ext w4, y.W.cell? ⟨B, 25, none⟩ = some (.int .i64 0) := fun y => y.cell (hBs.out _ _ hg.out.2.2.2.1)
    have x26 : ∀ y : Ext w4, y.W.cell? ⟨B, 26, none⟩ = some (.int .i64 1) := fun y => y.cell (hBs.out _ _ hg.out.2.2.2.2.1)
    have x27 : ∀ y : Ext w4, y.W.cell? ⟨B, 27, none⟩ = some (.int .i64 0) := fun y => y.cell (hBs.out _ _ hg.out.2.2.2.2.2.1)
    have x28 : ∀ y : Ext w4, y.W.cell? ⟨B, 28, none⟩ = some (.int .i64 0) := fun y => y.cell (hBs.out _ _ hg.out.2.2.2.2.2.2.1)
    have x29 : ∀ y : Ext w4, y.W.cell? ⟨B, 29, none⟩ = some (.int .i64 12622780799) := fun y => y.cell (hBs.out _ _ hg.out.2.2.2.2.2.2.2)
    have y5 : ∀ y : Ext w4, y.W.cell? ⟨D, 5, none⟩ = some (.int .u64 M5) := fun y => y.cell (hDs.out _ _ hf.out.1)
    have y25 : ∀ y : Ext w4, y.W.cell? ⟨D, 25, none⟩ = some (.int .i64 0) := fun y => y.cell (hDs.out _ _ hf.out.2.1)
    have y27 : ∀ y : Ext w4, y.W.cell? ⟨D, 27, none⟩ = some (.int .i64 0) := fun y => y.cell (hDs.out _ _ hf.out.2.2.1)
    have y28 : ∀ y : Ext w4, y.W.cell? ⟨D, 28, none⟩ = some (.int .i64 0) := fun y => y.cell (hDs.out _ _ hf.out.2.2.2.1)
    have y29 : ∀ y : Ext w4, y.W.cell? ⟨D, 29, none⟩ = some (.int .i64 12622780799) := fun y => y.cell (hDs.out _ _ hf.out.2.2.2.2)
    have hoB : Hid (∀ W, Grew w4 W → ∀ j v, os[j]? = some v → W.cell? ⟨B, 8 + j, none⟩ = some v) := by rintro W ⟨y, rfl⟩ j v hj; exact y.cell (hBs.out _ _ (hoA.out j v hj).2)
    have hoD : Hid (∀ W, Grew w4 W → ∀ j v, os[j]? = some v → W.cell? ⟨D, 8 + j, none⟩ = some v) := by rintro W ⟨y, rfl⟩ j v hj; exact y.cell (hDs.out _ _ (hoA.out j v hj).1)
    have hyB : Hid (∀ W, Grew w4 W → ∀ j v, ys[j]? = some v → W.cell? ⟨B, 18 + j, none⟩ = some v) := by rintro W ⟨y, rfl⟩ j v hj; exact y.cell (hBs.out _ _ (hyA.out j v hj).2)
    have hyD : Hid (∀ W, Grew w4 W → ∀ j v, ys[j]? = some v → W.cell? ⟨D, 18 + j, none⟩ = some v) := by rintro W ⟨y, rfl⟩ j v hj; exact y.cell (hDs.out _ _ (hyA.out j v hj).1)
    have h0' : ∀ y : Ext w4, y.W.cell? ⟨w.heap.size, 0, none⟩ = some (.slice (A 0) (n 0) (c 0)) := fun y => y.cell l0
    have h1' : ∀ y : Ext w4, y.W.cell? ⟨w.heap.size, 1, none⟩ = some (.slice (A 1) (n 1) (c 1)) := fun y => y.cell l1
    have h2' : ∀ y : Ext w4, y.W.cell? ⟨w.heap.size, 2, none⟩ = some (.slice (A 2) (n 2) (c 2)) := fun y => y.cell l2
    have h3' : ∀ y : Ext w4, y.W.cell? ⟨w.heap.size, 3, none⟩ = some (.slice (A 3) (n 3) (c 3)) := fun y => y.cell l3
    have h4' : ∀ y : Ext w4, y.W.cell? ⟨w.heap.size, 4, none⟩ = some (.slice (A 4) (n 4) (c 4)) := fun y => y.cell l4
    have HE2x := Lib.hid (fun y : Ext w4 => retQ_B (HE2.out y.W (bthen hb4 y.h hb4.size)))
    have HE4x := Lib.hid (fun y : Ext w4 => retQ_B (HE4.out y.W (bthen hb4 y.h hb4.size)))
    clear hDs hBs l0 l1 l2 l3 l4 HE2 HE4 hg hf hoA hyA
    cases E2 with
    | true =>
      refine wp_region_grew (by kernel_rfl) (by kernel_rfl) ?_
      (try simp only [Act.put, List.append, List.cons_append, List.nil_append])
      repeat (first | go_big_quiet_skip | (go_big_quiet_want; (first | ((first | refine quiet_load 34 _ rfl os B 8 rfl Tryz.underlying34 rfl Hi10.out hoB.out ?_ | refine quiet_load 34 _ rfl os D 8 rfl Tryz.underlying34 rfl Hi10.out hoD.out ?_ | refine quiet_load 35 _ rfl ys B 18 rfl Tryz.underlying35 rfl Hi7.out hyB.out ?_ | refine quiet_load 35 _ rfl ys D 18 rfl Tryz.underlying35 rfl Hi7.out hyD.out ?_); simp only [Act.put, List.setIfInBounds_toArray, List.set_cons_succ, List.set_cons_zero]; go_big_quiet_on) | (go_big_quiet_op; (first | go_big_quiet_on | go_big_quiet_call ((with_reducible first | exact ext_call _ (HE2x.out _) | exact ext_call _ (HE4x.out _) | exact ext_call _ (HV.out _))))))))
      refine wpQuiet_nil ?_
      rintro _ ⟨xw, rfl⟩
      have hbx := bthen hb4 (Ext.h xw) hb4.size
      go_wp2
      go_ret
      exact ⟨rfl, hbx⟩
    | false =>
      cases E4 <;>
      (refine wp_region_grew (by kernel_rfl) (by kernel_rfl) ?_
       (try simp only [Act.put, List.append, List.cons_append, List.nil_append])
       repeat (first | go_big_quiet_skip | (go_big_quiet_want; (first | ((first | refine quiet_load 34 _ rfl os B 8 rfl Tryz.underlying34 rfl Hi10.out hoB.out ?_ | refine quiet_load 34 _ rfl os D 8 rfl Tryz.underlying34 rfl Hi10.out hoD.out ?_ | refine quiet_load 35 _ rfl ys B 18 rfl Tryz.underlying35 rfl Hi7.out hyB.out ?_ | refine quiet_load 35 _ rfl ys D 18 rfl Tryz.underlying35 rfl Hi7.out hyD.out ?_); simp only [Act.put, List.setIfInBounds_toArray, List.set_cons_succ, List.set_cons_zero]; go_big_quiet_on) | (go_big_quiet_op; (first | go_big_quiet_on | go_big_quiet_call ((with_reducible first | exact ext_call _ (HE2x.out _) | exact ext_call _ (HE4x.out _) | exact ext_call _ (HV.out _))))))))
       refine wpQuiet_nil ?_
       rintro _ ⟨xw, rfl⟩
       have hbx := bthen hb4 (Ext.h xw) hb4.size
       go_wp2
       go_ret
       exact ⟨rfl, hbx⟩)
  · have HC := Lib.hid (fun W (hb : Below w.heap.size w W) => lowClause_bad A n c l W (hA.below hb (Nat.le_refl _)) hn hc)
    have HI := Lib.hid (cl_info zeroC)
    have H1 := Lib.hid (clA_cells zeroC)
    have Hs : Hid (30 = (clA zeroC).size) := rfl
    have he : ((chk l).2 != 0) = true := by simpa using hc
    clear hA hn hnil h5 hc
    generalize (chk l).2 = e at *
    generalize clA zeroC = cs at *
    go_enter Tryz.func5, Tryz.ntmps5
    go_wp2_with fail
    refine (HC.out _ (by (repeat' (first | (with_reducible exact Below.refl _ _) | (with_reducible assumption) | (with_reducible refine below_drewN ?_ _) | (with_reducible refine Below.alloc ?_ ?_ _) | (with_reducible refine Below.drew ?_) | (with_reducible refine Below.setCell ?_ ?_ _) | go_size)))).mono ?_
    rintro x w1 ⟨rfl, hq1⟩
    have hb1 : Below w.heap.size w w1 := ((Below.refl _ w).alloc (Nat.le_refl _) _).trans (hq1.mono (by simp))
    clear hq1 HC
    go_wp2_with (first | (refine wp_store_new (by rfl) 37 _ _ rfl cs _ rfl rfl HI.out H1.out Hs.out ?_; intro w2 hq2 HS2 hz2) | fail)
    refine (HV.out _).mono ?_
    rintro x w3 ⟨rfl, hb3⟩
    have hb2 := bthen hb1 hq2 hb1.size
    go_wp2
    go_ret
    exact ⟨rfl, bthen hb2 hb3 hb2.size⟩
end Go.Proofs.YtochhmkdhdadhaaGreatDoor

namespace Go.Proofs.YtochhmkdhdadhaaGreatDoor
open Go.RowKit
set_option linter.unusedSimpArgs false
set_option linter.unusedVariables false

set_option maxRecDepth 20000 in
set_option maxHeartbeats 16000000 in
theorem cronlowMeans_any (A : Nat → Option Addr) (n c : Nat → Nat) (l : Nat → List It) (t : Int) (w : World) (hA : RdLine w A n l) (hn : ∀ k, n k ≤ 9223372036854775807) (hnil : ∀ k, A k = none → n k = 0) (h5 : ∀ k, 5 ≤ k → n k = 0) :
    Calls Tryz.prog 3 #[crV A n c, .int .i64 t] w (Ret (.bool true) w) := by
  have HV := Lib.hid (fun W => lives27_any W)
  have HG := Lib.hid (fun W => great_any A n c W)
  have HK := Lib.hid (fun W (hb : Below w.heap.size w W) => rcheck_any A n c l W (hA.below hb (Nat.le_refl _)) hn)
  have hL0 : LineAt (w.alloc (.cells #[.slice (A 0) (n 0) (c 0), .slice (A 1) (n 1) (c 1), .slice (A 2) (n 2) (c 2), .slice (A 3) (n 3) (c 3), .slice (A 4) (n 4) (c 4)] 24)) w.heap.size 0 A n c := ⟨by simp [go_sem], by simp [go_sem], by simp [go_sem], by simp [go_sem], by simp [go_sem]⟩
  have HL0 := Lib.hid hL0
  clear hL0
  cases hg : greatB n with
  | true =>
    rw [hg] at HG
    clear hA hn hnil h5 hg HK
    go_enter Tryz.func3, Tryz.ntmps3
    go_wp2_with fail
    refine (HG.out _).mono ?_
    rintro x w1 ⟨rfl, hb1⟩
    have hb1 : Below w.heap.size w w1 := ((Below.refl _ w).alloc (Nat.le_refl _) _).trans (hb1.mono (by simp))
    go_wp2_with fail
    refine (HV.out _).mono ?_
    rintro x w2 ⟨rfl, hb2⟩
    go_wp2
    go_ret
    exact ⟨rfl, bthen hb1 hb2 hb1.size⟩
  | false =>
    have hns : ∀ k, n k ≤ 100000 := fun k => by
      by_cases hk : k < 5
      · have := great_le hg k hk; omega
      · rw [h5 k (by omega)]; omega
    rw [hg] at HG
    clear hg
    by_cases hc : (chk l).2 = 0
    · have HLw := Lib.hid (fun W (hb : Below w.heap.size w W) => lower_ok A n c l W (hA.below hb (Nat.le_refl _)) hns hnil hc)
      have HC := Lib.hid (fun W (hb : Below w.heap.size w W) => lowClause_ok A n c l W (hA.below hb (Nat.le_refl _)) hns hnil hc)
      have HR := Lib.hid (fun W (hb : Below w.heap.size w W) => rlowClause_any A n c l W (hA.below hb (Nat.le_refl _)) hns)
      have HME := Lib.hid (fun W (hb : Below w.heap.size w W) => lmeans_any A n c l t W (hA.below hb (Nat.le_refl _)) hns)
      have HMay : Hid (∀ W, Calls Tryz.prog 12 #[.agg (clA (lineC l))] W (Ret (.bool true) W)) := fun W => by
        have := clmay_any (lineC l) W
        rwa [line_may] at this
      have HH := Lib.hid (fun b W h => has_line l t b W h)
      have HLd := Lib.hid (fun (W : World) b (h : RdCls W (some ⟨b, 0, none⟩) 1 [lineC l]) => rdCls_ld h)
      have HI := Lib.hid (cl_info (lineC l))
      have H1 := Lib.hid (clA_cells (lineC l))
      have Hs : Hid (30 = (clA (lineC l)).size) := rfl
      have eq1 : ∀ W, (binOp .eql 37 (.agg (clA (lineC l))) (.agg (clA (lineC l)))).run Tryz.prog W = .ok (.bool true) W := fun W => eql_cl (lineC l) W
      rw [hc] at HK
      clear hA hn hnil h5 hns hc
      generalize (chk l).1 = fd at *
      generalize meansL l t = R at *
      generalize lineC l = K at *
      generalize clA K = cs at *
      go_enter Tryz.func3, Tryz.ntmps3
      go_wp2_with fail
      refine (HG.out _).mono ?_
      rintro x w1 ⟨rfl, hq⟩
      have HL := Lib.hid (LineAt.below HL0.out (fun o => hq.cell (p := ⟨_, o, none⟩) (by simp)))
      have hb : Below w.heap.size w w1 := ((Below.refl _ w).alloc (Nat.le_refl _) _).trans (hq.mono (by simp))
      have hlt : w.heap.size < w1.heap.size := by have := hq.size; simp at this; omega
      clear HL0 hq HG
      obtain ⟨l0, l1, l2, l3, l4⟩ := lineAt_ld HL.out
      go_wp2_with fail
      clear l0 l1 l2 l3 l4
      refine (HLw.out _ hb).mono ?_
      rintro x w2 ⟨b, rfl, hr, hq⟩
      replace HL := Lib.hid (LineAt.below HL.out (fun o => hq.cell (p := ⟨_, o, none⟩) hlt))
      have hb2 := bthen hb hq hb.size
      have hlt2 : w.heap.size < w2.heap.size := Nat.lt_of_lt_of_le hlt hq.size
      have HR2 := Lib.hid hr
      clear hq hb hlt hr HLw
      obtain ⟨l0, l1, l2, l3, l4⟩ := lineAt_ld HL.out
      go_wp2_with fail
      clear l0 l1 l2 l3 l4
      refine (HC.out _ hb2).mono ?_
      rintro x w3 ⟨rfl, hq⟩
      replace HL := Lib.hid (LineAt.below HL.out (fun o => hq.cell (p := ⟨_, o, none⟩) hlt2))
      replace HR2 := Lib.hid (HR2.out.below hq (Nat.le_refl _))
      have hb3 := bthen hb2 hq hb2.size
      have hlt3 : w.heap.size < w3.heap.size := Nat.lt_of_lt_of_le hlt2 hq.size
      clear hq hb2 hlt2 HC
      go_wp2_with (first | (refine wp_store_new (by rfl) 37 _ _ rfl cs _ rfl rfl HI.out H1.out Hs.out ?_; intro w4 hq4 HS4 hz4; obtain ⟨l0, l1, l2, l3, l4⟩ := lineAt_ld (LineAt.below HL.out (fun o => hq4.cell (p := ⟨_, o, none⟩) hlt3))) | fail)
      clear l0 l1 l2 l3 l4
      replace HL := Lib.hid (LineAt.below HL.out (fun o => hq4.cell (p := ⟨_, o, none⟩) hlt3))
      replace HR2 := Lib.hid (HR2.out.below hq4 (Nat.le_refl _))
      have hb4 := bthen hb3 hq4 hb3.size
      have hlt4 : w.heap.size < w4.heap.size := Nat.lt_of_lt_of_le hlt3 hq4.size
      have HSx : Hid (∀ j v, cs[j]? = some v → w4.cell? ⟨w3.heap.size, j, none⟩ = some v) := arr_lies HS4
      clear hq4 HS4 hz4 hb3 hlt3
      generalize hB : w3.heap.size = B at *
      clear hB
      refine (HK.out _ hb4).mono ?_
      rintro x w5 ⟨rfl, hq⟩
      replace HL := Lib.hid (LineAt.below HL.out (fun o => hq.cell (p := ⟨_, o, none⟩) hlt4))
      replace HR2 := Lib.hid (HR2.out.below hq (Nat.le_refl _))
      have HS5 : Hid (∀ j v, cs[j]? = some v → w5.cell? ⟨B, j, none⟩ = some v) := fun j v hj => keepc hq (HSx.out j v hj)
      have hb5 := bthen hb4 hq hb4.size
      clear hq hb4 hlt4 HSx HK
      go_wp2_with fail
      obtain ⟨l0, l1, l2, l3, l4⟩ := lineAt_ld HL.out
      have h0' : ∀ y : Ext w5, y.W.cell? ⟨w.heap.size, 0, none⟩ = some (.slice (A 0) (n 0) (c 0)) := fun y => y.cell l0
      have h1' : ∀ y : Ext w5, y.W.cell? ⟨w.heap.size, 1, none⟩ = some (.slice (A 1) (n 1) (c 1)) := fun y => y.cell l1
      have h2' : ∀ y : Ext w5, y.W.cell? ⟨w.heap.size, 2, none⟩ = some (.slice (A 2) (n 2) (c 2)) := fun y => y.cell l2
      have h3' : ∀ y : Ext w5, y.W.cell? ⟨w.heap.size, 3, none⟩ = some (.slice (A 3) (n 3) (c 3)) := fun y => y.cell l3
      have h4' : ∀ y : Ext w5, y.W.cell? ⟨w.heap.size, 4, none⟩ = some (.slice (A 4) (n 4) (c 4)) := fun y => y.cell l4
      have HHx := Lib.hid (fun y : Ext w5 => HH.out b y.W (HR2.out.below y.h (Nat.le_refl _)))
      have HMx := Lib.hid (fun y : Ext w5 => HME.out y.W (bthen hb5 y.h hb5.size))
      have HRx := Lib.hid (fun y : Ext w5 => HR.out y.W (bthen hb5 y.h hb5.size))
      have HlA : Hid (∀ W, Grew w5 W → ∀ j v, cs[j]? = some v → W.cell? ⟨b, 0 + j, none⟩ = some v) := by
        rintro W ⟨y, rfl⟩ j v hj
        exact y.cell (HLd.out _ _ HR2.out j v hj)
      have HxA : Hid (∀ W, Grew w5 W → ∀ j v, cs[j]? = some v → W.cell? ⟨B, 0 + j, none⟩ = some v) := by
        rintro W ⟨y, rfl⟩ j v hj
        rw [Nat.zero_add]
        exact y.cell (HS5.out j v hj)
      clear l0 l1 l2 l3 l4 HL HME HH HR HR2 HS5 HLd
      refine wp_region_grew (by kernel_rfl) (by kernel_rfl) ?_
      (try simp only [Act.put, List.append, List.cons_append, List.nil_append])
      repeat (first | go_big_quiet_skip | (go_big_quiet_want; (first | ((first | refine quiet_load 37 _ rfl cs b 0 rfl Tryz.underlying37 rfl HI.out HlA.out ?_ | refine quiet_load 37 _ rfl cs B 0 rfl Tryz.underlying37 rfl HI.out HxA.out ?_); simp only [Act.put, List.setIfInBounds_toArray, List.set_cons_succ, List.set_cons_zero]; go_big_quiet_on) | (go_big_quiet_op; (first | go_big_quiet_on | go_big_quiet_call ((with_reducible first | exact ext_call _ (HRx.out _) | exact ext_call _ (HMay.out _) | exact ext_call _ (HHx.out _) | exact ext_call _ (HMx.out _) | exact ext_call _ (HV.out _))))))))
      refine wpQuiet_nil ?_
      rintro _ ⟨xw, rfl⟩
      have hbx := bthen hb5 (Ext.h xw) hb5.size
      go_wp2
      go_ret
      exact ⟨rfl, hbx⟩
    · have HLw := Lib.hid (fun W (hb : Below w.heap.size w W) => lower_bad A n c l W (hA.below hb (Nat.le_refl _)) hn hc)
      have HC := Lib.hid (fun W (hb : Below w.heap.size w W) => lowClause_bad A n c l W (hA.below hb (Nat.le_refl _)) hn hc)
      have HI := Lib.hid (cl_info zeroC)
      have H1 := Lib.hid (clA_cells zeroC)
      have Hs : Hid (30 = (clA zeroC).size) := rfl
      have eq1 : ∀ W, (binOp .eql 37 (.agg (clA zeroC)) (.agg #[.int .u64 0, .int .u64 0, .int .u64 0, .int .u64 0, .int .u64 0, .int .u64 0, .int .u64 0, .bool false, .int .i64 0, .bool false, .int .u64 0, .int .u64 0, .int .u64 0, .int .u64 0, .int .u64 0, .int .u64 0, .int .u64 0, .int .u64 0, .int .u64 0, .int .u64 0, .int .u64 0, .int .u64 0, .int .u64 0, .int .u64 0, .int .u64 0, .int .i64 0, .int .i64 0, .int .i64 0, .int .i64 0, .int .i64 0])).run Tryz.prog W = .ok (.bool true) W := fun W => eql_cl zeroC W
      have he : ((chk l).2 != 0) = true := by simpa using hc
      clear hA hn hnil h5 hns hc
      generalize (chk l).1 = fd at *
      generalize (chk l).2 = e at *
      generalize clA zeroC = cs at *
      go_enter Tryz.func3, Tryz.ntmps3
      go_wp2_with fail
      refine (HG.out _).mono ?_
      rintro x w1 ⟨rfl, hq⟩
      have HL := Lib.hid (LineAt.below HL0.out (fun o => hq.cell (p := ⟨_, o, none⟩) (by simp)))
      have hb : Below w.heap.size w w1 := ((Below.refl _ w).alloc (Nat.le_refl _) _).trans (hq.mono (by simp))
      have hlt : w.heap.size < w1.heap.size := by have := hq.size; simp at this; omega
      clear HL0 hq HG
      obtain ⟨l0, l1, l2, l3, l4⟩ := lineAt_ld HL.out
      go_wp2_with fail
      clear l0 l1 l2 l3 l4
      refine (HLw.out _ hb).mono ?_
      rintro x w2 ⟨rfl, hq⟩
      replace HL := Lib.hid (LineAt.below HL.out (fun o => hq.cell (p := ⟨_, o, none⟩) hlt))
      have hb2 := bthen hb hq hb.size
      have hlt2 : w.heap.size < w2.heap.size := Nat.lt_of_lt_of_le hlt hq.size
      clear hq hb hlt HLw
      obtain ⟨l0, l1, l2, l3, l4⟩ := lineAt_ld HL.out
      go_wp2_with fail
      clear l0 l1 l2 l3 l4
      refine (HC.out _ hb2).mono ?_
      rintro x w3 ⟨rfl, hq⟩
      replace HL := Lib.hid (LineAt.below HL.out (fun o => hq.cell (p := ⟨_, o, none⟩) hlt2))
      have hb3 := bthen hb2 hq hb2.size
      have hlt3 : w.heap.size < w3.heap.size := Nat.lt_of_lt_of_le hlt2 hq.size
      clear hq hb2 hlt2 HC
      go_wp2_with (first | (refine wp_store_new (by rfl) 37 _ _ rfl cs _ rfl rfl HI.out H1.out Hs.out ?_; intro w4 hq4 HS4 hz4; obtain ⟨l0, l1, l2, l3, l4⟩ := lineAt_ld (LineAt.below HL.out (fun o => hq4.cell (p := ⟨_, o, none⟩) hlt3))) | fail)
      clear l0 l1 l2 l3 l4
      have hb4 := bthen hb3 hq4 hb3.size
      have HSx : Hid (∀ j v, cs[j]? = some v → w4.cell? ⟨w3.heap.size, j, none⟩ = some v) := arr_lies HS4
      clear hq4 HS4 hz4 hb3 hlt3
      generalize hB : w3.heap.size = B at *
      clear hB
      refine (HK.out _ hb4).mono ?_
      rintro x w5 ⟨rfl, hq⟩
      have HS5 : Hid (∀ j v, cs[j]? = some v → w5.cell? ⟨B, 0 + j, none⟩ = some v) := lies0 (fun j v hj => keepc hq (HSx.out j v hj))
      have hb5 := bthen hb4 hq hb4.size
      clear hq hb4 HSx HK
      go_wp2_with (first | (refine wp_load_arr (by rfl) 37 _ rfl cs B 0 rfl Tryz.underlying37 rfl HI.out HS5.out ?_) | fail)
      refine (HV.out _).mono ?_
      rintro x w6 ⟨rfl, hq⟩
      go_wp2
      go_ret
      exact ⟨rfl, bthen hb5 hq hb5.size⟩
end Go.Proofs.YtochhmkdhdadhaaGreatDoor
