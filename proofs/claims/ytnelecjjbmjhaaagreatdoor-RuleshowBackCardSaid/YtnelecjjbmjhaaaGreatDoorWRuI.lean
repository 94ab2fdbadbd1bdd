/- The walk of ruleshow.Show. -/
import Derived.Test.YtnelecjjbmjhaaaGreatDoorWRuH
namespace Go.Proofs.YtnelecjjbmjhaaaGreatDoor
open Go.RowKit
set_option linter.unusedSimpArgs false
set_option linter.unusedVariables false

/-- A rule's numbers are of 64 bits. -/
structure RuWf (r : RuV) : Prop where
  st : In64 r.st
  fr : In64 r.fr
  iv : In64 r.iv
  ct : In64 r.ct
  un : In64 r.un
  mo : ∀ x ∈ r.mo, In64 x
  da : ∀ x ∈ r.da, In64 x
  wk : ∀ x ∈ r.wk, In64 x.1
  ho : ∀ x ∈ r.ho, In64 x
  mi : ∀ x ∈ r.mi, In64 x
  se : ∀ x ∈ r.se, In64 x
theorem unlT_len {nm tx : List UInt8} {n q : Int} (h1 : nm.length ≤ 20) (h2 : tx.length ≤ 100) : (unlT nm n q tx).length ≤ 120 := by
  unfold unlT
  split
  · simp
  · rw [List.length_append]; omega
theorem partT_len {nm : List UInt8} {xs : List (List UInt8)} (h1 : nm.length ≤ 20) (h2 : ∀ x ∈ xs, x.length ≤ 60) (h3 : xs.length ≤ 1000) : (partT nm xs).length ≤ 100020 := by
  unfold partT
  split
  · simp
  · have := join_len xs [44] 60 h2
    simp at this
    rw [List.length_append]
    omega
/-- The text of a rule. -/
def ruT (r : RuV) : List UInt8 :=
  [68, 84, 83, 84, 65, 82, 84, 58] ++ basicT r.st ++ [10, 82, 82, 85, 76, 69, 58, 70, 82, 69, 81, 61] ++ unT r.fr ++ (unlT [59, 73, 78, 84, 69, 82, 86, 65, 76, 61] r.iv 1 (Lib.itoa r.iv) ++ unlT [59, 67, 79, 85, 78, 84, 61] r.ct 0 (Lib.itoa r.ct) ++ unlT [59, 85, 78, 84, 73, 76, 61] r.un (-1) (basicT r.un)) ++ (partT [59, 66, 89, 77, 79, 78, 84, 72, 61] (r.mo.map Lib.itoa) ++ partT [59, 66, 89, 77, 79, 78, 84, 72, 68, 65, 89, 61] (r.da.map Lib.itoa) ++ partT [59, 66, 89, 68, 65, 89, 61] (r.wk.map nthT)) ++ (partT [59, 66, 89, 72, 79, 85, 82, 61] (r.ho.map Lib.itoa) ++ partT [59, 66, 89, 77, 73, 78, 85, 84, 69, 61] (r.mi.map Lib.itoa) ++ partT [59, 66, 89, 83, 69, 67, 79, 78, 68, 61] (r.se.map Lib.itoa))
theorem rets2_eq2 {S : ByteArray} {l : List UInt8} {e : Int} (h : S.data.toList = l) : Ending.returned (.tuple #[.string S, .int .i64 e]) = .returned (.tuple #[.string (strB l), .int .i64 e]) := by rw [strB_of h]
section
variable {r : RuV} {A : Nat → Option Addr} {n c : Nat → Nat} {w : World} (hA : RdRu w A n r)
include hA
set_option maxRecDepth 20000 in
set_option maxHeartbeats 2000000 in
theorem rshow_bad (hn : ∀ k, n k ≤ 1000000) (hc : chkR r ≠ 0) : Calls Tryz.prog 9 #[ruV r A n c] w (Ret (.tuple #[.string ⟨#[]⟩, .int .i64 (chkR r)]) w) := by
  have HC := Lib.hid (fun W (hb : Below w.heap.size w W) => rcheck_all (c := c) (hA.below hb) hn)
  generalize chkR r = q at *
  have hc' : (q != 0) = true := by simpa using hc
  clear hc hA hn
  unfold ruV at *
  go_enter Tryz.func9, Tryz.ntmps9
  go_wp2_with fail
  refine (HC.out _ (by (repeat' (first | (with_reducible exact Below.refl _ _) | (with_reducible assumption) | (with_reducible refine below_drewN ?_ _) | (with_reducible refine Below.alloc ?_ ?_ _) | (with_reducible refine Below.drew ?_) | (with_reducible refine Below.setCell ?_ ?_ _) | go_size)))).mono ?_
  rintro e w1 ⟨rfl, hb1⟩
  go_wp2
  go_ret2
  exact ⟨rfl, ((Below.refl _ w).alloc (Nat.le_refl _) _).trans (hb1.mono (by simp))⟩
set_option maxRecDepth 20000 in
set_option maxHeartbeats 8000000 in
theorem rshow_ok (hn : ∀ k, n k ≤ 1000) (hwf : RuWf r) (hw : Pow w) (hc : chkR r = 0) : Calls Tryz.prog 9 #[ruV r A n c] w (Ret (.tuple #[.string (strB (ruT r)), .int .i64 0]) w) := by
  have HC := Lib.hid (fun W (hb : Below w.heap.size w W) => rcheck_all (c := c) (hA.below hb) (fun k => by have := hn k; omega))
  rw [hc] at HC
  have FB := Lib.hid (fun W (_ : Below w.heap.size w W) => basic_any r.st W)
  have zB : (strB (basicT r.st)).size ≤ 100 := by rw [strB_size]; exact basicT_len _
  have DB := Lib.hid (strB_data (basicT r.st))
  have FU := Lib.hid (fun W (_ : Below w.heap.size w W) => uname_any r.fr W)
  have zU : (strB (unT r.fr)).size ≤ 8 := by rw [strB_size]; exact unT_len _
  have DU := Lib.hid (strB_data (unT r.fr))
  have FI := Lib.hid (fun W (hb : Below w.heap.size w W) => unless_digits ⟨#[59, 73, 78, 84, 69, 82, 86, 65, 76, 61]⟩ r.iv 1 hwf.iv (by decide) W (tab_below hw hb))
  have zI : (strB (unlT [59, 73, 78, 84, 69, 82, 86, 65, 76, 61] r.iv 1 (Lib.itoa r.iv))).size ≤ 120 := by rw [strB_size]; exact unlT_len (by decide) (by have := itoa_le hwf.iv; omega)
  have DI := Lib.hid (strB_data (unlT [59, 73, 78, 84, 69, 82, 86, 65, 76, 61] r.iv 1 (Lib.itoa r.iv)))
  rw [show (⟨#[59, 73, 78, 84, 69, 82, 86, 65, 76, 61]⟩ : ByteArray).data.toList = [59, 73, 78, 84, 69, 82, 86, 65, 76, 61] from rfl] at FI
  have FC := Lib.hid (fun W (hb : Below w.heap.size w W) => unless_digits ⟨#[59, 67, 79, 85, 78, 84, 61]⟩ r.ct 0 hwf.ct (by decide) W (tab_below hw hb))
  have zC : (strB (unlT [59, 67, 79, 85, 78, 84, 61] r.ct 0 (Lib.itoa r.ct))).size ≤ 120 := by rw [strB_size]; exact unlT_len (by decide) (by have := itoa_le hwf.ct; omega)
  have DC := Lib.hid (strB_data (unlT [59, 67, 79, 85, 78, 84, 61] r.ct 0 (Lib.itoa r.ct)))
  rw [show (⟨#[59, 67, 79, 85, 78, 84, 61]⟩ : ByteArray).data.toList = [59, 67, 79, 85, 78, 84, 61] from rfl] at FC
  have FN := Lib.hid (fun W (hb : Below w.heap.size w W) => unless_basic ⟨#[59, 85, 78, 84, 73, 76, 61]⟩ r.un (-1) hwf.un (by decide) W (tab_below hw hb))
  have zN : (strB (unlT [59, 85, 78, 84, 73, 76, 61] r.un (-1) (basicT r.un))).size ≤ 120 := by rw [strB_size]; exact unlT_len (by decide) (basicT_len _)
  have DN := Lib.hid (strB_data (unlT [59, 85, 78, 84, 73, 76, 61] r.un (-1) (basicT r.un)))
  rw [show (⟨#[59, 85, 78, 84, 73, 76, 61]⟩ : ByteArray).data.toList = [59, 85, 78, 84, 73, 76, 61] from rfl] at FN
  have Fmo := Lib.hid (fun W (hb : Below w.heap.size w W) => rlistI_any ⟨#[59, 66, 89, 77, 79, 78, 84, 72, 61]⟩ (A 5) (n 5) (c 5) r.mo (by decide) W (hA.mo.below hb (Nat.le_refl _)) (hn 5) hwf.mo (tab_below hw hb))
  have zmo : (strB (partT [59, 66, 89, 77, 79, 78, 84, 72, 61] (r.mo.map Lib.itoa))).size ≤ 100020 := by
    rw [strB_size]
    refine partT_len (by decide) (fun x hx => ?_) (by rw [List.length_map, hA.mo.1]; exact hn 5)
    obtain ⟨y, hy, rfl⟩ := List.mem_map.1 hx
    have := itoa_le (hwf.mo y hy)
    omega
  have Dmo := Lib.hid (strB_data (partT [59, 66, 89, 77, 79, 78, 84, 72, 61] (r.mo.map Lib.itoa)))
  rw [show (⟨#[59, 66, 89, 77, 79, 78, 84, 72, 61]⟩ : ByteArray).data.toList = [59, 66, 89, 77, 79, 78, 84, 72, 61] from rfl] at Fmo
  have Fda := Lib.hid (fun W (hb : Below w.heap.size w W) => rlistI_any ⟨#[59, 66, 89, 77, 79, 78, 84, 72, 68, 65, 89, 61]⟩ (A 6) (n 6) (c 6) r.da (by decide) W (hA.da.below hb (Nat.le_refl _)) (hn 6) hwf.da (tab_below hw hb))
  have zda : (strB (partT [59, 66, 89, 77, 79, 78, 84, 72, 68, 65, 89, 61] (r.da.map Lib.itoa))).size ≤ 100020 := by
    rw [strB_size]
    refine partT_len (by decide) (fun x hx => ?_) (by rw [List.length_map, hA.da.1]; exact hn 6)
    obtain ⟨y, hy, rfl⟩ := List.mem_map.1 hx
    have := itoa_le (hwf.da y hy)
    omega
  have Dda := Lib.hid (strB_data (partT [59, 66, 89, 77, 79, 78, 84, 72, 68, 65, 89, 61] (r.da.map Lib.itoa)))
  rw [show (⟨#[59, 66, 89, 77, 79, 78, 84, 72, 68, 65, 89, 61]⟩ : ByteArray).data.toList = [59, 66, 89, 77, 79, 78, 84, 72, 68, 65, 89, 61] from rfl] at Fda
  have Fwk := Lib.hid (fun W (hb : Below w.heap.size w W) => rlistN_any ⟨#[59, 66, 89, 68, 65, 89, 61]⟩ (A 7) (n 7) (c 7) r.wk (by decide) W (hA.wk.below hb (Nat.le_refl _)) (hn 7) hwf.wk (tab_below hw hb))
  have zwk : (strB (partT [59, 66, 89, 68, 65, 89, 61] (r.wk.map nthT))).size ≤ 100020 := by
    rw [strB_size]
    refine partT_len (by decide) (fun x hx => ?_) (by rw [List.length_map, hA.wk.1]; exact hn 7)
    obtain ⟨y, hy, rfl⟩ := List.mem_map.1 hx
    have := nthT_len (hwf.wk y hy)
    omega
  have Dwk := Lib.hid (strB_data (partT [59, 66, 89, 68, 65, 89, 61] (r.wk.map nthT)))
  rw [show (⟨#[59, 66, 89, 68, 65, 89, 61]⟩ : ByteArray).data.toList = [59, 66, 89, 68, 65, 89, 61] from rfl] at Fwk
  have Fho := Lib.hid (fun W (hb : Below w.heap.size w W) => rlistI_any ⟨#[59, 66, 89, 72, 79, 85, 82, 61]⟩ (A 8) (n 8) (c 8) r.ho (by decide) W (hA.ho.below hb (Nat.le_refl _)) (hn 8) hwf.ho (tab_below hw hb))
  have zho : (strB (partT [59, 66, 89, 72, 79, 85, 82, 61] (r.ho.map Lib.itoa))).size ≤ 100020 := by
    rw [strB_size]
    refine partT_len (by decide) (fun x hx => ?_) (by rw [List.length_map, hA.ho.1]; exact hn 8)
    obtain ⟨y, hy, rfl⟩ := List.mem_map.1 hx
    have := itoa_le (hwf.ho y hy)
    omega
  have Dho := Lib.hid (strB_data (partT [59, 66, 89, 72, 79, 85, 82, 61] (r.ho.map Lib.itoa)))
  rw [show (⟨#[59, 66, 89, 72, 79, 85, 82, 61]⟩ : ByteArray).data.toList = [59, 66, 89, 72, 79, 85, 82, 61] from rfl] at Fho
  have Fmi := Lib.hid (fun W (hb : Below w.heap.size w W) => rlistI_any ⟨#[59, 66, 89, 77, 73, 78, 85, 84, 69, 61]⟩ (A 9) (n 9) (c 9) r.mi (by decide) W (hA.mi.below hb (Nat.le_refl _)) (hn 9) hwf.mi (tab_below hw hb))
  have zmi : (strB (partT [59, 66, 89, 77, 73, 78, 85, 84, 69, 61] (r.mi.map Lib.itoa))).size ≤ 100020 := by
    rw [strB_size]
    refine partT_len (by decide) (fun x hx => ?_) (by rw [List.length_map, hA.mi.1]; exact hn 9)
    obtain ⟨y, hy, rfl⟩ := List.mem_map.1 hx
    have := itoa_le (hwf.mi y hy)
    omega
  have Dmi := Lib.hid (strB_data (partT [59, 66, 89, 77, 73, 78, 85, 84, 69, 61] (r.mi.map Lib.itoa)))
  rw [show (⟨#[59, 66, 89, 77, 73, 78, 85, 84, 69, 61]⟩ : ByteArray).data.toList = [59, 66, 89, 77, 73, 78, 85, 84, 69, 61] from rfl] at Fmi
  have Fse := Lib.hid (fun W (hb : Below w.heap.size w W) => rlistI_any ⟨#[59, 66, 89, 83, 69, 67, 79, 78, 68, 61]⟩ (A 10) (n 10) (c 10) r.se (by decide) W (hA.se.below hb (Nat.le_refl _)) (hn 10) hwf.se (tab_below hw hb))
  have zse : (strB (partT [59, 66, 89, 83, 69, 67, 79, 78, 68, 61] (r.se.map Lib.itoa))).size ≤ 100020 := by
    rw [strB_size]
    refine partT_len (by decide) (fun x hx => ?_) (by rw [List.length_map, hA.se.1]; exact hn 10)
    obtain ⟨y, hy, rfl⟩ := List.mem_map.1 hx
    have := itoa_le (hwf.se y hy)
    omega
  have Dse := Lib.hid (strB_data (partT [59, 66, 89, 83, 69, 67, 79, 78, 68, 61] (r.se.map Lib.itoa)))
  rw [show (⟨#[59, 66, 89, 83, 69, 67, 79, 78, 68, 61]⟩ : ByteArray).data.toList = [59, 66, 89, 83, 69, 67, 79, 78, 68, 61] from rfl] at Fse
  have HV : Hid (ruT r = [68, 84, 83, 84, 65, 82, 84, 58] ++ basicT r.st ++ [10, 82, 82, 85, 76, 69, 58, 70, 82, 69, 81, 61] ++ unT r.fr ++ (unlT [59, 73, 78, 84, 69, 82, 86, 65, 76, 61] r.iv 1 (Lib.itoa r.iv) ++ unlT [59, 67, 79, 85, 78, 84, 61] r.ct 0 (Lib.itoa r.ct) ++ unlT [59, 85, 78, 84, 73, 76, 61] r.un (-1) (basicT r.un)) ++ (partT [59, 66, 89, 77, 79, 78, 84, 72, 61] (r.mo.map Lib.itoa) ++ partT [59, 66, 89, 77, 79, 78, 84, 72, 68, 65, 89, 61] (r.da.map Lib.itoa) ++ partT [59, 66, 89, 68, 65, 89, 61] (r.wk.map nthT)) ++ (partT [59, 66, 89, 72, 79, 85, 82, 61] (r.ho.map Lib.itoa) ++ partT [59, 66, 89, 77, 73, 78, 85, 84, 69, 61] (r.mi.map Lib.itoa) ++ partT [59, 66, 89, 83, 69, 67, 79, 78, 68, 61] (r.se.map Lib.itoa))) := rfl
  have HE := Lib.hid (ruAt_new w r A n c 25)
  clear hA hn hwf hw hc
  generalize strB (basicT r.st) = SB at *
  generalize strB (unT r.fr) = SU at *
  generalize strB (unlT [59, 73, 78, 84, 69, 82, 86, 65, 76, 61] r.iv 1 (Lib.itoa r.iv)) = SI at *
  generalize strB (unlT [59, 67, 79, 85, 78, 84, 61] r.ct 0 (Lib.itoa r.ct)) = SC at *
  generalize strB (unlT [59, 85, 78, 84, 73, 76, 61] r.un (-1) (basicT r.un)) = SN at *
  generalize strB (partT [59, 66, 89, 77, 79, 78, 84, 72, 61] (r.mo.map Lib.itoa)) = Smo at *
  generalize strB (partT [59, 66, 89, 77, 79, 78, 84, 72, 68, 65, 89, 61] (r.da.map Lib.itoa)) = Sda at *
  generalize strB (partT [59, 66, 89, 68, 65, 89, 61] (r.wk.map nthT)) = Swk at *
  generalize strB (partT [59, 66, 89, 72, 79, 85, 82, 61] (r.ho.map Lib.itoa)) = Sho at *
  generalize strB (partT [59, 66, 89, 77, 73, 78, 85, 84, 69, 61] (r.mi.map Lib.itoa)) = Smi at *
  generalize strB (partT [59, 66, 89, 83, 69, 67, 79, 78, 68, 61] (r.se.map Lib.itoa)) = Sse at *
  generalize ruT r = R at *
  unfold ruV at *
  go_enter Tryz.func9, Tryz.ntmps9
  go_wp2_with fail
  refine (HC.out _ (by (repeat' (first | (with_reducible exact Below.refl _ _) | (with_reducible assumption) | (with_reducible refine below_drewN ?_ _) | (with_reducible refine Below.alloc ?_ ?_ _) | (with_reducible refine Below.drew ?_) | (with_reducible refine Below.setCell ?_ ?_ _) | go_size)))).mono ?_
  rintro e w1 ⟨rfl, hb1⟩
  have hbW : Below w.heap.size w w1 := ((Below.refl _ w).alloc (Nat.le_refl _) _).trans (hb1.mono (by simp))
  have HE1 := Lib.hid (HE.out.below hb1)
  clear hb1 HE HC
  go_wp2
  have c0 := fun x : Ext w1 => x.cell HE1.out.h0
  have c1 := fun x : Ext w1 => x.cell HE1.out.h1
  have c2 := fun x : Ext w1 => x.cell HE1.out.h2
  have c3 := fun x : Ext w1 => x.cell HE1.out.h3
  have c4 := fun x : Ext w1 => x.cell HE1.out.h4
  have c5 := fun x : Ext w1 => x.cell HE1.out.h5
  have c6 := fun x : Ext w1 => x.cell HE1.out.h6
  have c7 := fun x : Ext w1 => x.cell HE1.out.h7
  have c8 := fun x : Ext w1 => x.cell HE1.out.h8
  have c9 := fun x : Ext w1 => x.cell HE1.out.h9
  have c10 := fun x : Ext w1 => x.cell HE1.out.h10
  refine wp_region_grew (by kernel_rfl) (by kernel_rfl) ?_
  repeat (first | go_big_quiet_skip | (go_big_quiet_want; go_big_quiet_op; (first | go_big_quiet_on | go_big_quiet_call ((with_reducible first | exact ext_call _ (FB.out _ (bthen hbW (Ext.h _) hbW.size)) | exact ext_call _ (FU.out _ (bthen hbW (Ext.h _) hbW.size)))))))
  refine wpQuiet_nil ?_
  rintro _ ⟨xw, rfl⟩
  clear c0 c1 c2 c3 c4 c5 c6 c7 c8 c9 c10
  obtain ⟨w2, hw2⟩ := xw
  dsimp only
  have HE2 := Lib.hid (HE1.out.below hw2)
  have hbW2 := bthen hbW hw2 hbW.size
  clear hbW hw2 HE1
  have hbW := hbW2
  clear hbW2
  go_wp2
  have c0 := fun x : Ext w2 => x.cell HE2.out.h0
  have c1 := fun x : Ext w2 => x.cell HE2.out.h1
  have c2 := fun x : Ext w2 => x.cell HE2.out.h2
  have c3 := fun x : Ext w2 => x.cell HE2.out.h3
  have c4 := fun x : Ext w2 => x.cell HE2.out.h4
  have c5 := fun x : Ext w2 => x.cell HE2.out.h5
  have c6 := fun x : Ext w2 => x.cell HE2.out.h6
  have c7 := fun x : Ext w2 => x.cell HE2.out.h7
  have c8 := fun x : Ext w2 => x.cell HE2.out.h8
  have c9 := fun x : Ext w2 => x.cell HE2.out.h9
  have c10 := fun x : Ext w2 => x.cell HE2.out.h10
  refine wp_region_grew (by kernel_rfl) (by kernel_rfl) ?_
  repeat (first | go_big_quiet_skip | (go_big_quiet_want; go_big_quiet_op; (first | go_big_quiet_on | go_big_quiet_call ((with_reducible first | exact ext_call _ (FI.out _ (bthen hbW (Ext.h _) hbW.size)) | exact ext_call _ (FC.out _ (bthen hbW (Ext.h _) hbW.size)) | exact ext_call _ (FN.out _ (bthen hbW (Ext.h _) hbW.size)))))))
  refine wpQuiet_nil ?_
  rintro _ ⟨xw, rfl⟩
  clear c0 c1 c2 c3 c4 c5 c6 c7 c8 c9 c10
  obtain ⟨w3, hw2⟩ := xw
  dsimp only
  have HE3 := Lib.hid (HE2.out.below hw2)
  have hbW2 := bthen hbW hw2 hbW.size
  clear hbW hw2 HE2
  have hbW := hbW2
  clear hbW2
  go_wp2
  have c0 := fun x : Ext w3 => x.cell HE3.out.h0
  have c1 := fun x : Ext w3 => x.cell HE3.out.h1
  have c2 := fun x : Ext w3 => x.cell HE3.out.h2
  have c3 := fun x : Ext w3 => x.cell HE3.out.h3
  have c4 := fun x : Ext w3 => x.cell HE3.out.h4
  have c5 := fun x : Ext w3 => x.cell HE3.out.h5
  have c6 := fun x : Ext w3 => x.cell HE3.out.h6
  have c7 := fun x : Ext w3 => x.cell HE3.out.h7
  have c8 := fun x : Ext w3 => x.cell HE3.out.h8
  have c9 := fun x : Ext w3 => x.cell HE3.out.h9
  have c10 := fun x : Ext w3 => x.cell HE3.out.h10
  refine wp_region_grew (by kernel_rfl) (by kernel_rfl) ?_
  repeat (first | go_big_quiet_skip | (go_big_quiet_want; go_big_quiet_op; (first | go_big_quiet_on | go_big_quiet_call ((with_reducible first | exact ext_call _ (Fmo.out _ (bthen hbW (Ext.h _) hbW.size)) | exact ext_call _ (Fda.out _ (bthen hbW (Ext.h _) hbW.size)) | exact ext_call _ (Fwk.out _ (bthen hbW (Ext.h _) hbW.size)))))))
  refine wpQuiet_nil ?_
  rintro _ ⟨xw, rfl⟩
  clear c0 c1 c2 c3 c4 c5 c6 c7 c8 c9 c10
  obtain ⟨w4, hw2⟩ := xw
  dsimp only
  have HE4 := Lib.hid (HE3.out.below hw2)
  have hbW2 := bthen hbW hw2 hbW.size
  clear hbW hw2 HE3
  have hbW := hbW2
  clear hbW2
  go_wp2
  have c0 := fun x : Ext w4 => x.cell HE4.out.h0
  have c1 := fun x : Ext w4 => x.cell HE4.out.h1
  have c2 := fun x : Ext w4 => x.cell HE4.out.h2
  have c3 := fun x : Ext w4 => x.cell HE4.out.h3
  have c4 := fun x : Ext w4 => x.cell HE4.out.h4
  have c5 := fun x : Ext w4 => x.cell HE4.out.h5
  have c6 := fun x : Ext w4 => x.cell HE4.out.h6
  have c7 := fun x : Ext w4 => x.cell HE4.out.h7
  have c8 := fun x : Ext w4 => x.cell HE4.out.h8
  have c9 := fun x : Ext w4 => x.cell HE4.out.h9
  have c10 := fun x : Ext w4 => x.cell HE4.out.h10
  refine wp_region_grew (by kernel_rfl) (by kernel_rfl) ?_
  repeat (first | go_big_quiet_skip | (go_big_quiet_want; go_big_quiet_op; (first | go_big_quiet_on | go_big_quiet_call ((with_reducible first | exact ext_call _ (Fho.out _ (bthen hbW (Ext.h _) hbW.size)) | exact ext_call _ (Fmi.out _ (bthen hbW (Ext.h _) hbW.size)) | exact ext_call _ (Fse.out _ (bthen hbW (Ext.h _) hbW.size)))))))
  refine wpQuiet_nil ?_
  rintro _ ⟨xw, rfl⟩
  clear c0 c1 c2 c3 c4 c5 c6 c7 c8 c9 c10
  go_wp2
  go_ret2
  exact ⟨rets2_eq2 (by rw [HV.out]; simp only [str_app, DB.out, DU.out, DI.out, DC.out, DN.out, Dmo.out, Dda.out, Dwk.out, Dho.out, Dmi.out, Dse.out]), bthen hbW xw.h hbW.size⟩
end
end Go.Proofs.YtnelecjjbmjhaaaGreatDoor
