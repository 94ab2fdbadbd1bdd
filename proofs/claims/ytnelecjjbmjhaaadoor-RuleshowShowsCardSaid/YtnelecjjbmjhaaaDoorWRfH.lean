/- The walk of feriaref34.Show. -/
import Derived.Test.YtnelecjjbmjhaaaDoorWRfG
import Derived.Deep.CutRange
namespace Go.Proofs.YtnelecjjbmjhaaaDoor
open Go.RowKit
set_option linter.unusedSimpArgs false
set_option linter.unusedVariables false

def RetUN (k : Nat) (w : World) (e : Ending) (w' : World) : Prop := ∃ B, e = .returned (.slice (some ⟨B, 0, none⟩) 7 7) ∧ w'.cell? ⟨B, k, none⟩ = some (.string (strB (unNm k))) ∧ Below w.heap.size w w'
def unV (k : Nat) : Value := .string (strB (unNm k))
theorem names10_any (k : Nat) (hk : k < 7) (w : World) : Calls Tryd.prog 50 #[] w (RetUN k w) := by
  go_enter Tryd.func50, Tryd.ntmps50
  go_wp2
  go_ret
  refine ⟨_, rfl, ?_, by (repeat' (first | (with_reducible exact Below.refl _ _) | (with_reducible assumption) | (with_reducible refine below_drewN ?_ _) | (with_reducible refine Below.alloc ?_ ?_ _) | (with_reducible refine Below.drew ?_) | (with_reducible refine Below.setCell ?_ ?_ _) | go_size))⟩
  have h := arr_new w #[unV 0, unV 1, unV 2, unV 3, unV 4, unV 5, unV 6] 9 unV (by
    intro j hj
    obtain rfl | rfl | rfl | rfl | rfl | rfl | rfl : j = 0 ∨ j = 1 ∨ j = 2 ∨ j = 3 ∨ j = 4 ∨ j = 5 ∨ j = 6 := by simp at hj; omega
    all_goals rfl)
  exact h.1 k hk
theorem part_take {nm : List UInt8} {l : List (Int × Int)} {k : Nat} {x : Int × Int} (hx : l[k]? = some x) : partT nm ((l.take (k + 1)).map nthT) = (if k = 0 then nm else partT nm ((l.take k).map nthT) ++ [44]) ++ nthT x := by
  have hkl : k < l.length := (List.getElem?_eq_some_iff.1 hx).1
  unfold partT
  rw [List.take_add_one, hx, Option.toList_some, List.map_append, List.map_cons, List.map_nil, join_snoc]
  by_cases h0 : k = 0
  · subst h0; simp
  · have : (l.take k).map nthT ≠ [] := by
      intro e
      have := congrArg List.length e
      rw [List.length_map, List.length_take_of_le (by omega), List.length_nil] at this
      exact h0 this
    rw [if_neg this, if_neg h0, if_neg (by simp), if_neg this]
    simp
section
variable {r : RuV} {A : Nat → Option Addr} {n c : Nat → Nat} {w : World} (hA : RdRu w A n r)
include hA
set_option maxRecDepth 20000 in
set_option maxHeartbeats 16000000 in
theorem rshow34_ok (hn : ∀ k, n k ≤ 1000) (hwf : RuWf r) (hst : inC r.st = true) (hun : r.un ≠ -1 → inC r.un = true) (hfr : 0 ≤ r.fr ∧ r.fr ≤ 6) : Calls Tryd.prog 16 #[ruV r A n c] w (Ret (.string (strB (ruT r))) w) := by
  obtain ⟨k, hk0⟩ := Int.eq_ofNat_of_zero_le hfr.1
  have Hk := Lib.hid hk0
  have hk7 : k < 7 := by omega
  have hk7' : (k : Int) < 7 := by omega
  clear hk0
  have FB := Lib.hid (fun W => basic08_any r.st hst W)
  have zB : (strB (basicT r.st)).size ≤ 100 := by rw [strB_size]; exact basicT_len _
  have DB := Lib.hid (strB_data (basicT r.st))
  have FNm := Lib.hid (fun W => names10_any k hk7 W)
  unfold RetUN at FNm
  have HU : Hid (unT r.fr = unNm k) := by show _ = _; unfold unT; rw [if_pos (by omega), Hk.out, Int.toNat_natCast]
  have zU : (strB (unNm k)).size ≤ 8 := by rw [strB_size, ← HU.out]; exact unT_len _
  have DU := Lib.hid (strB_data (unNm k))
  have FI := Lib.hid (fun W => num_any r.iv hwf.iv W)
  have zI : (strB (Lib.itoa r.iv)).size ≤ 21 := itoa_size hwf.iv
  have DI := Lib.hid (strB_data (Lib.itoa r.iv))
  have FC := Lib.hid (fun W => num_any r.ct hwf.ct W)
  have zC : (strB (Lib.itoa r.ct)).size ≤ 21 := itoa_size hwf.ct
  have DC := Lib.hid (strB_data (Lib.itoa r.ct))
  have FN := Lib.hid (fun (h : r.un ≠ -1) W => basic08_any r.un (hun h) W)
  have zN : (strB (basicT r.un)).size ≤ 100 := by rw [strB_size]; exact basicT_len _
  have DN := Lib.hid (strB_data (basicT r.un))
  have Fmo := Lib.hid (fun W (hb : Below w.heap.size w W) => numbers34_any ⟨#[59, 66, 89, 77, 79, 78, 84, 72, 61]⟩ (A 5) (n 5) (c 5) r.mo (by decide) W (hA.mo.below hb (Nat.le_refl _)) (hn 5) hwf.mo)
  have zmo : (strB (partT [59, 66, 89, 77, 79, 78, 84, 72, 61] (r.mo.map Lib.itoa))).size ≤ 100020 := by
    rw [strB_size]
    refine partT_len (by decide) (fun x hx => ?_) (by rw [List.length_map, hA.mo.1]; exact hn 5)
    obtain ⟨y, hy, rfl⟩ := List.mem_map.1 hx
    have := itoa_le (hwf.mo y hy)
    omega
  have Dmo := Lib.hid (strB_data (partT [59, 66, 89, 77, 79, 78, 84, 72, 61] (r.mo.map Lib.itoa)))
  rw [show (⟨#[59, 66, 89, 77, 79, 78, 84, 72, 61]⟩ : ByteArray).data.toList = [59, 66, 89, 77, 79, 78, 84, 72, 61] from rfl] at Fmo
  have Fda := Lib.hid (fun W (hb : Below w.heap.size w W) => numbers34_any ⟨#[59, 66, 89, 77, 79, 78, 84, 72, 68, 65, 89, 61]⟩ (A 6) (n 6) (c 6) r.da (by decide) W (hA.da.below hb (Nat.le_refl _)) (hn 6) hwf.da)
  have zda : (strB (partT [59, 66, 89, 77, 79, 78, 84, 72, 68, 65, 89, 61] (r.da.map Lib.itoa))).size ≤ 100020 := by
    rw [strB_size]
    refine partT_len (by decide) (fun x hx => ?_) (by rw [List.length_map, hA.da.1]; exact hn 6)
    obtain ⟨y, hy, rfl⟩ := List.mem_map.1 hx
    have := itoa_le (hwf.da y hy)
    omega
  have Dda := Lib.hid (strB_data (partT [59, 66, 89, 77, 79, 78, 84, 72, 68, 65, 89, 61] (r.da.map Lib.itoa)))
  rw [show (⟨#[59, 66, 89, 77, 79, 78, 84, 72, 68, 65, 89, 61]⟩ : ByteArray).data.toList = [59, 66, 89, 77, 79, 78, 84, 72, 68, 65, 89, 61] from rfl] at Fda
  have Fho := Lib.hid (fun W (hb : Below w.heap.size w W) => numbers34_any ⟨#[59, 66, 89, 72, 79, 85, 82, 61]⟩ (A 8) (n 8) (c 8) r.ho (by decide) W (hA.ho.below hb (Nat.le_refl _)) (hn 8) hwf.ho)
  have zho : (strB (partT [59, 66, 89, 72, 79, 85, 82, 61] (r.ho.map Lib.itoa))).size ≤ 100020 := by
    rw [strB_size]
    refine partT_len (by decide) (fun x hx => ?_) (by rw [List.length_map, hA.ho.1]; exact hn 8)
    obtain ⟨y, hy, rfl⟩ := List.mem_map.1 hx
    have := itoa_le (hwf.ho y hy)
    omega
  have Dho := Lib.hid (strB_data (partT [59, 66, 89, 72, 79, 85, 82, 61] (r.ho.map Lib.itoa)))
  rw [show (⟨#[59, 66, 89, 72, 79, 85, 82, 61]⟩ : ByteArray).data.toList = [59, 66, 89, 72, 79, 85, 82, 61] from rfl] at Fho
  have Fmi := Lib.hid (fun W (hb : Below w.heap.size w W) => numbers34_any ⟨#[59, 66, 89, 77, 73, 78, 85, 84, 69, 61]⟩ (A 9) (n 9) (c 9) r.mi (by decide) W (hA.mi.below hb (Nat.le_refl _)) (hn 9) hwf.mi)
  have zmi : (strB (partT [59, 66, 89, 77, 73, 78, 85, 84, 69, 61] (r.mi.map Lib.itoa))).size ≤ 100020 := by
    rw [strB_size]
    refine partT_len (by decide) (fun x hx => ?_) (by rw [List.length_map, hA.mi.1]; exact hn 9)
    obtain ⟨y, hy, rfl⟩ := List.mem_map.1 hx
    have := itoa_le (hwf.mi y hy)
    omega
  have Dmi := Lib.hid (strB_data (partT [59, 66, 89, 77, 73, 78, 85, 84, 69, 61] (r.mi.map Lib.itoa)))
  rw [show (⟨#[59, 66, 89, 77, 73, 78, 85, 84, 69, 61]⟩ : ByteArray).data.toList = [59, 66, 89, 77, 73, 78, 85, 84, 69, 61] from rfl] at Fmi
  have Fse := Lib.hid (fun W (hb : Below w.heap.size w W) => numbers34_any ⟨#[59, 66, 89, 83, 69, 67, 79, 78, 68, 61]⟩ (A 10) (n 10) (c 10) r.se (by decide) W (hA.se.below hb (Nat.le_refl _)) (hn 10) hwf.se)
  have zse : (strB (partT [59, 66, 89, 83, 69, 67, 79, 78, 68, 61] (r.se.map Lib.itoa))).size ≤ 100020 := by
    rw [strB_size]
    refine partT_len (by decide) (fun x hx => ?_) (by rw [List.length_map, hA.se.1]; exact hn 10)
    obtain ⟨y, hy, rfl⟩ := List.mem_map.1 hx
    have := itoa_le (hwf.se y hy)
    omega
  have Dse := Lib.hid (strB_data (partT [59, 66, 89, 83, 69, 67, 79, 78, 68, 61] (r.se.map Lib.itoa)))
  rw [show (⟨#[59, 66, 89, 83, 69, 67, 79, 78, 68, 61]⟩ : ByteArray).data.toList = [59, 66, 89, 83, 69, 67, 79, 78, 68, 61] from rfl] at Fse
  have HWk := Lib.hid (fun W (hb : Below w.heap.size w W) => (hA.wk.below hb (Nat.le_refl _) : RdNths W (A 7) (n 7) r.wk))
  have HWf := Lib.hid hwf.wk
  have HLw : Hid (r.wk.length = n 7) := hA.wk.1
  have hn7 := hn 7
  have HPl : Hid (∀ q, (partT [59, 66, 89, 68, 65, 89, 61] ((r.wk.take q).map nthT)).length ≤ 100020) := fun q => partT_len (by decide) (fun x hx => by
    obtain ⟨y, hy, rfl⟩ := List.mem_map.1 hx
    have := nthT_len (hwf.wk y (List.mem_of_mem_take hy))
    omega) (by rw [List.length_map, List.length_take]; have := hA.wk.1; omega)
  have HV : Hid (ruT r = [68, 84, 83, 84, 65, 82, 84, 58] ++ basicT r.st ++ [10, 82, 82, 85, 76, 69, 58, 70, 82, 69, 81, 61] ++ unT r.fr ++ (unlT [59, 73, 78, 84, 69, 82, 86, 65, 76, 61] r.iv 1 (Lib.itoa r.iv) ++ unlT [59, 67, 79, 85, 78, 84, 61] r.ct 0 (Lib.itoa r.ct) ++ unlT [59, 85, 78, 84, 73, 76, 61] r.un (-1) (basicT r.un)) ++ (partT [59, 66, 89, 77, 79, 78, 84, 72, 61] (r.mo.map Lib.itoa) ++ partT [59, 66, 89, 77, 79, 78, 84, 72, 68, 65, 89, 61] (r.da.map Lib.itoa) ++ partT [59, 66, 89, 68, 65, 89, 61] (r.wk.map nthT)) ++ (partT [59, 66, 89, 72, 79, 85, 82, 61] (r.ho.map Lib.itoa) ++ partT [59, 66, 89, 77, 73, 78, 85, 84, 69, 61] (r.mi.map Lib.itoa) ++ partT [59, 66, 89, 83, 69, 67, 79, 78, 68, 61] (r.se.map Lib.itoa))) := rfl
  rw [HU.out] at HV
  have HE := Lib.hid (ruAt_new w r A n c 36)
  clear hA hn hwf hst hun hfr HU
  generalize strB (basicT r.st) = SB at *
  generalize strB (unNm k) = SU at *
  generalize strB (Lib.itoa r.iv) = SI at *
  generalize strB (Lib.itoa r.ct) = SC at *
  generalize strB (basicT r.un) = SN at *
  generalize strB (partT [59, 66, 89, 77, 79, 78, 84, 72, 61] (r.mo.map Lib.itoa)) = Smo at *
  generalize strB (partT [59, 66, 89, 77, 79, 78, 84, 72, 68, 65, 89, 61] (r.da.map Lib.itoa)) = Sda at *
  generalize strB (partT [59, 66, 89, 72, 79, 85, 82, 61] (r.ho.map Lib.itoa)) = Sho at *
  generalize strB (partT [59, 66, 89, 77, 73, 78, 85, 84, 69, 61] (r.mi.map Lib.itoa)) = Smi at *
  generalize strB (partT [59, 66, 89, 83, 69, 67, 79, 78, 68, 61] (r.se.map Lib.itoa)) = Sse at *
  generalize ruT r = R at *
  unfold ruV at *
  go_enter Tryd.func16, Tryd.ntmps16
  go_wp2
  generalize hW : World.alloc w _ = wr
  have hbW : Below w.heap.size w wr := by rw [← hW]; exact (Below.refl _ w).alloc (Nat.le_refl _) _
  have HEw : Hid (RuAt wr w.heap.size r A n c) := by rw [← hW]; exact HE.out
  clear hW HE
  have HS : Hid (∀ w', Below wr.heap.size wr w' → Below wr.heap.size wr w' ∧ w'.cell? ⟨w.heap.size, 0, none⟩ = some (.int .i64 r.st) ∧ w'.cell? ⟨w.heap.size, 1, none⟩ = some (.int .i64 (k : Int))) := by
    intro w' hW
    obtain ⟨x0, x1, x2, x3, x4, x5, x6, x7, x8, x9, x10⟩ := HEw.out.below hW
    exact ⟨hW, x0, by rw [x1, Hk.out]; try rfl⟩
  have y0 := (HS.out wr (Below.refl _ _)).2.1
  have y1 := (HS.out wr (Below.refl _ _)).2.2
  have q1 : ¬ 9223372036854775807 < 8 + SB.size := by omega
  have q2 : ¬ 9223372036854775807 < 8 + SB.size + 12 := by omega
  have q3 : ¬ 9223372036854775807 < 8 + SB.size + 12 + SU.size := by omega
  have hlt := HEw.out.lt
  go_cut [3] from 5 to 15 (fun s wx => s = .string (⟨#[68, 84, 83, 84, 65, 82, 84, 58]⟩ ++ SB ++ ⟨#[10, 82, 82, 85, 76, 69, 58, 70, 82, 69, 81, 61]⟩ ++ SU) ∧ Below wr.heap.size wr wx)
  case first =>
    go_region_with ((first | (go_at_call 49; refine (FB.out _).mono ?_; rintro e w1 ⟨rfl, hb1⟩; have hz1 : w.heap.size < w1.heap.size := Nat.lt_of_lt_of_le hlt hb1.size; have u1 : w1.cell? ⟨w.heap.size, 1, none⟩ = some (.int .i64 (k : Int)) := (hb1.cell (p := ⟨_, 1, none⟩) hlt).trans y1) | (go_at_call 50; refine (FNm.out _).mono ?_; rintro e w2 ⟨B, rfl, hcB, hb2⟩; have v1 : w2.cell? ⟨w.heap.size, 1, none⟩ = some (.int .i64 (k : Int)) := (hb2.cell (p := ⟨_, 1, none⟩) (by assumption)).trans (by assumption))))
    all_goals
      go_wp2_with fail
      go_meet
      exact ⟨rfl, bthen (bthen (Below.drew (Below.refl _ _)) hb1 (Nat.le_refl _)) hb2 hb1.size⟩
  case rest =>
    obtain ⟨rfl, hbc⟩ := hcut
    have HX0 : Hid ((⟨#[68, 84, 83, 84, 65, 82, 84, 58]⟩ ++ SB ++ ⟨#[10, 82, 82, 85, 76, 69, 58, 70, 82, 69, 81, 61]⟩ ++ SU : ByteArray).data.toList = [68, 84, 83, 84, 65, 82, 84, 58] ++ basicT r.st ++ [10, 82, 82, 85, 76, 69, 58, 70, 82, 69, 81, 61] ++ unNm k) := by
      show _ = _
      rw [str_app, str_app, str_app, DB.out, DU.out]
    have zX0 : (⟨#[68, 84, 83, 84, 65, 82, 84, 58]⟩ ++ SB ++ ⟨#[10, 82, 82, 85, 76, 69, 58, 70, 82, 69, 81, 61]⟩ ++ SU : ByteArray).size ≤ 200 := by
      simp only [ByteArray.size_append]
      have e1 : (⟨#[68, 84, 83, 84, 65, 82, 84, 58]⟩ : ByteArray).size = 8 := rfl
      have e2 : (⟨#[10, 82, 82, 85, 76, 69, 58, 70, 82, 69, 81, 61]⟩ : ByteArray).size = 12 := rfl
      omega
    generalize (⟨#[68, 84, 83, 84, 65, 82, 84, 58]⟩ ++ SB ++ ⟨#[10, 82, 82, 85, 76, 69, 58, 70, 82, 69, 81, 61]⟩ ++ SU : ByteArray) = X0 at *
    obtain ⟨x0, x1, x2, x3, x4, x5, x6, x7, x8, x9, x10⟩ := HEw.out.below hbc
    go_upto_if 18 with fail
    go_cut [3] from 16 to 24 (fun s wx => (∃ X : ByteArray, s = .string X ∧ Hid (X.data.toList = X0.data.toList ++ unlT [59, 73, 78, 84, 69, 82, 86, 65, 76, 61] r.iv 1 (Lib.itoa r.iv)) ∧ X.size ≤ 400) ∧ Below wr.heap.size wr wx)
    case first =>
      by_cases h : r.iv = 1
      · have HZ : Hid (unlT [59, 73, 78, 84, 69, 82, 86, 65, 76, 61] r.iv 1 (Lib.itoa r.iv) = []) := if_pos h
        go_wp2_with fail
        go_meet
        case rel => exact ⟨⟨_, rfl, by show _ = _; rw [HZ.out, List.append_nil], by omega⟩, by first | exact hbc | (repeat' (first | (with_reducible exact Below.refl _ _) | (with_reducible assumption) | (with_reducible refine below_drewN ?_ _) | (with_reducible refine Below.alloc ?_ ?_ _) | (with_reducible refine Below.drew ?_) | (with_reducible refine Below.setCell ?_ ?_ _) | go_size))⟩
      · have HZ : Hid (unlT [59, 73, 78, 84, 69, 82, 86, 65, 76, 61] r.iv 1 (Lib.itoa r.iv) = [59, 73, 78, 84, 69, 82, 86, 65, 76, 61] ++ (Lib.itoa r.iv)) := if_neg h
        go_wp2_with (refine (FI.out _).mono ?_; rintro e w1 ⟨rfl, hb1⟩)
        go_meet
        case rel => exact ⟨⟨_, rfl, by show _ = _; rw [HZ.out, str_app, str_app, DI.out, List.append_assoc], by simp only [ByteArray.size_append]; show _ + 10 + _ ≤ _; omega⟩, bthen hbc hb1 hbc.size⟩
    case rest =>
    obtain ⟨⟨X1, rfl, HX1, zX1⟩, hbd0⟩ := hcut
    clear x0 x1 x2 x3 x4 x5 x6 x7 x8 x9 x10
    obtain ⟨x0, x1, x2, x3, x4, x5, x6, x7, x8, x9, x10⟩ := HEw.out.below hbd0
    go_upto_if 27 with fail
    go_cut [3] from 25 to 33 (fun s wx => (∃ X : ByteArray, s = .string X ∧ Hid (X.data.toList = X1.data.toList ++ unlT [59, 67, 79, 85, 78, 84, 61] r.ct 0 (Lib.itoa r.ct)) ∧ X.size ≤ 600) ∧ Below wr.heap.size wr wx)
    case first =>
      by_cases h : r.ct = 0
      · have HZ : Hid (unlT [59, 67, 79, 85, 78, 84, 61] r.ct 0 (Lib.itoa r.ct) = []) := if_pos h
        go_wp2_with fail
        go_meet
        case rel => exact ⟨⟨_, rfl, by show _ = _; rw [HZ.out, List.append_nil], by omega⟩, by first | exact hbd0 | (repeat' (first | (with_reducible exact Below.refl _ _) | (with_reducible assumption) | (with_reducible refine below_drewN ?_ _) | (with_reducible refine Below.alloc ?_ ?_ _) | (with_reducible refine Below.drew ?_) | (with_reducible refine Below.setCell ?_ ?_ _) | go_size))⟩
      · have HZ : Hid (unlT [59, 67, 79, 85, 78, 84, 61] r.ct 0 (Lib.itoa r.ct) = [59, 67, 79, 85, 78, 84, 61] ++ (Lib.itoa r.ct)) := if_neg h
        go_wp2_with (refine (FC.out _).mono ?_; rintro e w1 ⟨rfl, hb1⟩)
        go_meet
        case rel => exact ⟨⟨_, rfl, by show _ = _; rw [HZ.out, str_app, str_app, DC.out, List.append_assoc], by simp only [ByteArray.size_append]; show _ + 7 + _ ≤ _; omega⟩, bthen hbd0 hb1 hbd0.size⟩
    case rest =>
    obtain ⟨⟨X2, rfl, HX2, zX2⟩, hbd1⟩ := hcut
    clear x0 x1 x2 x3 x4 x5 x6 x7 x8 x9 x10
    obtain ⟨x0, x1, x2, x3, x4, x5, x6, x7, x8, x9, x10⟩ := HEw.out.below hbd1
    go_upto_if 36 with fail
    go_cut [3] from 34 to 42 (fun s wx => (∃ X : ByteArray, s = .string X ∧ Hid (X.data.toList = X2.data.toList ++ unlT [59, 85, 78, 84, 73, 76, 61] r.un (-1) (basicT r.un)) ∧ X.size ≤ 800) ∧ Below wr.heap.size wr wx)
    case first =>
      by_cases h : r.un = (-1)
      · have HZ : Hid (unlT [59, 85, 78, 84, 73, 76, 61] r.un (-1) (basicT r.un) = []) := if_pos h
        go_wp2_with fail
        go_meet
        case rel => exact ⟨⟨_, rfl, by show _ = _; rw [HZ.out, List.append_nil], by omega⟩, by first | exact hbd1 | (repeat' (first | (with_reducible exact Below.refl _ _) | (with_reducible assumption) | (with_reducible refine below_drewN ?_ _) | (with_reducible refine Below.alloc ?_ ?_ _) | (with_reducible refine Below.drew ?_) | (with_reducible refine Below.setCell ?_ ?_ _) | go_size))⟩
      · have HZ : Hid (unlT [59, 85, 78, 84, 73, 76, 61] r.un (-1) (basicT r.un) = [59, 85, 78, 84, 73, 76, 61] ++ (basicT r.un)) := if_neg h
        go_wp2_with (refine (FN.out h _).mono ?_; rintro e w1 ⟨rfl, hb1⟩)
        go_meet
        case rel => exact ⟨⟨_, rfl, by show _ = _; rw [HZ.out, str_app, str_app, DN.out, List.append_assoc], by simp only [ByteArray.size_append]; show _ + 7 + _ ≤ _; omega⟩, bthen hbd1 hb1 hbd1.size⟩
    case rest =>
    obtain ⟨⟨X3, rfl, HX3, zX3⟩, hbd2⟩ := hcut
    clear x0 x1 x2 x3 x4 x5 x6 x7 x8 x9 x10
    obtain ⟨x0, x1, x2, x3, x4, x5, x6, x7, x8, x9, x10⟩ := HEw.out.below hbd2
    have hbC := bthen hbW hbd2 hbW.size
    have g5 : ∀ x : Ext wc, x.W.cell? ⟨w.heap.size, 5, none⟩ = some (.slice (A 5) (n 5) (c 5)) := fun x => x.cell x5
    have g6 : ∀ x : Ext wc, x.W.cell? ⟨w.heap.size, 6, none⟩ = some (.slice (A 6) (n 6) (c 6)) := fun x => x.cell x6
    go_wp2_with fail
    refine wp_region_grew (by kernel_rfl) (by kernel_rfl) ?_
    repeat (first | go_big_quiet_skip | (go_big_quiet_want; go_big_quiet_op; (first | go_big_quiet_on | go_big_quiet_call ((with_reducible first | exact ext_call _ (Fmo.out _ (bthen hbC (Ext.h _) hbC.size)) | exact ext_call _ (Fda.out _ (bthen hbC (Ext.h _) hbC.size)))))))
    refine wpQuiet_nil ?_
    rintro _ ⟨xw, rfl⟩
    have hb8 := bthen hbd2 xw.h hbd2.size
    clear g5 g6 x0 x1 x2 x3 x4 x5 x6 x7 x8 x9 x10
    have HP : Hid ((X3 ++ Smo ++ Sda : ByteArray).data.toList = X3.data.toList ++ Smo.data.toList ++ Sda.data.toList) := by show _ = _; rw [str_app, str_app]
    have zP : (X3 ++ Smo ++ Sda : ByteArray).size ≤ 300000 := by simp only [ByteArray.size_append]; omega
    generalize (X3 ++ Smo ++ Sda : ByteArray) = P at *
    go_wp2_with fail
    go_loopw [3, 4] (fun s i wl => ∃ (S : ByteArray) (q : Nat), s = .string S ∧ q ≤ n 7 ∧ i = .int .i64 q ∧ Hid (S.data.toList = P.data.toList ++ partT [59, 66, 89, 68, 65, 89, 61] ((r.wk.take q).map nthT)) ∧ Below wr.heap.size wr wl) (fun _ i _ => n 7 - (intOf i).toNat)
    case atStart => exact ⟨_, 0, rfl, Nat.zero_le _, rfl, (by show _ = _; rw [List.take_zero]; exact (List.append_nil _).symm), hb8⟩
    case round =>
      obtain ⟨S, q, rfl, hq, rfl, H, hb⟩ := hrel
      rename World => wr'
      have hsz := hb.size
      have hbw := bthen hbW hb hbW.size
      have hzS : S.size ≤ 500000 := by
        have e1 := congrArg List.length H.out
        rw [List.length_append] at e1
        have e2 := HPl.out q
        have e3 : S.data.toList.length = S.size := rfl
        have e4 : P.data.toList.length = P.size := rfl
        omega
      obtain ⟨x0, x1, x2, x3, x4, x5, x6, x7, x8, x9, x10⟩ := HEw.out.below hb
      by_cases hlt2 : q < n 7
      · obtain ⟨b, o, x, hA7, hbl, hx, c0, c1⟩ := RdNths.at_ (HWk.out _ hbw) hlt2
        rw [hA7] at x7
        clear hA7
        have hlt' : (q : Int) < (n 7 : Int) := by omega
        have hit : In64 x.1 := HWf.out _ (List.mem_of_getElem? hx)
        have HI := Lib.hid (fun W => weekday34_any x hit W)
        have hzI : (strB (nthT x)).size ≤ 100 := by rw [strB_size]; have := nthT_len hit; omega
        have HT := Lib.hid (part_take (nm := [59, 66, 89, 68, 65, 89, 61]) hx)
        clear hx hit
        obtain ⟨T, hT⟩ : ∃ T, T = strB (nthT x) := ⟨_, rfl⟩
        rw [← hT] at HI hzI
        have HTD : Hid (T.data.toList = nthT x) := by show _ = _; rw [hT]; exact strB_data _
        clear hT
        by_cases h0 : q = 0
        · subst h0
          simp only [Nat.zero_mul, Nat.add_zero] at c0 c1
          go_wp2_with (refine (HI.out _).mono ?_; rintro e w1 ⟨rfl, hb1⟩)
          have hb2 := bthen hb hb1 hsz
          try go_wp2
          go_roundw
          case rel =>
            refine ⟨_, 1, rfl, by omega, rfl, ?_, hb2⟩
            show _ = _
            rw [HT.out, if_pos trivial, str_app, str_app, HTD.out, H.out, List.take_zero, List.map_nil, List.append_assoc]
            rw [show partT [59, 66, 89, 68, 65, 89, 61] [] = [] from rfl, List.append_nil]
          case measure => simp [intOf]; omega
        · have h0' : (0 : Int) < (q : Int) := by omega
          have h0'' : ((q : Int) == 0) = false := by simp; omega
          go_wp2_with (refine (HI.out _).mono ?_; rintro e w1 ⟨rfl, hb1⟩)
          have hb2 := bthen hb hb1 hsz
          try go_wp2
          go_roundw
          case rel =>
            refine ⟨_, q + 1, rfl, by omega, by go_num, ?_, hb2⟩
            show _ = _
            rw [HT.out, if_neg h0, str_app, str_app, HTD.out, H.out]
            simp only [List.append_assoc]
          case measure => simp [intOf]; omega
      · have hq7 : q = n 7 := by omega
        subst hq7
        have HS2 : Hid (S.data.toList = P.data.toList ++ partT [59, 66, 89, 68, 65, 89, 61] (r.wk.map nthT)) := by
          show _ = _
          rw [H.out, List.take_of_length_le (by rw [HLw.out]; exact Nat.le_refl _)]
        have g8 : ∀ x : Ext wr', x.W.cell? ⟨w.heap.size, 8, none⟩ = some (.slice (A 8) (n 8) (c 8)) := fun x => x.cell x8
        have g9 : ∀ x : Ext wr', x.W.cell? ⟨w.heap.size, 9, none⟩ = some (.slice (A 9) (n 9) (c 9)) := fun x => x.cell x9
        have g10 : ∀ x : Ext wr', x.W.cell? ⟨w.heap.size, 10, none⟩ = some (.slice (A 10) (n 10) (c 10)) := fun x => x.cell x10
        go_wp2_with fail
        refine wp_region_grew (by kernel_rfl) (by kernel_rfl) ?_
        repeat (first | go_big_quiet_skip | (go_big_quiet_want; go_big_quiet_op; (first | go_big_quiet_on | go_big_quiet_call ((with_reducible first | exact ext_call _ (Fho.out _ (bthen hbw (Ext.h _) hbw.size)) | exact ext_call _ (Fmi.out _ (bthen hbw (Ext.h _) hbw.size)) | exact ext_call _ (Fse.out _ (bthen hbw (Ext.h _) hbw.size)))))))
        refine wpQuiet_nil ?_
        rintro _ ⟨xw, rfl⟩
        clear g8 g9 g10
        go_wp2
        go_ret
        exact ⟨ret_str (by rw [HV.out]; simp only [str_app, HS2.out, HP.out, HX3.out, HX2.out, HX1.out, HX0.out, Dmo.out, Dda.out, Dho.out, Dmi.out, Dse.out, List.append_assoc]), bthen hbw xw.h hbw.size⟩
end
end Go.Proofs.YtnelecjjbmjhaaaDoor
