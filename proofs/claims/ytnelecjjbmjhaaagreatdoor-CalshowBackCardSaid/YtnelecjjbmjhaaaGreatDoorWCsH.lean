/- The walk of feriaref30.Show. -/
import Derived.Test.YtnelecjjbmjhaaaGreatDoorWCsF
namespace Go.Proofs.YtnelecjjbmjhaaaGreatDoor
open Go.RowKit
set_option linter.unusedSimpArgs false
set_option linter.unusedVariables false

set_option maxRecDepth 20000 in
set_option maxHeartbeats 4000000 in
theorem rshow30_ok (c : CalV) (A : Nat → Option Addr) (n m : Nat → Nat) (w : World) (hA : RdEv w A n c) (hn : ∀ j, j < 8 → j ≠ 4 → n j ≤ 1000) (hwf : ∀ j, j < 7 → ∀ it ∈ kget c j, it.wf) :
    Calls Tryz.prog 20 #[evV A n m c.back] w (Ret (.string (strB (evT c))) w) := by
  have HF := Lib.hid (fun (k : Nat) (hk : k < 7) W (hb : Below w.heap.size w W) => by
    have := rfield30_any c A n m c.back (k : Int) W (hA.below hb) hn hwf
    rw [fieldOf_at c hk] at this
    exact this)
  have HZ := Lib.hid (fun (k : Nat) (hk : k < 7) => cfT_le (f := (k : Int)) (hwf k hk) (kget_len c hA hn hk))
  have HL0 : Hid ((kget c 0).length = n 0) := (hA.slot (k := 0) (by decide)).1
  have hE : evT c = (if c.week = [] then [] else cfT 0 (kget c 0) ++ [32]) ++ (cfT 1 (kget c 1) ++ 45 :: (cfT 2 (kget c 2) ++ (if c.back then 126 else 45) :: cfT 3 (kget c 3)) ++ 32 :: (cfT 4 (kget c 4) ++ 58 :: (cfT 5 (kget c 5) ++ 58 :: cfT 6 (kget c 6)))) := rfl
  have HE := Lib.hid hE
  clear hE hA hn hwf
  have F0 : Hid (∀ W, Below w.heap.size w W → Calls Tryz.prog 16 #[evV A n m c.back, .int .i64 0] W (Ret (.string (strB (cfT 0 (kget c 0)))) W)) := fun W hb => HF.out 0 (by decide) W hb
  have z0 : (strB (cfT 0 (kget c 0))).size ≤ 101000 := by rw [strB_size]; exact HZ.out 0 (by decide)
  have D0 := Lib.hid (strB_data (cfT 0 (kget c 0)))
  have F1 : Hid (∀ W, Below w.heap.size w W → Calls Tryz.prog 16 #[evV A n m c.back, .int .i64 1] W (Ret (.string (strB (cfT 1 (kget c 1)))) W)) := fun W hb => HF.out 1 (by decide) W hb
  have z1 : (strB (cfT 1 (kget c 1))).size ≤ 101000 := by rw [strB_size]; exact HZ.out 1 (by decide)
  have D1 := Lib.hid (strB_data (cfT 1 (kget c 1)))
  have F2 : Hid (∀ W, Below w.heap.size w W → Calls Tryz.prog 16 #[evV A n m c.back, .int .i64 2] W (Ret (.string (strB (cfT 2 (kget c 2)))) W)) := fun W hb => HF.out 2 (by decide) W hb
  have z2 : (strB (cfT 2 (kget c 2))).size ≤ 101000 := by rw [strB_size]; exact HZ.out 2 (by decide)
  have D2 := Lib.hid (strB_data (cfT 2 (kget c 2)))
  have F3 : Hid (∀ W, Below w.heap.size w W → Calls Tryz.prog 16 #[evV A n m c.back, .int .i64 3] W (Ret (.string (strB (cfT 3 (kget c 3)))) W)) := fun W hb => HF.out 3 (by decide) W hb
  have z3 : (strB (cfT 3 (kget c 3))).size ≤ 101000 := by rw [strB_size]; exact HZ.out 3 (by decide)
  have D3 := Lib.hid (strB_data (cfT 3 (kget c 3)))
  have F4 : Hid (∀ W, Below w.heap.size w W → Calls Tryz.prog 16 #[evV A n m c.back, .int .i64 4] W (Ret (.string (strB (cfT 4 (kget c 4)))) W)) := fun W hb => HF.out 4 (by decide) W hb
  have z4 : (strB (cfT 4 (kget c 4))).size ≤ 101000 := by rw [strB_size]; exact HZ.out 4 (by decide)
  have D4 := Lib.hid (strB_data (cfT 4 (kget c 4)))
  have F5 : Hid (∀ W, Below w.heap.size w W → Calls Tryz.prog 16 #[evV A n m c.back, .int .i64 5] W (Ret (.string (strB (cfT 5 (kget c 5)))) W)) := fun W hb => HF.out 5 (by decide) W hb
  have z5 : (strB (cfT 5 (kget c 5))).size ≤ 101000 := by rw [strB_size]; exact HZ.out 5 (by decide)
  have D5 := Lib.hid (strB_data (cfT 5 (kget c 5)))
  have F6 : Hid (∀ W, Below w.heap.size w W → Calls Tryz.prog 16 #[evV A n m c.back, .int .i64 6] W (Ret (.string (strB (cfT 6 (kget c 6)))) W)) := fun W hb => HF.out 6 (by decide) W hb
  have z6 : (strB (cfT 6 (kget c 6))).size ≤ 101000 := by rw [strB_size]; exact HZ.out 6 (by decide)
  have D6 := Lib.hid (strB_data (cfT 6 (kget c 6)))
  clear HF HZ
  have HEv := Lib.hid (evAt_new w A n m c.back 40)
  generalize c.back = bk at *
  generalize strB (cfT 0 (kget c 0)) = T0 at *
  generalize strB (cfT 1 (kget c 1)) = T1 at *
  generalize strB (cfT 2 (kget c 2)) = T2 at *
  generalize strB (cfT 3 (kget c 3)) = T3 at *
  generalize strB (cfT 4 (kget c 4)) = T4 at *
  generalize strB (cfT 5 (kget c 5)) = T5 at *
  generalize strB (cfT 6 (kget c 6)) = T6 at *
  generalize evT c = R at *
  have hw0 : c.week = [] ↔ n 0 = 0 := by
    rw [← HL0.out]; show c.week = [] ↔ c.week.length = 0
    exact List.length_eq_zero_iff.symm
  by_cases hwk : c.week = []
  · have h0 : n 0 = 0 := hw0.1 hwk
    have HQ := HE.out
    rw [if_pos hwk] at HQ
    have HQ := Lib.hid HQ
    have h0' : ¬ (0 : Int) < ((n 0 : Nat) : Int) := by omega
    clear hwk hw0 HE h0 HL0 F0 z0 D0
    cases bk with
    | false => unfold evV at *
               go_enter Tryz.func20, Tryz.ntmps20
               go_wp2
               generalize hW : World.alloc w _ = W1
               have hbW : Below w.heap.size w W1 := by rw [← hW]; exact (Below.refl _ w).alloc (Nat.le_refl _) _
               have HEw : Hid (EvAt W1 w.heap.size A n m false) := by rw [← hW]; exact HEv.out
               clear hW HEv
               have c0 := fun x : Ext W1 => x.cell HEw.out.h0
               have c1 := fun x : Ext W1 => x.cell HEw.out.h1
               have c2 := fun x : Ext W1 => x.cell HEw.out.h2
               have c3 := fun x : Ext W1 => x.cell HEw.out.h3
               have c4 := fun x : Ext W1 => x.cell HEw.out.h4
               have c5 := fun x : Ext W1 => x.cell HEw.out.h5
               have c6 := fun x : Ext W1 => x.cell HEw.out.h6
               have c7 := fun x : Ext W1 => x.cell HEw.out.h7
               refine wp_region_grew (by kernel_rfl) (by kernel_rfl) ?_
               repeat (first | go_big_quiet_skip | (go_big_quiet_want; go_big_quiet_op; (first | go_big_quiet_on | go_big_quiet_call ((with_reducible first | exact ext_call _ (F1.out _ (bthen hbW (Ext.h _) hbW.size)) | exact ext_call _ (F2.out _ (bthen hbW (Ext.h _) hbW.size)) | exact ext_call _ (F3.out _ (bthen hbW (Ext.h _) hbW.size)) | exact ext_call _ (F4.out _ (bthen hbW (Ext.h _) hbW.size)) | exact ext_call _ (F5.out _ (bthen hbW (Ext.h _) hbW.size)) | exact ext_call _ (F6.out _ (bthen hbW (Ext.h _) hbW.size)))))))
               refine wpQuiet_nil ?_
               rintro _ ⟨xw, rfl⟩
               go_wp2
               go_ret
               exact ⟨ret_str (by rw [HQ.out]; simp only [str_app, D1.out, D2.out, D3.out, D4.out, D5.out, D6.out]; simp), bthen hbW xw.h hbW.size⟩
    | true => unfold evV at *
              go_enter Tryz.func20, Tryz.ntmps20
              go_wp2
              generalize hW : World.alloc w _ = W1
              have hbW : Below w.heap.size w W1 := by rw [← hW]; exact (Below.refl _ w).alloc (Nat.le_refl _) _
              have HEw : Hid (EvAt W1 w.heap.size A n m true) := by rw [← hW]; exact HEv.out
              clear hW HEv
              have c0 := fun x : Ext W1 => x.cell HEw.out.h0
              have c1 := fun x : Ext W1 => x.cell HEw.out.h1
              have c2 := fun x : Ext W1 => x.cell HEw.out.h2
              have c3 := fun x : Ext W1 => x.cell HEw.out.h3
              have c4 := fun x : Ext W1 => x.cell HEw.out.h4
              have c5 := fun x : Ext W1 => x.cell HEw.out.h5
              have c6 := fun x : Ext W1 => x.cell HEw.out.h6
              have c7 := fun x : Ext W1 => x.cell HEw.out.h7
              refine wp_region_grew (by kernel_rfl) (by kernel_rfl) ?_
              repeat (first | go_big_quiet_skip | (go_big_quiet_want; go_big_quiet_op; (first | go_big_quiet_on | go_big_quiet_call ((with_reducible first | exact ext_call _ (F1.out _ (bthen hbW (Ext.h _) hbW.size)) | exact ext_call _ (F2.out _ (bthen hbW (Ext.h _) hbW.size)) | exact ext_call _ (F3.out _ (bthen hbW (Ext.h _) hbW.size)) | exact ext_call _ (F4.out _ (bthen hbW (Ext.h _) hbW.size)) | exact ext_call _ (F5.out _ (bthen hbW (Ext.h _) hbW.size)) | exact ext_call _ (F6.out _ (bthen hbW (Ext.h _) hbW.size)))))))
              refine wpQuiet_nil ?_
              rintro _ ⟨xw, rfl⟩
              go_wp2
              go_ret
              exact ⟨ret_str (by rw [HQ.out]; simp only [str_app, D1.out, D2.out, D3.out, D4.out, D5.out, D6.out]; simp), bthen hbW xw.h hbW.size⟩
  · have h0 : ¬ n 0 = 0 := fun h => hwk (hw0.2 h)
    have HQ := HE.out
    rw [if_neg hwk] at HQ
    have HQ := Lib.hid HQ
    have h0' : (0 : Int) < ((n 0 : Nat) : Int) := by omega
    clear hwk hw0 HE h0 HL0
    cases bk with
    | false => unfold evV at *
               go_enter Tryz.func20, Tryz.ntmps20
               go_wp2_with fail
               refine (F0.out _ (by (repeat' (first | (with_reducible exact Below.refl _ _) | (with_reducible assumption) | (with_reducible refine below_drewN ?_ _) | (with_reducible refine Below.alloc ?_ ?_ _) | (with_reducible refine Below.drew ?_) | (with_reducible refine Below.setCell ?_ ?_ _) | go_size)))).mono ?_
               rintro e W1 ⟨rfl, hb1⟩
               have hbW : Below w.heap.size w W1 := ((Below.refl _ w).alloc (Nat.le_refl _) _).trans (hb1.mono (by simp))
               have HEw := Lib.hid (HEv.out.below hb1)
               clear hb1 HEv
               obtain ⟨y0, y1, y2, y3, y4, y5, y6, y7⟩ := HEw.out
               go_wp2
               clear y0 y1 y2 y3 y4 y5 y6 y7
               have c0 := fun x : Ext W1 => x.cell HEw.out.h0
               have c1 := fun x : Ext W1 => x.cell HEw.out.h1
               have c2 := fun x : Ext W1 => x.cell HEw.out.h2
               have c3 := fun x : Ext W1 => x.cell HEw.out.h3
               have c4 := fun x : Ext W1 => x.cell HEw.out.h4
               have c5 := fun x : Ext W1 => x.cell HEw.out.h5
               have c6 := fun x : Ext W1 => x.cell HEw.out.h6
               have c7 := fun x : Ext W1 => x.cell HEw.out.h7
               refine wp_region_grew (by kernel_rfl) (by kernel_rfl) ?_
               repeat (first | go_big_quiet_skip | (go_big_quiet_want; go_big_quiet_op; (first | go_big_quiet_on | go_big_quiet_call ((with_reducible first | exact ext_call _ (F1.out _ (bthen hbW (Ext.h _) hbW.size)) | exact ext_call _ (F2.out _ (bthen hbW (Ext.h _) hbW.size)) | exact ext_call _ (F3.out _ (bthen hbW (Ext.h _) hbW.size)) | exact ext_call _ (F4.out _ (bthen hbW (Ext.h _) hbW.size)) | exact ext_call _ (F5.out _ (bthen hbW (Ext.h _) hbW.size)) | exact ext_call _ (F6.out _ (bthen hbW (Ext.h _) hbW.size)))))))
               refine wpQuiet_nil ?_
               rintro _ ⟨xw, rfl⟩
               go_wp2
               go_ret
               exact ⟨ret_str (by rw [HQ.out]; simp only [str_app, D0.out, D1.out, D2.out, D3.out, D4.out, D5.out, D6.out]; simp), bthen hbW xw.h hbW.size⟩
    | true => unfold evV at *
              go_enter Tryz.func20, Tryz.ntmps20
              go_wp2_with fail
              refine (F0.out _ (by (repeat' (first | (with_reducible exact Below.refl _ _) | (with_reducible assumption) | (with_reducible refine below_drewN ?_ _) | (with_reducible refine Below.alloc ?_ ?_ _) | (with_reducible refine Below.drew ?_) | (with_reducible refine Below.setCell ?_ ?_ _) | go_size)))).mono ?_
              rintro e W1 ⟨rfl, hb1⟩
              have hbW : Below w.heap.size w W1 := ((Below.refl _ w).alloc (Nat.le_refl _) _).trans (hb1.mono (by simp))
              have HEw := Lib.hid (HEv.out.below hb1)
              clear hb1 HEv
              obtain ⟨y0, y1, y2, y3, y4, y5, y6, y7⟩ := HEw.out
              go_wp2
              clear y0 y1 y2 y3 y4 y5 y6 y7
              have c0 := fun x : Ext W1 => x.cell HEw.out.h0
              have c1 := fun x : Ext W1 => x.cell HEw.out.h1
              have c2 := fun x : Ext W1 => x.cell HEw.out.h2
              have c3 := fun x : Ext W1 => x.cell HEw.out.h3
              have c4 := fun x : Ext W1 => x.cell HEw.out.h4
              have c5 := fun x : Ext W1 => x.cell HEw.out.h5
              have c6 := fun x : Ext W1 => x.cell HEw.out.h6
              have c7 := fun x : Ext W1 => x.cell HEw.out.h7
              refine wp_region_grew (by kernel_rfl) (by kernel_rfl) ?_
              repeat (first | go_big_quiet_skip | (go_big_quiet_want; go_big_quiet_op; (first | go_big_quiet_on | go_big_quiet_call ((with_reducible first | exact ext_call _ (F1.out _ (bthen hbW (Ext.h _) hbW.size)) | exact ext_call _ (F2.out _ (bthen hbW (Ext.h _) hbW.size)) | exact ext_call _ (F3.out _ (bthen hbW (Ext.h _) hbW.size)) | exact ext_call _ (F4.out _ (bthen hbW (Ext.h _) hbW.size)) | exact ext_call _ (F5.out _ (bthen hbW (Ext.h _) hbW.size)) | exact ext_call _ (F6.out _ (bthen hbW (Ext.h _) hbW.size)))))))
              refine wpQuiet_nil ?_
              rintro _ ⟨xw, rfl⟩
              go_wp2
              go_ret
              exact ⟨ret_str (by rw [HQ.out]; simp only [str_app, D0.out, D1.out, D2.out, D3.out, D4.out, D5.out, D6.out]; simp), bthen hbW xw.h hbW.size⟩
end Go.Proofs.YtnelecjjbmjhaaaGreatDoor
