/- The walk of the law CalreadMay. -/
import Derived.Test.YthkleinjddkhoaaWCalQ
import Derived.Test.YthkleinjddkhoaaWCalS
namespace Go.Proofs.Ythkleinjddkhoaa
open Go.RowKit
set_option linter.unusedSimpArgs false
set_option linter.unusedVariables false

/-- What Read hands back, in words of an event's lists. -/
def RetEv (s : ByteArray) (w : World) (e : Ending) (w' : World) : Prop :=
  Below w.heap.size w w' ∧ ∃ A n m, e = .returned (.tuple #[evV A n m (kcal (kread s.data.toList)).back, .int .i64 (kplace s.size (kread s.data.toList)), .int .i64 (kerr (kread s.data.toList))]) ∧ RdEv w' A n (kcal (kread s.data.toList)) ∧ ∀ j, j < 8 → j ≠ 4 → n j ≤ 400
theorem kcal_len (l : List UInt8) : ∀ j, j < 8 → j ≠ 4 → (calL (kcal (kread l)) j).length ≤ 400 := by
  intro j hj h4
  cases h : kread l with
  | ok c => exact kchk_len (kread_ok h) j hj h4
  | error p =>
    show (calL calNil j).length ≤ 400
    have e : calL calNil j = [] := by rcases j with _ | _ | _ | _ | _ | _ | _ | _ | j <;> first | rfl | omega
    rw [e]; exact Nat.zero_le _
theorem calread_ev (s : ByteArray) (hs : s.size ≤ 1000000) (w : World) (hm : MaxAt w) : Calls Try.prog 6 #[.string s] w (RetEv s w) := by
  refine (calread_any s hs w hm).mono ?_
  rintro e w' ⟨g, D, rfl, hr, hb⟩
  obtain ⟨A, n, m, hv, hL⟩ := calRd_cells hr
  have hR : RdEv w' A n (kcal (kread s.data.toList)) := fun j hj h4 => by
    obtain ⟨A', n', c', e, h1, _⟩ := hL j hj h4
    injection e with e1 e2 e3
    subst e1; subst e2
    exact h1
  exact ⟨hb, A, n, m, by rw [hv]; rfl, hR, fun j hj h4 => by rw [← (hR j hj h4).1]; exact kcal_len _ j hj h4⟩
def ex29a : List UInt8 := [77,111,110,46,46,70,114,105,32,57,58,51,48]
def ex29b : List UInt8 := [49,50,58,48,48,32,85,84,67]
theorem ex29a_read : kread ex29a = .ok ⟨[⟨2, 1, 5, 1⟩], [⟨0, 0, 0, 1⟩], [⟨0, 0, 0, 1⟩], [⟨0, 0, 0, 1⟩], false, [⟨1, 9, 0, 0⟩], [⟨1, 30, 0, 0⟩], [⟨1, 0, 0, 0⟩]⟩ := by kernel_rfl
theorem ex29b_read : kread ex29b = .error (6, 7) := by kernel_rfl
theorem one_it {w : World} {A : Option Addr} {n : Nat} {i : It} (h : RdIts w A n [i]) : n = 1 ∧ ∃ B o, A = some ⟨B, o, none⟩ ∧ B < w.heap.size ∧ w.cell? ⟨B, o, none⟩ = some (.int .i64 i.k) ∧ w.cell? ⟨B, o + 1, none⟩ = some (.int .i64 i.f) ∧ w.cell? ⟨B, o + 2, none⟩ = some (.int .i64 i.t) ∧ w.cell? ⟨B, o + 3, none⟩ = some (.int .i64 i.s) := by
  have hn : n = 1 := h.1.symm
  subst hn
  obtain ⟨B, o, it, hA, hbl, hx, d0, d1, d2, d3⟩ := RdIts.at_ h (i := 0) Nat.one_pos
  obtain rfl : it = i := by simpa using hx.symm
  simp only [Nat.zero_mul, Nat.add_zero] at d0 d1 d2 d3
  exact ⟨rfl, B, o, hA, hbl, d0, d1, d2, d3⟩
set_option maxRecDepth 20000 in
set_option maxHeartbeats 2000000 in
theorem lives29_any (w : World) (hm : MaxAt w) : Calls Try.prog 5 #[] w (Ret (.bool true) w) := by
  have HA := Lib.hid (calread_ev (strB ex29a) (by rw [strB_size]; decide) w hm)
  have HB := Lib.hid (fun W (hb : Below w.heap.size w W) => calread_ev (strB ex29b) (by rw [strB_size]; decide) W (hm.below hb))
  unfold RetEv at HA HB
  rw [strB_data, ex29a_read, strB_size] at HA
  simp only [strB_data, ex29b_read, strB_size] at HB
  unfold kcal kplace kerr at HA HB
  unfold evV at HA HB
  dsimp only at HA HB
  go_enter Try.func5, Try.ntmps5
  go_wp2_with fail
  refine HA.out.mono ?_
  rintro e w1 ⟨hb1, A, n, m, rfl, hr1, _⟩
  obtain ⟨hn0, B0, o0, hA0, hB0, d0, d1, d2, d3⟩ := one_it (hr1 0 (by decide) (by decide) : RdIts w1 (A 0) (n 0) [⟨2, 1, 5, 1⟩])
  obtain ⟨hn6, B6, o6, hA6, hB6, f0, f1, f2, f3⟩ := one_it (hr1 6 (by decide) (by decide) : RdIts w1 (A 6) (n 6) [⟨1, 30, 0, 0⟩])
  rw [hA0, hn0, hA6, hn6]
  clear hr1 hA0 hn0 hA6 hn6
  have hz1 := hb1.size
  go_wp2_with fail
  generalize hW : World.alloc w1 _ = W1
  have hbW : Below w1.heap.size w1 W1 := by rw [← hW]; exact (Below.refl _ _).alloc (Nat.le_refl _) _
  have x0 : W1.cell? ⟨w1.heap.size, 0, none⟩ = some (.slice (some ⟨B0, o0, none⟩) 1 (m 0)) := by subst hW; exact cell_new rfl rfl
  have x6 : W1.cell? ⟨w1.heap.size, 6, none⟩ = some (.slice (some ⟨B6, o6, none⟩) 1 (m 6)) := by subst hW; exact cell_new rfl rfl
  have hzW : w1.heap.size < W1.heap.size := World.block_lt_of_cell? _ _ x0
  have e2 := (⟨W1, hbW⟩ : Ext w1).cell d2
  have g1 := (⟨W1, hbW⟩ : Ext w1).cell f1
  have hbw1 : Below w.heap.size w W1 := bthen hb1 hbW hz1
  clear d0 d1 d2 d3 f0 f1 f2 f3 hW
  refine (HB.out _ hbw1).mono ?_
  rintro e w2 ⟨hb2, A', n', m', rfl, _, _⟩
  have y0 := (⟨w2, hb2⟩ : Ext W1).cell x0
  have y6 := (⟨w2, hb2⟩ : Ext W1).cell x6
  have y2 := (⟨w2, hb2⟩ : Ext W1).cell e2
  have y1 := (⟨w2, hb2⟩ : Ext W1).cell g1
  have hz2 := hb2.size
  have hzC : w1.heap.size < w2.heap.size := by omega
  have hzD : B0 < w2.heap.size := by omega
  have hzE : B6 < w2.heap.size := by omega
  have hbw2 : Below w.heap.size w w2 := bthen hbw1 hb2 hbw1.size
  have hc0 : (0 : Int) < 1 := by decide
  clear x0 x6 e2 g1
  go_wp2
  go_ret
  exact ⟨rfl, by (repeat' (first | (with_reducible exact Below.refl _ _) | (with_reducible assumption) | (with_reducible refine below_drewN ?_ _) | (with_reducible refine Below.alloc ?_ ?_ _) | (with_reducible refine Below.drew ?_) | (with_reducible refine Below.setCell ?_ ?_ _) | go_size))⟩
theorem rdEv_nil (w : World) : RdEv w (fun _ => none) (fun _ => 0) calNil := fun j hj h4 => by
  have e : calL calNil j = [] := by rcases j with _ | _ | _ | _ | _ | _ | _ | _ | j <;> first | rfl | omega
  rw [e]; exact Rd.nil
set_option maxRecDepth 20000 in
set_option maxHeartbeats 2000000 in
theorem calreadMay_any (s : ByteArray) (w : World) (hs : s.size ≤ 9223372036854775807) (hm : MaxAt w) : Calls Try.prog 4 #[.string s] w (Ret (.bool true) w) := by
  have HV := Lib.hid (fun W (hb : Below w.heap.size w W) => lives29_any W (hm.below hb))
  by_cases hbig : 9000 < s.size
  · have hbig' : (9000 : Int) < (s.size : Int) := by omega
    clear hbig
    go_enter Try.func4, Try.ntmps4
    go_wp2_with fail
    refine (HV.out _ (Below.refl _ _)).mono ?_
    rintro e w1 ⟨rfl, hb1⟩
    go_wp2
    go_ret
    exact ⟨rfl, hb1⟩
  · have hbig' : ¬ (9000 : Int) < (s.size : Int) := by omega
    have HR := Lib.hid (calread_ev s (by omega) w hm)
    unfold RetEv at HR
    clear hbig
    cases hk : kread s.data.toList with
    | ok c =>
      have hch := kread_ok hk
      rw [hk] at HR
      unfold kcal kplace kerr at HR
      dsimp only at HR
      clear hk
      go_enter Try.func4, Try.ntmps4
      go_wp2_with fail
      refine HR.out.mono ?_
      rintro e w1 ⟨hb1, A, n, m, rfl, hr, hn⟩
      have HK := Lib.hid (fun W (hb : Below w1.heap.size w1 W) => kcheck_any A n m c c.back W (hr.below hb) (fun k hk => Nat.le_trans (hn _ (kslot_ok hk).1 (kslot_ok hk).2) (by decide)))
      rw [hch] at HK
      unfold evV at HK ⊢
      have hz1 := hb1.size
      clear hr hn hch
      go_wp2_with fail
      refine (HK.out _ ((Below.refl _ w1).alloc (Nat.le_refl _) _)).mono ?_
      rintro e w2 ⟨rfl, hb2⟩
      have hb3 : Below w.heap.size w w2 := (hb1.alloc hz1 _).trans (hb2.mono (by simp; omega))
      go_wp2_with fail
      refine (HV.out _ hb3).mono ?_
      rintro e w3 ⟨rfl, hb4⟩
      go_wp2
      go_ret
      exact ⟨rfl, bthen hb3 hb4 hb3.size⟩
    | error p =>
      obtain ⟨a, er⟩ := p
      obtain ⟨he, ha0, ha1⟩ := kread_err hk
      rw [hk] at HR
      unfold kcal kplace kerr at HR
      dsimp only at HR
      have he' : (er != 0) = true := by simpa using he
      have ha1' : a ≤ (s.size : Int) := by have h := ha1; simp at h; exact h
      clear hk ha1 he
      go_enter Try.func4, Try.ntmps4
      go_wp2_with fail
      refine HR.out.mono ?_
      rintro e w1 ⟨hb1, A, n, m, rfl, hr, hn⟩
      have HS := Lib.hid (fun W (hb : Below w1.heap.size w1 W) => ksame_any A (fun _ => none) n m (fun _ => 0) (fun _ => 0) calNil calNil W (hr.below hb) (rdEv_nil W) (fun k hk => Nat.le_trans (hn _ (kslot_ok hk).1 (kslot_ok hk).2) (by decide)) (fun _ _ => by decide))
      rw [sameK_self] at HS
      unfold evV at HS ⊢
      have hz1 := hb1.size
      clear hr hn
      go_wp2_with fail
      refine (HS.out _ ((Below.refl _ w1).alloc (Nat.le_refl _) _)).mono ?_
      rintro e' w2 ⟨rfl, hb2⟩
      have hb3 : Below w.heap.size w w2 := (hb1.alloc hz1 _).trans (hb2.mono (by simp; omega))
      go_wp2_with fail
      refine (HV.out _ hb3).mono ?_
      rintro e' w3 ⟨rfl, hb4⟩
      go_wp2
      go_ret
      exact ⟨rfl, bthen hb3 hb4 hb3.size⟩
end Go.Proofs.Ythkleinjddkhoaa
