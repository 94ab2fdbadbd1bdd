/- The walk of the law CronreadMay. -/
import Derived.Test.YtpfcgjneeboamaaDoorWCronread9
import Derived.Test.YtpfcgjneeboamaaDoorWCron2
namespace Go.Proofs.YtpfcgjneeboamaaDoor
open Go.RowKit
set_option linter.unusedSimpArgs false
set_option linter.unusedVariables false

theorem lineAt_load {w : World} {B : Nat} {A : Nat → Option Addr} {n c : Nat → Nat} (h : LineAt w B 0 A n c) : w.cell? ⟨B, 0, none⟩ = some (.slice (A 0) (n 0) (c 0)) ∧ w.cell? ⟨B, 1, none⟩ = some (.slice (A 1) (n 1) (c 1)) ∧ w.cell? ⟨B, 2, none⟩ = some (.slice (A 2) (n 2) (c 2)) ∧ w.cell? ⟨B, 3, none⟩ = some (.slice (A 3) (n 3) (c 3)) ∧ w.cell? ⟨B, 4, none⟩ = some (.slice (A 4) (n 4) (c 4)) := by
  obtain ⟨h0, h1, h2, h3, h4⟩ := h
  simp only [Nat.zero_add] at h1 h2 h3 h4
  exact ⟨h0, h1, h2, h3, h4⟩
theorem range5_inj {F : Nat → List It} {a b c d e : List It} (h : [a, b, c, d, e] = (List.range 5).map F) : F 0 = a ∧ F 1 = b ∧ F 2 = c ∧ F 3 = d ∧ F 4 = e := by
  have h2 : [a, b, c, d, e] = [F 0, F 1, F 2, F 3, F 4] := h
  injection h2 with e0 h2
  injection h2 with e1 h2
  injection h2 with e2 h2
  injection h2 with e3 h2
  injection h2 with e4 h2
  exact ⟨e0.symm, e1.symm, e2.symm, e3.symm, e4.symm⟩

set_option maxRecDepth 20000 in
set_option maxHeartbeats 1000000 in
theorem lives25_any (w : World) : Calls Tryd.prog 4 #[] w (Ret (.bool true) w) := by
  have HA := Lib.hid (fun W => read_line (strB ex25a) (by decide) W)
  have HB := Lib.hid (fun W => read_line (strB ex25b) (by decide) W)
  go_enter Tryd.func4, Tryd.ntmps4
  go_wp2_with fail
  refine (HA.out _).mono ?_
  rintro e w1 ⟨hb1, ⟨F, A, n, c, hO, rfl, hrd, hn, hz, hF, hm⟩ | ⟨a, e, hO, _⟩⟩
  · have hE : outR (strB ex25a) = .ok [[⟨0, 0, 0, 15⟩], [⟨2, 9, 17, 1⟩], [⟨0, 0, 0, 1⟩], [⟨0, 0, 0, 1⟩], [⟨2, 1, 5, 1⟩]] := outR_ok (by rw [strB_data]; exact ex25a_read)
    rw [hE] at hO
    have h4 : F 4 = [⟨2, 1, 5, 1⟩] := (range5_inj (Except.ok.inj hO)).2.2.2.2
    have hr4 := hrd 4 (by decide)
    rw [h4] at hr4
    have hn4 : n 4 = 1 := hr4.1.symm
    have hc4 := (hn 4).2.1
    rw [hn4] at hr4 hc4
    obtain ⟨B, o, it, hA4, hbl, hx, d0, d1, d2, d3⟩ := RdIts.at_ hr4 (i := 0) Nat.one_pos
    obtain rfl : it = ⟨2, 1, 5, 1⟩ := by simpa using hx.symm
    simp only [Nat.zero_mul, Nat.add_zero] at d0 d1 d2 d3
    have HN := Lib.hid hn4
    have HA4 := Lib.hid hA4
    have heq := fun W => eql_it ⟨2, 1, 5, 1⟩ ⟨2, 1, 5, 1⟩ W
    rw [show itEq ⟨2, 1, 5, 1⟩ ⟨2, 1, 5, 1⟩ = true from by decide] at heq
    clear hO hE h4 hr4 hn hz hF hm hrd hx hn4 hA4
    have hz1 := hb1.size
    have hzB : B < w1.heap.size := hbl
    go_wp2_with fail
    generalize hW : World.alloc w1 _ = W1
    have hbW : Below w1.heap.size w1 W1 := by rw [← hW]; exact (Below.refl _ _).alloc (Nat.le_refl _) _
    have x4 : W1.cell? ⟨w1.heap.size, 4, none⟩ = some (.slice (some ⟨B, o, none⟩) 1 (c 4)) := by
      subst hW
      rw [cell_new rfl (show (#[Value.slice (A 0) (n 0) (c 0), .slice (A 1) (n 1) (c 1), .slice (A 2) (n 2) (c 2), .slice (A 3) (n 3) (c 3), .slice (A 4) (n 4) (c 4)] : Array Value)[4]? = some (.slice (A 4) (n 4) (c 4)) from rfl), HA4.out, HN.out]
    have hzW : w1.heap.size < W1.heap.size := World.block_lt_of_cell? _ _ x4
    have e0 := (⟨W1, hbW⟩ : Ext w1).cell d0
    have e1 := (⟨W1, hbW⟩ : Ext w1).cell d1
    have e2 := (⟨W1, hbW⟩ : Ext w1).cell d2
    have e3 := (⟨W1, hbW⟩ : Ext w1).cell d3
    clear d0 d1 d2 d3 hW HN HA4
    refine (HB.out _).mono ?_
    rintro e w2 ⟨hb2, ⟨F', A', n', c', hO, _⟩ | ⟨a, e, hO, he, _, _, rfl⟩⟩
    · rw [outR_err (m := 10) (c := 4) (by rw [strB_data]; exact ex25b_read)] at hO
      cases hO
    · rw [outR_err (m := 10) (c := 4) (by rw [strB_data]; exact ex25b_read)] at hO
      obtain ⟨rfl, rfl⟩ : a = 0 ∧ e = 4 := by injection hO with h; injection h with h1 h2; exact ⟨h1.symm, h2.symm⟩
      have x4' := (⟨w2, hb2⟩ : Ext W1).cell x4
      have f0 := (⟨w2, hb2⟩ : Ext W1).cell e0
      have f1 := (⟨w2, hb2⟩ : Ext W1).cell e1
      have f2 := (⟨w2, hb2⟩ : Ext W1).cell e2
      have f3 := (⟨w2, hb2⟩ : Ext W1).cell e3
      have hb3 : Below w.heap.size w w2 := bthen (bthen hb1 hbW hz1) hb2 (by have := hbW.size; omega)
      have hz2 := hb2.size
      have hzC : w1.heap.size < w2.heap.size := by omega
      have hzD : B < w2.heap.size := by omega
      have hc0 : (0 : Int) < 1 := by decide
      clear hO x4 e0 e1 e2 e3
      go_wp2
      go_ret
      exact ⟨rfl, by (repeat' (first | (with_reducible exact Below.refl _ _) | (with_reducible assumption) | (with_reducible refine below_drewN ?_ _) | (with_reducible refine Below.alloc ?_ ?_ _) | (with_reducible refine Below.drew ?_) | (with_reducible refine Below.setCell ?_ ?_ _) | go_size))⟩
  · rw [outR_ok (x := [[⟨0, 0, 0, 15⟩], [⟨2, 9, 17, 1⟩], [⟨0, 0, 0, 1⟩], [⟨0, 0, 0, 1⟩], [⟨2, 1, 5, 1⟩]]) (by rw [strB_data]; exact ex25a_read)] at hO
    cases hO

end Go.Proofs.YtpfcgjneeboamaaDoor
