/- The walk of package calread's Read. -/
import Derived.Test.YtnelecjjbmjhaaaGreatDoorWCalM
import Derived.Test.YtnelecjjbmjhaaaGreatDoorWCalN
import Derived.Test.YtnelecjjbmjhaaaGreatDoorWCalP
import Derived.Test.YtnelecjjbmjhaaaGreatDoorRCalMay
namespace Go.Proofs.YtnelecjjbmjhaaaGreatDoor
open Go.RowKit
set_option linter.unusedSimpArgs false
set_option linter.unusedVariables false

/-- What Read hands back. -/
def kcal (x : Except (Int × Int) CalV) : CalV := match x with | .ok c => c | .error _ => calNil
def kplace (n : Int) (x : Except (Int × Int) CalV) : Int := match x with | .ok _ => n | .error p => p.1
def kerr (x : Except (Int × Int) CalV) : Int := match x with | .ok _ => 0 | .error p => p.2
def RetRead (s : ByteArray) (w : World) (e : Ending) (w' : World) : Prop :=
  ∃ g D, e = .returned (.tuple #[calV g, .int .i64 (kplace s.size (kread s.data.toList)), .int .i64 (kerr (kread s.data.toList))]) ∧ CalRd w' D g (kcal (kread s.data.toList)) ∧ Below w.heap.size w w'
theorem calAt_new2 (w : World) (o : Obj) (t : TypeId) (B : Nat) : CalAt ((w.alloc o).alloc (.cells #[.slice none 0 0, .slice none 0 0, .slice none 0 0, .slice none 0 0, .bool false, .slice none 0 0, .slice none 0 0, .slice none 0 0] t)) (w.heap.size + 1) B calNil := by
  have h := calZ_new (w.alloc o) t
  rw [show (w.alloc o).heap.size = w.heap.size + 1 by simp] at h
  refine ⟨calZ, h, rfl, fun j hj h4 => ?_⟩
  have e : calL calNil j = [] := by rcases j with _ | _ | _ | _ | _ | _ | _ | _ | j <;> first | rfl | omega
  have z : calZ j = .slice none 0 0 := if_neg h4
  rw [e, z]
  exact ⟨⟨rfl, .inl ⟨rfl, rfl⟩⟩, fun _ => rfl⟩
theorem MaxAt.alloc {w : World} (h : MaxAt w) (o : Obj) : MaxAt (w.alloc o) := h.below ((Below.refl _ w).alloc (Nat.le_refl _) _)
theorem newP_eq (s : ByteArray) : newP s = kpsNew s.data.toList := by
  have : s.data.toList.length = s.size := by simp
  unfold newP newBad newE kpsNew
  rw [this]
theorem bthn {B : Nat} {w w1 w2 : World} (h : Below B w w1) (g : Below w1.heap.size w1 w2) (hB : B ≤ w1.heap.size := by omega) : Below B w w2 := bthen h g hB
theorem Arr.chg2 {w w' : World} {b C B m : Nat} {g : Nat → Value} (h : Arr w B m g) (hg : Chg2 b C w w') (hb : B ≠ b) (hC : B ≠ C) (hm : 0 < m := by decide) : Arr w' B m g :=
  ⟨fun j hj => hg.cell hb hC (h.1 j hj), fun j => (hg.frozen hb hC (h.lt hm)).trans (h.2 j)⟩
theorem calAt_below {w w' : World} {C B : Nat} {c : CalV} (h : CalAt w C B c) (hB : 0 < B) (hb : Below w.heap.size w w') : CalAt w' C B c := by
  obtain ⟨g, h1, h2, h3⟩ := h
  exact ⟨g, h1.below (h1.lt (by decide)) hb, h2, fun j hj h4 => ⟨own_chg (h3 j hj h4).1 (Chg.of_below (b := 0) hb) hB, (h3 j hj h4).2⟩⟩
theorem own_list {w : World} {B D : Nat} {v : Value} {l : List It} (h : OwnIts w B v l) (hn : l = [] → v = .slice none 0 0) (hD : D < B) : ListV w D v l := by
  obtain ⟨A, c, e, _, _, h3, h4⟩ := Rd.of_own itEnc_len h rfl
  exact ⟨A, _, c, e, h3, fun p hp => by have := h4 p hp; omega, hn⟩
theorem calAt_cells {w : World} {C B : Nat} {c : CalV} (h : CalAt w C B c) {D : Nat} (hD : D < B) : ∃ g : Nat → Value, CalRd w D g c ∧ w.cell? ⟨C, 0, none⟩ = some (g 0) ∧ w.cell? ⟨C, 1, none⟩ = some (g 1) ∧ w.cell? ⟨C, 2, none⟩ = some (g 2) ∧ w.cell? ⟨C, 3, none⟩ = some (g 3) ∧ w.cell? ⟨C, 4, none⟩ = some (g 4) ∧ w.cell? ⟨C, 5, none⟩ = some (g 5) ∧ w.cell? ⟨C, 6, none⟩ = some (g 6) ∧ w.cell? ⟨C, 7, none⟩ = some (g 7) ∧ ∀ j, w.frozen? ⟨C, j, none⟩ = false := by
  obtain ⟨g, h1, h2, h3⟩ := h
  exact ⟨g, ⟨h2, fun j hj h4 => own_list (h3 j hj h4).1 (h3 j hj h4).2 hD⟩, h1.1 0 (by decide), h1.1 1 (by decide), h1.1 2 (by decide), h1.1 3 (by decide), h1.1 4 (by decide), h1.1 5 (by decide), h1.1 6 (by decide), h1.1 7 (by decide), h1.2⟩
theorem calRd_cells {w : World} {D : Nat} {g : Nat → Value} {c : CalV} (h : CalRd w D g c) : ∃ (A : Nat → Option Addr) (n m : Nat → Nat), calV g = .agg #[.slice (A 0) (n 0) (m 0), .slice (A 1) (n 1) (m 1), .slice (A 2) (n 2) (m 2), .slice (A 3) (n 3) (m 3), .bool c.back, .slice (A 5) (n 5) (m 5), .slice (A 6) (n 6) (m 6), .slice (A 7) (n 7) (m 7)] ∧ ∀ j, j < 8 → j ≠ 4 → ListV w D (.slice (A j) (n j) (m j)) (calL c j) := by
  obtain ⟨h2, h3⟩ := h
  have hx : ∀ j, ∃ x : Option Addr × Nat × Nat, j < 8 → j ≠ 4 → g j = .slice x.1 x.2.1 x.2.2 := fun j => by
    by_cases hj : j < 8 ∧ j ≠ 4
    · obtain ⟨A, n, m, e, _⟩ := h3 j hj.1 hj.2
      exact ⟨(A, n, m), fun _ _ => e⟩
    · exact ⟨(none, 0, 0), fun a b => absurd ⟨a, b⟩ hj⟩
  refine ⟨fun j => (hx j).choose.1, fun j => (hx j).choose.2.1, fun j => (hx j).choose.2.2, ?_, fun j hj h4 => ?_⟩
  · unfold calV
    rw [← (hx 0).choose_spec (by decide) (by decide), ← (hx 1).choose_spec (by decide) (by decide), ← (hx 2).choose_spec (by decide) (by decide), ← (hx 3).choose_spec (by decide) (by decide), ← (hx 5).choose_spec (by decide) (by decide), ← (hx 6).choose_spec (by decide) (by decide), ← (hx 7).choose_spec (by decide) (by decide), h2]
  · dsimp only
    rw [← (hx j).choose_spec hj h4]; exact h3 j hj h4
theorem ListV.set {w : World} {D : Nat} {v : Value} {l : List It} (h : ListV w D v l) (j : Nat) (u : Value) : ListV (w.setCell ⟨D, j, none⟩ u) D v l := by
  obtain ⟨A, n, c, e, h1, hp, h2⟩ := h
  refine ⟨A, n, c, e, ⟨h1.1, fun hn => ?_⟩, hp, h2⟩
  obtain ⟨b, o, e2, hlt, hc⟩ := h1.2 hn
  have hne : b ≠ D := hp _ e2
  refine ⟨b, o, e2, by simpa [World.setCell] using hlt, fun i x hi k v hk => ?_⟩
  rw [World.cell?_setCell_other _ _ _ _ (by intro e; injection e with e1; exact hne e1.symm)]
  exact hc i x hi k v hk
theorem ListV.out8 {w : World} {v v0 v1 v2 v3 v4 v5 v6 v7 : Value} {l : List It} {D : Nat} (h : ListV w D v l) : ListV ((((((((w.setCell ⟨D, 0, none⟩ v0).setCell ⟨D, 1, none⟩ v1).setCell ⟨D, 2, none⟩ v2).setCell ⟨D, 3, none⟩ v3).setCell ⟨D, 4, none⟩ v4).setCell ⟨D, 5, none⟩ v5).setCell ⟨D, 6, none⟩ v6).setCell ⟨D, 7, none⟩ v7) D v l :=
  (((((((h.set 0 v0).set 1 v1).set 2 v2).set 3 v3).set 4 v4).set 5 v5).set 6 v6).set 7 v7
theorem calZ_list {w : World} {D : Nat} (j : Nat) (hj : j < 8) (h4 : j ≠ 4) : ListV w D (calZ j) (calL calNil j) := by
  have e : calL calNil j = [] := by rcases j with _ | _ | _ | _ | _ | _ | _ | _ | j <;> first | rfl | omega
  have z : calZ j = .slice none 0 0 := if_neg h4
  rw [e, z]
  exact ⟨none, 0, 0, rfl, Rd.nil, fun p h => (nomatch h), fun _ => rfl⟩
theorem knick_len (l : List UInt8) : (knick l).length ≤ 100 := by
  unfold knick
  split
  · next p hp =>
    have hm := List.mem_of_find?_eq_some hp
    have : ∀ p ∈ knicks, p.2.length ≤ 100 := by decide
    exact this p hm
  · exact Nat.zero_le _
set_option maxRecDepth 20000 in
set_option maxHeartbeats 4000000 in
theorem calread_any (s : ByteArray) (hs : s.size ≤ 1000000) (w : World) (hm : MaxAt w) : Calls Tryz.prog 21 #[.string s] w (RetRead s w) := by
  have HN := Lib.hid (fun W => nick_any s hs W)
  have HZ0 := Lib.hid (calZ_new w 40)
  have HM0 := Lib.hid (hm.alloc (.cells #[.slice none 0 0, .slice none 0 0, .slice none 0 0, .slice none 0 0, .bool false, .slice none 0 0, .slice none 0 0, .slice none 0 0] 40))
  have HB0 := Lib.hid ((Below.refl _ w).alloc (Nat.le_refl _) (.cells #[.slice none 0 0, .slice none 0 0, .slice none 0 0, .slice none 0 0, .bool false, .slice none 0 0, .slice none 0 0, .slice none 0 0] 40))
  clear hm
  by_cases hk : knick s.data.toList = []
  · have HK : Hid (kread s.data.toList = if (kallP s.size (newP s)).1.e = 0 then .ok (kfill (kallP s.size (newP s)).2) else .error ((kallP s.size (newP s)).1.a, (kallP s.size (newP s)).1.e)) := by
      show _ = _
      unfold kread
      have : s.data.toList.length = s.size := by simp
      simp only [hk, if_true, newP_eq, this]
    rw [hk] at HN
    have hT : (strB []).toList.isEmpty = true := by rw [strB_tol]; rfl
    clear hk
    go_enter Tryz.func21, Tryz.ntmps21
    go_wp2_with fail
    refine (HN.out _).mono ?_
    rintro e w1 ⟨rfl, hb1⟩
    have HB1 := Lib.hid (bthn HB0.out hb1 HB0.out.size)
    have HM1 := Lib.hid (HM0.out.below hb1)
    have HZ1 := Lib.hid (HZ0.out.below (HZ0.out.lt (by decide)) hb1)
    clear hb1
    go_wp2_with fail
    refine (new_ps (Nat.le_trans hs (by decide)) _).mono ?_
    rintro e w2 ⟨b, hb, rfl, hr2, hb2⟩
    have hlt2 := hr2.lt
    have hbw : w.heap.size ≤ b := Nat.le_trans HB1.out.size hb
    have HB2 := Lib.hid (bthn HB1.out hb2 HB1.out.size)
    have HM2 := Lib.hid (HM1.out.below hb2)
    have HZ2 := Lib.hid (HZ1.out.below (HZ1.out.lt (by decide)) hb2)
    have hzR := HZ2.out.lt (by decide)
    have hRb : w.heap.size ≠ b := by have := HZ1.out.lt (by decide); omega
    clear hb2
    go_wp2_with fail
    have HB3 := Lib.hid ((HB2.out.alloc HB2.out.size (.cells #[.pointer (some ⟨b, 0, none⟩), .string (s)] 95)).alloc (by have := HB2.out.size; simp; omega) (.cells #[.slice none 0 0, .slice none 0 0, .slice none 0 0, .slice none 0 0, .bool false, .slice none 0 0, .slice none 0 0, .slice none 0 0] 40))
    have HZ3 := Lib.hid (((HZ2.out.alloc hzR (.cells #[.pointer (some ⟨b, 0, none⟩), .string (s)] 95)).alloc (by simp; omega) (.cells #[.slice none 0 0, .slice none 0 0, .slice none 0 0, .slice none 0 0, .bool false, .slice none 0 0, .slice none 0 0, .slice none 0 0] 40)))
    have HX3 := Lib.hid ((kbox_new w2 b (s) 95).alloc (.cells #[.slice none 0 0, .slice none 0 0, .slice none 0 0, .slice none 0 0, .bool false, .slice none 0 0, .slice none 0 0, .slice none 0 0] 40))
    refine (words_any (B := w2.heap.size + 2) (C := w2.heap.size + 1) hs ((hr2.alloc _).alloc _) (calAt_new2 w2 _ _ _) ((HM2.out.alloc _).alloc _) (by omega) (by omega) (by omega) (by simp)).mono ?_
    rintro e w4 ⟨rfl, h4, hc4, g4⟩
    have HB4 := Lib.hid (g4.below HB3.out hbw (by omega) HB3.out.size)
    have HZ4 := Lib.hid (HZ3.out.chg2 g4 hRb (by omega))
    obtain ⟨c0, c1⟩ := (⟨g4.cell (by omega) (by omega) HX3.out.1, g4.cell (by omega) (by omega) HX3.out.2⟩ : KBox w4 w2.heap.size b (s))
    clear hr2
    go_wp2_with fail
    refine (wrong_ps h4).mono ?_
    rintro e w5 ⟨rfl, hn5⟩
    have hb5 : Below w4.heap.size w4 w5 := by obtain ⟨n5, rfl⟩ := hn5; exact ⟨rfl, rfl, rfl, Nat.le_refl _, fun _ _ => rfl⟩
    clear hn5
    have HB5 := Lib.hid (bthn HB4.out hb5 HB4.out.size)
    have HZ5 := Lib.hid (HZ4.out.below (HZ4.out.lt (by decide)) hb5)
    have HC5 := Lib.hid (calAt_below hc4 (by omega) hb5)
    have hzR5 := HZ5.out.lt (by decide)
    generalize kallP (s).size (newP (s)) = r at *
    obtain ⟨τ, c⟩ := r
    dsimp only at *
    have z0 : w5.cell? ⟨w.heap.size, 0, none⟩ = some (.slice none 0 0) := HZ5.out.1 0 (by decide)
    have z1 : w5.cell? ⟨w.heap.size, 1, none⟩ = some (.slice none 0 0) := HZ5.out.1 1 (by decide)
    have z2 : w5.cell? ⟨w.heap.size, 2, none⟩ = some (.slice none 0 0) := HZ5.out.1 2 (by decide)
    have z3 : w5.cell? ⟨w.heap.size, 3, none⟩ = some (.slice none 0 0) := HZ5.out.1 3 (by decide)
    have z4 : w5.cell? ⟨w.heap.size, 4, none⟩ = some (.bool false) := HZ5.out.1 4 (by decide)
    have z5 : w5.cell? ⟨w.heap.size, 5, none⟩ = some (.slice none 0 0) := HZ5.out.1 5 (by decide)
    have z6 : w5.cell? ⟨w.heap.size, 6, none⟩ = some (.slice none 0 0) := HZ5.out.1 6 (by decide)
    have z7 : w5.cell? ⟨w.heap.size, 7, none⟩ = some (.slice none 0 0) := HZ5.out.1 7 (by decide)
    have zf := HZ5.out.2
    clear c0 c1 h4 hc4 g4 hb5
    by_cases he : τ.e = 0
    · have HK2 : Hid (kread s.data.toList = .ok (kfill c)) := by show _ = _; rw [HK.out, if_pos he]
      rw [he]
      obtain ⟨g, hg, x0, x1, x2, x3, x4, x5, x6, x7, xf⟩ := calAt_cells HC5.out (D := w.heap.size) (by omega)
      clear z0 z1 z2 z3 z4 z5 z6 z7 zf
      go_wp2_with fail
      refine (filled_any g c _ w.heap.size hzR5 hg).mono ?_
      rintro e w6 ⟨g6, rfl, hg6, hb6⟩
      have HB6 := Lib.hid (bthn HB5.out hb6 HB5.out.size)
      have HZ6 := Lib.hid (HZ5.out.below (HZ5.out.lt (by decide)) hb6)
      have z0 : w6.cell? ⟨w.heap.size, 0, none⟩ = some (.slice none 0 0) := HZ6.out.1 0 (by decide)
      have z1 : w6.cell? ⟨w.heap.size, 1, none⟩ = some (.slice none 0 0) := HZ6.out.1 1 (by decide)
      have z2 : w6.cell? ⟨w.heap.size, 2, none⟩ = some (.slice none 0 0) := HZ6.out.1 2 (by decide)
      have z3 : w6.cell? ⟨w.heap.size, 3, none⟩ = some (.slice none 0 0) := HZ6.out.1 3 (by decide)
      have z4 : w6.cell? ⟨w.heap.size, 4, none⟩ = some (.bool false) := HZ6.out.1 4 (by decide)
      have z5 : w6.cell? ⟨w.heap.size, 5, none⟩ = some (.slice none 0 0) := HZ6.out.1 5 (by decide)
      have z6 : w6.cell? ⟨w.heap.size, 6, none⟩ = some (.slice none 0 0) := HZ6.out.1 6 (by decide)
      have z7 : w6.cell? ⟨w.heap.size, 7, none⟩ = some (.slice none 0 0) := HZ6.out.1 7 (by decide)
      have zf := HZ6.out.2
      obtain ⟨A, n, m, hv6, hL6⟩ := calRd_cells hg6
      have HL6 := Lib.hid hL6
      rw [hv6]
      clear hg6 hL6 hv6 hb6 x0 x1 x2 x3 x4 x5 x6 x7 xf hg
      go_wp2
      refine bodyPost_ret (v := .tuple #[.agg #[.slice (A 0) (n 0) (m 0), .slice (A 1) (n 1) (m 1), .slice (A 2) (n 2) (m 2), .slice (A 3) (n 3) (m 3), .bool (kfill c).back, .slice (A 5) (n 5) (m 5), .slice (A 6) (n 6) (m 6), .slice (A 7) (n 7) (m 7)], .int .i64 s.size, .int .i64 0]) ?_ rfl ⟨fun j => if j = 4 then .bool (kfill c).back else .slice (A j) (n j) (m j), w.heap.size, by rw [HK2.out]; rfl, ⟨by rw [HK2.out]; rfl, fun j hj h4 => ?_⟩, ?_⟩
      · rw [results_cell2 rfl]
        go_simp
      · dsimp only
        rw [if_neg h4, HK2.out]
        exact (HL6.out j hj h4).out8
      · exact Below.set8 HB6.out (Nat.le_refl _)
    · have HK2 : Hid (kread s.data.toList = .error (τ.a, τ.e)) := by show _ = _; rw [HK.out, if_neg he]
      go_wp2
      refine bodyPost_ret (v := .tuple #[.agg #[.slice none 0 0, .slice none 0 0, .slice none 0 0, .slice none 0 0, .bool false, .slice none 0 0, .slice none 0 0, .slice none 0 0], .int .i64 τ.a, .int .i64 τ.e]) ?_ rfl ⟨calZ, w.heap.size, by rw [HK2.out]; rfl, ⟨by rw [HK2.out]; rfl, fun j hj h4 => ?_⟩, ?_⟩
      · rw [results_cell2 rfl]
        go_simp
      · rw [HK2.out]; exact calZ_list j hj h4
      · exact Below.set8 HB5.out (Nat.le_refl _)
  · have hkl := knick_len s.data.toList
    have HK : Hid (kread s.data.toList = if (kallP (strB (knick s.data.toList)).size (newP (strB (knick s.data.toList)))).1.e = 0 then .ok (kfill (kallP (strB (knick s.data.toList)).size (newP (strB (knick s.data.toList)))).2) else .error ((kallP (strB (knick s.data.toList)).size (newP (strB (knick s.data.toList)))).1.a, (kallP (strB (knick s.data.toList)).size (newP (strB (knick s.data.toList)))).1.e)) := by
      show _ = _
      unfold kread
      simp only [hk, if_false, newP_eq, strB_data, strB_size]
    have hT : (strB (knick s.data.toList)).toList.isEmpty = false := by rw [strB_tol]; simpa using hk
    have hs2 : (strB (knick s.data.toList)).size ≤ 1000000 := by rw [strB_size]; omega
    clear hk hkl
    generalize strB (knick s.data.toList) = T at *
    go_enter Tryz.func21, Tryz.ntmps21
    go_wp2_with fail
    refine (HN.out _).mono ?_
    rintro e w1 ⟨rfl, hb1⟩
    have HB1 := Lib.hid (bthn HB0.out hb1 HB0.out.size)
    have HM1 := Lib.hid (HM0.out.below hb1)
    have HZ1 := Lib.hid (HZ0.out.below (HZ0.out.lt (by decide)) hb1)
    clear hb1
    go_wp2_with fail
    refine (new_ps (Nat.le_trans hs2 (by decide)) _).mono ?_
    rintro e w2 ⟨b, hb, rfl, hr2, hb2⟩
    have hlt2 := hr2.lt
    have hbw : w.heap.size ≤ b := Nat.le_trans HB1.out.size hb
    have HB2 := Lib.hid (bthn HB1.out hb2 HB1.out.size)
    have HM2 := Lib.hid (HM1.out.below hb2)
    have HZ2 := Lib.hid (HZ1.out.below (HZ1.out.lt (by decide)) hb2)
    have hzR := HZ2.out.lt (by decide)
    have hRb : w.heap.size ≠ b := by have := HZ1.out.lt (by decide); omega
    clear hb2
    go_wp2_with fail
    have HB3 := Lib.hid ((HB2.out.alloc HB2.out.size (.cells #[.pointer (some ⟨b, 0, none⟩), .string (T)] 95)).alloc (by have := HB2.out.size; simp; omega) (.cells #[.slice none 0 0, .slice none 0 0, .slice none 0 0, .slice none 0 0, .bool false, .slice none 0 0, .slice none 0 0, .slice none 0 0] 40))
    have HZ3 := Lib.hid (((HZ2.out.alloc hzR (.cells #[.pointer (some ⟨b, 0, none⟩), .string (T)] 95)).alloc (by simp; omega) (.cells #[.slice none 0 0, .slice none 0 0, .slice none 0 0, .slice none 0 0, .bool false, .slice none 0 0, .slice none 0 0, .slice none 0 0] 40)))
    have HX3 := Lib.hid ((kbox_new w2 b (T) 95).alloc (.cells #[.slice none 0 0, .slice none 0 0, .slice none 0 0, .slice none 0 0, .bool false, .slice none 0 0, .slice none 0 0, .slice none 0 0] 40))
    refine (words_any (B := w2.heap.size + 2) (C := w2.heap.size + 1) hs2 ((hr2.alloc _).alloc _) (calAt_new2 w2 _ _ _) ((HM2.out.alloc _).alloc _) (by omega) (by omega) (by omega) (by simp)).mono ?_
    rintro e w4 ⟨rfl, h4, hc4, g4⟩
    have HB4 := Lib.hid (g4.below HB3.out hbw (by omega) HB3.out.size)
    have HZ4 := Lib.hid (HZ3.out.chg2 g4 hRb (by omega))
    obtain ⟨c0, c1⟩ := (⟨g4.cell (by omega) (by omega) HX3.out.1, g4.cell (by omega) (by omega) HX3.out.2⟩ : KBox w4 w2.heap.size b (T))
    clear hr2
    go_wp2_with fail
    refine (wrong_ps h4).mono ?_
    rintro e w5 ⟨rfl, hn5⟩
    have hb5 : Below w4.heap.size w4 w5 := by obtain ⟨n5, rfl⟩ := hn5; exact ⟨rfl, rfl, rfl, Nat.le_refl _, fun _ _ => rfl⟩
    clear hn5
    have HB5 := Lib.hid (bthn HB4.out hb5 HB4.out.size)
    have HZ5 := Lib.hid (HZ4.out.below (HZ4.out.lt (by decide)) hb5)
    have HC5 := Lib.hid (calAt_below hc4 (by omega) hb5)
    have hzR5 := HZ5.out.lt (by decide)
    generalize kallP (T).size (newP (T)) = r at *
    obtain ⟨τ, c⟩ := r
    dsimp only at *
    have z0 : w5.cell? ⟨w.heap.size, 0, none⟩ = some (.slice none 0 0) := HZ5.out.1 0 (by decide)
    have z1 : w5.cell? ⟨w.heap.size, 1, none⟩ = some (.slice none 0 0) := HZ5.out.1 1 (by decide)
    have z2 : w5.cell? ⟨w.heap.size, 2, none⟩ = some (.slice none 0 0) := HZ5.out.1 2 (by decide)
    have z3 : w5.cell? ⟨w.heap.size, 3, none⟩ = some (.slice none 0 0) := HZ5.out.1 3 (by decide)
    have z4 : w5.cell? ⟨w.heap.size, 4, none⟩ = some (.bool false) := HZ5.out.1 4 (by decide)
    have z5 : w5.cell? ⟨w.heap.size, 5, none⟩ = some (.slice none 0 0) := HZ5.out.1 5 (by decide)
    have z6 : w5.cell? ⟨w.heap.size, 6, none⟩ = some (.slice none 0 0) := HZ5.out.1 6 (by decide)
    have z7 : w5.cell? ⟨w.heap.size, 7, none⟩ = some (.slice none 0 0) := HZ5.out.1 7 (by decide)
    have zf := HZ5.out.2
    clear c0 c1 h4 hc4 g4 hb5
    by_cases he : τ.e = 0
    · have HK2 : Hid (kread s.data.toList = .ok (kfill c)) := by show _ = _; rw [HK.out, if_pos he]
      rw [he]
      obtain ⟨g, hg, x0, x1, x2, x3, x4, x5, x6, x7, xf⟩ := calAt_cells HC5.out (D := w.heap.size) (by omega)
      clear z0 z1 z2 z3 z4 z5 z6 z7 zf
      go_wp2_with fail
      refine (filled_any g c _ w.heap.size hzR5 hg).mono ?_
      rintro e w6 ⟨g6, rfl, hg6, hb6⟩
      have HB6 := Lib.hid (bthn HB5.out hb6 HB5.out.size)
      have HZ6 := Lib.hid (HZ5.out.below (HZ5.out.lt (by decide)) hb6)
      have z0 : w6.cell? ⟨w.heap.size, 0, none⟩ = some (.slice none 0 0) := HZ6.out.1 0 (by decide)
      have z1 : w6.cell? ⟨w.heap.size, 1, none⟩ = some (.slice none 0 0) := HZ6.out.1 1 (by decide)
      have z2 : w6.cell? ⟨w.heap.size, 2, none⟩ = some (.slice none 0 0) := HZ6.out.1 2 (by decide)
      have z3 : w6.cell? ⟨w.heap.size, 3, none⟩ = some (.slice none 0 0) := HZ6.out.1 3 (by decide)
      have z4 : w6.cell? ⟨w.heap.size, 4, none⟩ = some (.bool false) := HZ6.out.1 4 (by decide)
      have z5 : w6.cell? ⟨w.heap.size, 5, none⟩ = some (.slice none 0 0) := HZ6.out.1 5 (by decide)
      have z6 : w6.cell? ⟨w.heap.size, 6, none⟩ = some (.slice none 0 0) := HZ6.out.1 6 (by decide)
      have z7 : w6.cell? ⟨w.heap.size, 7, none⟩ = some (.slice none 0 0) := HZ6.out.1 7 (by decide)
      have zf := HZ6.out.2
      obtain ⟨A, n, m, hv6, hL6⟩ := calRd_cells hg6
      have HL6 := Lib.hid hL6
      rw [hv6]
      clear hg6 hL6 hv6 hb6 x0 x1 x2 x3 x4 x5 x6 x7 xf hg
      go_wp2
      refine bodyPost_ret (v := .tuple #[.agg #[.slice (A 0) (n 0) (m 0), .slice (A 1) (n 1) (m 1), .slice (A 2) (n 2) (m 2), .slice (A 3) (n 3) (m 3), .bool (kfill c).back, .slice (A 5) (n 5) (m 5), .slice (A 6) (n 6) (m 6), .slice (A 7) (n 7) (m 7)], .int .i64 s.size, .int .i64 0]) ?_ rfl ⟨fun j => if j = 4 then .bool (kfill c).back else .slice (A j) (n j) (m j), w.heap.size, by rw [HK2.out]; rfl, ⟨by rw [HK2.out]; rfl, fun j hj h4 => ?_⟩, ?_⟩
      · rw [results_cell2 rfl]
        go_simp
      · dsimp only
        rw [if_neg h4, HK2.out]
        exact (HL6.out j hj h4).out8
      · exact Below.set8 HB6.out (Nat.le_refl _)
    · have HK2 : Hid (kread s.data.toList = .error (τ.a, τ.e)) := by show _ = _; rw [HK.out, if_neg he]
      go_wp2
      refine bodyPost_ret (v := .tuple #[.agg #[.slice none 0 0, .slice none 0 0, .slice none 0 0, .slice none 0 0, .bool false, .slice none 0 0, .slice none 0 0, .slice none 0 0], .int .i64 τ.a, .int .i64 τ.e]) ?_ rfl ⟨calZ, w.heap.size, by rw [HK2.out]; rfl, ⟨by rw [HK2.out]; rfl, fun j hj h4 => ?_⟩, ?_⟩
      · rw [results_cell2 rfl]
        go_simp
      · rw [HK2.out]; exact calZ_list j hj h4
      · exact Below.set8 HB5.out (Nat.le_refl _)
end Go.Proofs.YtnelecjjbmjhaaaGreatDoor
