/- The walks of package unit: Days. -/
import Derived.Test.YtochhmkdhdadhaaGreatWClC
/- The walks of package unit. -/
namespace Go.Proofs.YtochhmkdhdadhaaGreat
open Go.RowKit
set_option linter.unusedSimpArgs false
set_option linter.unusedVariables false

/-- How many seconds a unit below a day has; which unit a day, an instant, lies in; is an instant on a step? -/
def sizeU (u : Int) : Int := if u = 0 then 1 else if u = 1 then 60 else if u = 2 then 3600 else 0
def ofDayU (u n : Int) : Int := if u = 3 then n else if u = 4 then wkD n else if u = 5 then 12 * yD n + mD n - 1 else yD n
def whichU (u t : Int) : Int := if 0 < sizeU u then t / sizeU u else ofDayU u (t / 86400)
def okU (u t : Int) : Bool := decide (inC t = true ∧ 0 ≤ u ∧ u < 7)
def onU (u s a t : Int) : Bool := decide (okU u a = true ∧ okU u t = true ∧ 1 ≤ s ∧ (whichU u t - whichU u a) % s = 0)
set_option maxHeartbeats 400000 in
theorem usize_any (u : Int) (w : World) : Calls Tryz.prog 124 #[.int .i64 u] w (Ret (.int .i64 (sizeU u)) w) := by
  by_cases h0 : u = 0
  · subst h0
    go_enter Tryz.func124, Tryz.ntmps124
    go_wp2
    go_ret
    exact ⟨rfl, by (repeat' (first | (with_reducible exact Below.refl _ _) | (with_reducible assumption) | (with_reducible refine below_drewN ?_ _) | (with_reducible refine Below.alloc ?_ ?_ _) | (with_reducible refine Below.drew ?_) | (with_reducible refine Below.setCell ?_ ?_ _) | go_size))⟩
  · by_cases h1 : u = 1
    · subst h1
      go_enter Tryz.func124, Tryz.ntmps124
      go_wp2
      go_ret
      exact ⟨rfl, by (repeat' (first | (with_reducible exact Below.refl _ _) | (with_reducible assumption) | (with_reducible refine below_drewN ?_ _) | (with_reducible refine Below.alloc ?_ ?_ _) | (with_reducible refine Below.drew ?_) | (with_reducible refine Below.setCell ?_ ?_ _) | go_size))⟩
    · by_cases h2 : u = 2
      · subst h2
        go_enter Tryz.func124, Tryz.ntmps124
        go_wp2
        go_ret
        exact ⟨rfl, by (repeat' (first | (with_reducible exact Below.refl _ _) | (with_reducible assumption) | (with_reducible refine below_drewN ?_ _) | (with_reducible refine Below.alloc ?_ ?_ _) | (with_reducible refine Below.drew ?_) | (with_reducible refine Below.setCell ?_ ?_ _) | go_size))⟩
      · have HR : Hid (sizeU u = 0) := by show _ = _; unfold sizeU; rw [if_neg h0, if_neg h1, if_neg h2]
        by_cases hn : u < 0
        · clear h0 h1 h2
          go_enter Tryz.func124, Tryz.ntmps124
          go_wp2
          go_ret
          exact ⟨ret_int HR.out.symm, by (repeat' (first | (with_reducible exact Below.refl _ _) | (with_reducible assumption) | (with_reducible refine below_drewN ?_ _) | (with_reducible refine Below.alloc ?_ ?_ _) | (with_reducible refine Below.drew ?_) | (with_reducible refine Below.setCell ?_ ?_ _) | go_size))⟩
        · have h3 : ¬ u < 3 := by omega
          clear h0 h1 h2
          go_enter Tryz.func124, Tryz.ntmps124
          go_wp2
          go_ret
          exact ⟨ret_int HR.out.symm, by (repeat' (first | (with_reducible exact Below.refl _ _) | (with_reducible assumption) | (with_reducible refine below_drewN ?_ _) | (with_reducible refine Below.alloc ?_ ?_ _) | (with_reducible refine Below.drew ?_) | (with_reducible refine Below.setCell ?_ ?_ _) | go_size))⟩
set_option maxHeartbeats 1000000 in
theorem uofDay_any (u n : Int) (h : 0 ≤ n) (h1 : n < 146097) (w : World) : Calls Tryz.prog 125 #[.int .i64 u, shV n] w (Ret (.int .i64 (ofDayU u n)) w) := by
  have HN := Lib.hid (fun W => wnumber_any n h (by omega) W)
  obtain ⟨y0, y1, m0, m1, d0, d1, l0, l1, c0, c1⟩ := date_bds h h1
  have HG : Hid (shN n (yD n) (mD n) (dD n) 0 = n ∧ shN n (yD n) (mD n) (dD n) 1 = yD n ∧ shN n (yD n) (mD n) (dD n) 2 = mD n) := ⟨rfl, rfl, rfl⟩
  unfold shV
  rw [HG.out.1, HG.out.2.1, HG.out.2.2]
  generalize shN n (yD n) (mD n) (dD n) = g at *
  have H3 : Hid (u = 3 → ofDayU u n = n) := by intro e; unfold ofDayU; rw [if_pos e]
  have H4 : Hid (u = 4 → ofDayU u n = wkD n) := by intro e; subst e; rfl
  have H5 : Hid (u = 5 → ofDayU u n = 12 * yD n + mD n - 1) := by intro e; subst e; rfl
  have H6 : Hid (u ≠ 3 → u ≠ 4 → u ≠ 5 → ofDayU u n = yD n) := by intro e1 e2 e3; unfold ofDayU; rw [if_neg e1, if_neg e2, if_neg e3]
  generalize ofDayU u n = R at *
  generalize wkD n = k at *
  generalize yD n = y at *
  generalize mD n = m at *
  clear d0 d1 l0 l1 c0 c1 HG
  by_cases e3 : u = 3
  · have HR := Lib.hid (H3.out e3)
    subst e3
    clear H3 H4 H5 H6
    go_enter Tryz.func125, Tryz.ntmps125
    go_wp2
    go_ret
    exact ⟨ret_int HR.out.symm, by (repeat' (first | (with_reducible exact Below.refl _ _) | (with_reducible assumption) | (with_reducible refine below_drewN ?_ _) | (with_reducible refine Below.alloc ?_ ?_ _) | (with_reducible refine Below.drew ?_) | (with_reducible refine Below.setCell ?_ ?_ _) | go_size))⟩
  · by_cases e4 : u = 4
    · have HR := Lib.hid (H4.out e4)
      subst e4
      clear H3 H4 H5 H6 e3
      go_enter Tryz.func125, Tryz.ntmps125
      go_wp2_with fail
      refine (HN.out _).mono ?_
      rintro e w1 ⟨rfl, rfl⟩
      go_wp2
      go_ret
      exact ⟨ret_int HR.out.symm, by (repeat' (first | (with_reducible exact Below.refl _ _) | (with_reducible assumption) | (with_reducible refine below_drewN ?_ _) | (with_reducible refine Below.alloc ?_ ?_ _) | (with_reducible refine Below.drew ?_) | (with_reducible refine Below.setCell ?_ ?_ _) | go_size))⟩
    · by_cases e5 : u = 5
      · have HR := Lib.hid (H5.out e5)
        subst e5
        clear H3 H4 H5 H6 e3 e4
        go_enter Tryz.func125, Tryz.ntmps125
        go_wp2
        go_ret
        exact ⟨ret_int HR.out.symm, by (repeat' (first | (with_reducible exact Below.refl _ _) | (with_reducible assumption) | (with_reducible refine below_drewN ?_ _) | (with_reducible refine Below.alloc ?_ ?_ _) | (with_reducible refine Below.drew ?_) | (with_reducible refine Below.setCell ?_ ?_ _) | go_size))⟩
      · have HR := Lib.hid (H6.out e3 e4 e5)
        have b3 : (u == 3) = false := by simpa using e3
        have b4 : (u == 4) = false := by simpa using e4
        have b5 : (u == 5) = false := by simpa using e5
        clear H3 H4 H5 H6 e3 e4 e5
        go_enter Tryz.func125, Tryz.ntmps125
        go_wp2
        go_ret
        exact ⟨ret_int HR.out.symm, by (repeat' (first | (with_reducible exact Below.refl _ _) | (with_reducible assumption) | (with_reducible refine below_drewN ?_ _) | (with_reducible refine Below.alloc ?_ ?_ _) | (with_reducible refine Below.drew ?_) | (with_reducible refine Below.setCell ?_ ?_ _) | go_size))⟩
end Go.Proofs.YtochhmkdhdadhaaGreat

/- The walks of package unit: Which, On, Days. -/
namespace Go.Proofs.YtochhmkdhdadhaaGreat
open Go.RowKit
set_option linter.unusedSimpArgs false
set_option linter.unusedVariables false

theorem in_bd {t : Int} (h : inC t = true) : 0 ≤ t ∧ t < 12622780800 := of_decide_eq_true h
theorem okU_parts {u t : Int} (h : okU u t = true) : inC t = true ∧ 0 ≤ u ∧ u < 7 := of_decide_eq_true h
theorem which_bd {u t : Int} (h : okU u t = true) : 0 ≤ whichU u t ∧ whichU u t ≤ 12622780800 := by
  obtain ⟨h1, h2, h3⟩ := okU_parts h
  have h4 := in_bd h1
  have h5 := date_bds (n := t / 86400) (by omega) (by omega)
  have hk : 0 ≤ wkD (t / 86400) ∧ wkD (t / 86400) ≤ 1000000 := by unfold wkD; split <;> omega
  unfold whichU ofDayU sizeU
  (repeat' split) <;> omega
set_option maxHeartbeats 1000000 in
theorem uwhich_bad (u t : Int) (h : okU u t = false) (w : World) : Calls Tryz.prog 97 #[.int .i64 u, .int .i64 t] w (Ret (.tuple #[.int .i64 0, .bool false]) w) := by
  cases hi : inC t with
  | false =>
    have HS := Lib.hid (fun W => split_bad t hi W)
    clear h hi
    go_enter Tryz.func97, Tryz.ntmps97
    go_wp2_with fail
    refine (HS.out _).mono ?_
    rintro e w1 ⟨rfl, rfl⟩
    go_wp2
    refine bodyPost_ret (results_tmp2 rfl _ _ _) rfl ?_
    exact ⟨rfl, by (repeat' (first | (with_reducible exact Below.refl _ _) | (with_reducible assumption) | (with_reducible refine below_drewN ?_ _) | (with_reducible refine Below.alloc ?_ ?_ _) | (with_reducible refine Below.drew ?_) | (with_reducible refine Below.setCell ?_ ?_ _) | go_size))⟩
  | true =>
    have HS := Lib.hid (fun W => split_ok t hi W)
    by_cases hu : u < 0
    · clear h hi
      go_enter Tryz.func97, Tryz.ntmps97
      go_wp2_with fail
      refine (HS.out _).mono ?_
      rintro e w1 ⟨rfl, rfl⟩
      go_wp2
      refine bodyPost_ret (results_tmp2 rfl _ _ _) rfl ?_
      exact ⟨rfl, by (repeat' (first | (with_reducible exact Below.refl _ _) | (with_reducible assumption) | (with_reducible refine below_drewN ?_ _) | (with_reducible refine Below.alloc ?_ ?_ _) | (with_reducible refine Below.drew ?_) | (with_reducible refine Below.setCell ?_ ?_ _) | go_size))⟩
    · have h7 : 7 ≤ u := by
        by_cases h7 : 7 ≤ u
        · exact h7
        · rw [show okU u t = true from decide_eq_true ⟨hi, by omega, by omega⟩] at h; cases h
      clear h hi
      go_enter Tryz.func97, Tryz.ntmps97
      go_wp2_with fail
      refine (HS.out _).mono ?_
      rintro e w1 ⟨rfl, rfl⟩
      go_wp2
      refine bodyPost_ret (results_tmp2 rfl _ _ _) rfl ?_
      exact ⟨rfl, by (repeat' (first | (with_reducible exact Below.refl _ _) | (with_reducible assumption) | (with_reducible refine below_drewN ?_ _) | (with_reducible refine Below.alloc ?_ ?_ _) | (with_reducible refine Below.drew ?_) | (with_reducible refine Below.setCell ?_ ?_ _) | go_size))⟩
set_option maxHeartbeats 1000000 in
theorem uwhich_ok (u t : Int) (h : okU u t = true) (w : World) : Calls Tryz.prog 97 #[.int .i64 u, .int .i64 t] w (Ret (.tuple #[.int .i64 (whichU u t), .bool true]) w) := by
  obtain ⟨hi, hu0, hu7⟩ := okU_parts h
  obtain ⟨ht0, ht1⟩ := in_bd hi
  have HS := Lib.hid (fun W => split_ok t hi W)
  have HZ := Lib.hid (fun W => usize_any u W)
  have HSh := Lib.hid (fun W => shape_any (t / 86400) (by omega) (by omega) W)
  have HO := Lib.hid (fun W => uofDay_any u (t / 86400) (by omega) (by omega) W)
  have hu0' : ¬ u < 0 := by omega
  have hu7' : ¬ 7 ≤ u := by omega
  by_cases hz : 0 < sizeU u
  · have HR : Hid (whichU u t = t / sizeU u) := if_pos hz
    have hz1 : sizeU u ≤ 3600 := by unfold sizeU; (repeat' split) <;> omega
    have E1 : Int.tdiv t (sizeU u) = t / sizeU u := Int.tdiv_eq_ediv_of_nonneg ht0
    have hq0 : 0 ≤ t / sizeU u := Int.ediv_nonneg ht0 (by omega)
    have hq1 : t / sizeU u ≤ t := Int.ediv_le_self _ ht0
    have hne : (sizeU u == 0) = false := by rw [beq_eq_false_iff_ne]; omega
    rw [HR.out]
    clear h hi HR HSh HO
    generalize sizeU u = z at *
    generalize t / z = q at *
    go_enter Tryz.func97, Tryz.ntmps97
    go_wp2_with fail
    refine (HS.out _).mono ?_
    rintro e w1 ⟨rfl, rfl⟩
    go_wp2_with fail
    refine (HZ.out _).mono ?_
    rintro e w2 ⟨rfl, hb2⟩
    go_wp2
    refine bodyPost_ret (results_tmp2 rfl _ _ _) rfl ?_
    exact ⟨rfl, by (repeat' (first | (with_reducible exact Below.refl _ _) | (with_reducible assumption) | (with_reducible refine below_drewN ?_ _) | (with_reducible refine Below.alloc ?_ ?_ _) | (with_reducible refine Below.drew ?_) | (with_reducible refine Below.setCell ?_ ?_ _) | go_size))⟩
  · have HR : Hid (whichU u t = ofDayU u (t / 86400)) := if_neg hz
    rw [HR.out]
    clear h hi HR
    generalize ofDayU u (t / 86400) = R at *
    generalize sizeU u = z at *
    have HV : Hid (∃ g : Nat → Int, shV (t / 86400) = .agg #[.int .i64 (g 0), .int .i64 (g 1), .int .i64 (g 2), .int .i64 (g 3), .int .i64 (g 4), .int .i64 (g 5), .int .i64 (g 6), .int .i64 (g 7), .int .i64 (g 8), .int .i64 (g 9)]) := ⟨_, rfl⟩
    obtain ⟨g, hg⟩ := HV.out
    rw [hg] at HSh HO
    clear hg HV
    go_enter Tryz.func97, Tryz.ntmps97
    go_wp2_with fail
    refine (HS.out _).mono ?_
    rintro e w1 ⟨rfl, rfl⟩
    go_wp2_with fail
    refine (HZ.out _).mono ?_
    rintro e w2 ⟨rfl, hb2⟩
    go_wp2_with fail
    refine (HSh.out _).mono ?_
    rintro e w3 ⟨rfl, hb3⟩
    have hb23 := bthen hb2 hb3 hb2.size
    go_wp2_with fail
    refine (HO.out _).mono ?_
    rintro e w4 ⟨rfl, hb4⟩
    have hb5 : Below w.heap.size w w4 := (hb23.alloc hb23.size _).trans (hb4.mono (by have := hb23.size; simp; omega))
    clear hb4
    go_wp2
    refine bodyPost_ret (results_tmp2 rfl _ _ _) rfl ?_
    exact ⟨rfl, hb5⟩
theorem tmod_zero {x s : Int} (hs : 1 ≤ s) : (Int.tmod x s == 0) = decide (x % s = 0) := by
  rw [Bool.eq_iff_iff, beq_iff_eq, decide_eq_true_eq]
  constructor
  · intro h; exact Int.emod_eq_zero_of_dvd (Int.dvd_of_tmod_eq_zero h)
  · intro h; exact Int.tmod_eq_zero_of_dvd (Int.dvd_of_emod_eq_zero h)
set_option maxHeartbeats 1000000 in
theorem uon_any (u s a t : Int) (w : World) : Calls Tryz.prog 66 #[.int .i64 u, .int .i64 s, .int .i64 a, .int .i64 t] w (Ret (.bool (onU u s a t)) w) := by
  cases ha : okU u a with
  | false =>
    have H1 := Lib.hid (fun W => uwhich_bad u a ha W)
    have HR : Hid (onU u s a t = false) := decide_eq_false (fun h => by rw [ha] at h; cases h.1)
    rw [HR.out]
    clear HR ha
    cases ht : okU u t with
    | false =>
      have H2 := Lib.hid (fun W => uwhich_bad u t ht W)
      clear ht
      go_enter Tryz.func66, Tryz.ntmps66
      go_wp2_with fail
      refine (H1.out _).mono ?_
      rintro e w1 ⟨rfl, hb1⟩
      go_wp2_with fail
      refine (H2.out _).mono ?_
      rintro e w2 ⟨rfl, hb2⟩
      go_wp2
      go_ret
      exact ⟨rfl, bthen hb1 hb2 hb1.size⟩
    | true =>
      have H2 := Lib.hid (fun W => uwhich_ok u t ht W)
      clear ht
      generalize whichU u t = q at *
      go_enter Tryz.func66, Tryz.ntmps66
      go_wp2_with fail
      refine (H1.out _).mono ?_
      rintro e w1 ⟨rfl, hb1⟩
      go_wp2_with fail
      refine (H2.out _).mono ?_
      rintro e w2 ⟨rfl, hb2⟩
      go_wp2
      go_ret
      exact ⟨rfl, bthen hb1 hb2 hb1.size⟩
  | true =>
    have H1 := Lib.hid (fun W => uwhich_ok u a ha W)
    cases ht : okU u t with
    | false =>
      have H2 := Lib.hid (fun W => uwhich_bad u t ht W)
      have HR : Hid (onU u s a t = false) := decide_eq_false (fun h => by rw [ht] at h; cases h.2.1)
      rw [HR.out]
      clear HR ht ha
      generalize whichU u a = p at *
      go_enter Tryz.func66, Tryz.ntmps66
      go_wp2_with fail
      refine (H1.out _).mono ?_
      rintro e w1 ⟨rfl, hb1⟩
      go_wp2_with fail
      refine (H2.out _).mono ?_
      rintro e w2 ⟨rfl, hb2⟩
      go_wp2
      go_ret
      exact ⟨rfl, bthen hb1 hb2 hb1.size⟩
    | true =>
      have H2 := Lib.hid (fun W => uwhich_ok u t ht W)
      have hb := which_bd ha
      have hc := which_bd ht
      by_cases hs : 1 ≤ s
      · have HR : Hid (onU u s a t = decide ((whichU u t - whichU u a) % s = 0)) := by
          show _ = _
          unfold onU
          rw [ha, ht]
          simp [hs]
        rw [HR.out]
        clear HR ha ht
        generalize whichU u a = p at *
        generalize whichU u t = q at *
        have HT : Hid ((Int.tmod (q - p) s == 0) = decide ((q - p) % s = 0)) := tmod_zero hs
        obtain ⟨b0, b1⟩ := hb
        obtain ⟨c0, c1⟩ := hc
        have hne : (s == 0) = false := by rw [beq_eq_false_iff_ne]; omega
        have hne1 : (s == -1) = false := by rw [beq_eq_false_iff_ne]; omega
        generalize hD : decide ((q - p) % s = 0) = D at *
        clear hD
        go_enter Tryz.func66, Tryz.ntmps66
        go_wp2_with fail
        refine (H1.out _).mono ?_
        rintro e w1 ⟨rfl, hb1⟩
        go_wp2_with fail
        refine (H2.out _).mono ?_
        rintro e w2 ⟨rfl, hb2⟩
        go_wp2
        go_ret
        exact ⟨ret_bool HT.out, bthen hb1 hb2 hb1.size⟩
      · have HR : Hid (onU u s a t = false) := decide_eq_false (fun h => hs h.2.2.1)
        rw [HR.out]
        clear HR ha ht
        generalize whichU u a = p at *
        generalize whichU u t = q at *
        go_enter Tryz.func66, Tryz.ntmps66
        go_wp2_with fail
        refine (H1.out _).mono ?_
        rintro e w1 ⟨rfl, hb1⟩
        go_wp2_with fail
        refine (H2.out _).mono ?_
        rintro e w2 ⟨rfl, hb2⟩
        go_wp2
        go_ret
        exact ⟨rfl, bthen hb1 hb2 hb1.size⟩
end Go.Proofs.YtochhmkdhdadhaaGreat

namespace Go.Proofs.YtochhmkdhdadhaaGreat
open Go.RowKit
set_option linter.unusedSimpArgs false
set_option linter.unusedVariables false

/-- A function that tells, of a day's shape, whether p of the day. -/
def PredSh (g : Nat) (lb : Array Value) (p : Int → Bool) (w : World) : Prop := ∀ W, Below w.heap.size w W → ∀ n, 0 ≤ n → n < 146097 → Calls Tryz.prog g (#[shV n] ++ lb) W (Ret (.bool (p n)) W)
def dayU (u s a n : Int) : Bool := decide (okU u a = true ∧ 1 ≤ s ∧ (0 < sizeU u ∨ s = 1 ∨ (ofDayU u n - whichU u a) % s = 0))
/-- It hands back such a function. -/
def RetSh (p : Int → Bool) (w : World) (x : Ending) (w' : World) : Prop := ∃ g lb, x = .returned (.func (.func g) #[] lb) ∧ (∀ args w, (callFunc g args).run Tryz.prog w = .ok (.enter g args) w) ∧ PredSh g lb p w' ∧ Below w.heap.size w w'
theorem dayU_yes {u s a n : Int} (ha : okU u a = true) (hs : 1 ≤ s) (h : 0 < sizeU u ∨ s = 1) : dayU u s a n = true := decide_eq_true ⟨ha, hs, h.elim .inl (fun h => .inr (.inl h))⟩
theorem dayU_no {u s a n : Int} (h : ¬ (okU u a = true ∧ 1 ≤ s)) : dayU u s a n = false := decide_eq_false (fun g => h ⟨g.1, g.2.1⟩)
theorem udays1_any (w : World) : PredSh 167 #[] (fun _ => false) w := by
  intro W _ n _ _
  have HV : Hid (∃ g : Nat → Int, shV n = .agg #[.int .i64 (g 0), .int .i64 (g 1), .int .i64 (g 2), .int .i64 (g 3), .int .i64 (g 4), .int .i64 (g 5), .int .i64 (g 6), .int .i64 (g 7), .int .i64 (g 8), .int .i64 (g 9)]) := ⟨_, rfl⟩
  obtain ⟨g, hg⟩ := HV.out
  rw [hg]
  clear hg HV
  go_enter Tryz.func167, Tryz.ntmps167
  go_wp2
  go_ret
  exact ⟨rfl, by (repeat' (first | (with_reducible exact Below.refl _ _) | (with_reducible assumption) | (with_reducible refine below_drewN ?_ _) | (with_reducible refine Below.alloc ?_ ?_ _) | (with_reducible refine Below.drew ?_) | (with_reducible refine Below.setCell ?_ ?_ _) | go_size))⟩
theorem udays2_any (w : World) : PredSh 168 #[] (fun _ => true) w := by
  intro W _ n _ _
  have HV : Hid (∃ g : Nat → Int, shV n = .agg #[.int .i64 (g 0), .int .i64 (g 1), .int .i64 (g 2), .int .i64 (g 3), .int .i64 (g 4), .int .i64 (g 5), .int .i64 (g 6), .int .i64 (g 7), .int .i64 (g 8), .int .i64 (g 9)]) := ⟨_, rfl⟩
  obtain ⟨g, hg⟩ := HV.out
  rw [hg]
  clear hg HV
  go_enter Tryz.func168, Tryz.ntmps168
  go_wp2
  go_ret
  exact ⟨rfl, by (repeat' (first | (with_reducible exact Below.refl _ _) | (with_reducible assumption) | (with_reducible refine below_drewN ?_ _) | (with_reducible refine Below.alloc ?_ ?_ _) | (with_reducible refine Below.drew ?_) | (with_reducible refine Below.setCell ?_ ?_ _) | go_size))⟩
theorem ofDay_bd (u n : Int) (h : 0 ≤ n) (h1 : n < 146097) : 0 ≤ ofDayU u n ∧ ofDayU u n ≤ 1000000 := by
  have h5 := date_bds h h1
  have hk : 0 ≤ wkD n ∧ wkD n ≤ 1000000 := by unfold wkD; split <;> omega
  unfold ofDayU
  (repeat' split) <;> omega
set_option maxHeartbeats 1000000 in
theorem udays3_any (u s a : Int) (ha : okU u a = true) (hs : 1 ≤ s) (hz : ¬ (0 < sizeU u ∨ s = 1)) (bu ba bs : Nat) (w : World)
    (cu : w.cell? ⟨bu, 0, none⟩ = some (.int .i64 u)) (ca : w.cell? ⟨ba, 0, none⟩ = some (.int .i64 (whichU u a))) (cs : w.cell? ⟨bs, 0, none⟩ = some (.int .i64 s)) :
    PredSh 169 #[.pointer (some ⟨bu, 0, none⟩), .pointer (some ⟨ba, 0, none⟩), .pointer (some ⟨bs, 0, none⟩)] (dayU u s a) w := by
  intro W hW n h0 h1
  have HO := Lib.hid (fun W => uofDay_any u n h0 h1 W)
  have ho := ofDay_bd u n h0 h1
  have hw := which_bd ha
  have HD : Hid (dayU u s a n = (Int.tmod (ofDayU u n - whichU u a) s == 0)) := by
    show _ = _
    rw [tmod_zero hs]
    unfold dayU
    rw [Bool.eq_iff_iff, decide_eq_true_eq, decide_eq_true_eq]
    constructor
    · rintro ⟨_, _, h | h | h⟩
      · exact absurd (.inl h) hz
      · exact absurd (.inr h) hz
      · exact h
    · intro h; exact ⟨ha, hs, .inr (.inr h)⟩
  rw [HD.out]
  have hV : ∃ g : Nat → Int, shV n = .agg #[.int .i64 (g 0), .int .i64 (g 1), .int .i64 (g 2), .int .i64 (g 3), .int .i64 (g 4), .int .i64 (g 5), .int .i64 (g 6), .int .i64 (g 7), .int .i64 (g 8), .int .i64 (g 9)] := ⟨_, rfl⟩
  obtain ⟨g, hg⟩ := hV
  rw [hg] at HO ⊢
  clear hg HD hz ha
  generalize ofDayU u n = x at *
  generalize whichU u a = p at *
  obtain ⟨x0, x1⟩ := ho
  obtain ⟨p0, p1⟩ := hw
  have lu := World.block_lt_of_cell? w _ cu
  have la := World.block_lt_of_cell? w _ ca
  have ls := World.block_lt_of_cell? w _ cs
  have du := (⟨W, hW⟩ : Ext w).cell cu
  have da := (⟨W, hW⟩ : Ext w).cell ca
  have ds := (⟨W, hW⟩ : Ext w).cell cs
  have hz := hW.size
  have hne : (s == 0) = false := by rw [beq_eq_false_iff_ne]; omega
  have hne1 : (s == -1) = false ∨ True := .inr trivial
  clear hne1
  go_enter Tryz.func169, Tryz.ntmps169
  go_wp2_with fail
  generalize hW1 : World.alloc W _ = W1
  have hb1 : Below W.heap.size W W1 := by rw [← hW1]; exact (Below.refl _ _).alloc (Nat.le_refl _) _
  have eu := (⟨W1, hb1⟩ : Ext W).cell du
  have ea := (⟨W1, hb1⟩ : Ext W).cell da
  have es := (⟨W1, hb1⟩ : Ext W).cell ds
  have s0 : W1.cell? ⟨W.heap.size, 0, none⟩ = some (.int .i64 (g 0)) := by rw [← hW1]; exact cell_new rfl rfl
  have s1 : W1.cell? ⟨W.heap.size, 1, none⟩ = some (.int .i64 (g 1)) := by rw [← hW1]; exact cell_new rfl rfl
  have s2 : W1.cell? ⟨W.heap.size, 2, none⟩ = some (.int .i64 (g 2)) := by rw [← hW1]; exact cell_new rfl rfl
  have s3 : W1.cell? ⟨W.heap.size, 3, none⟩ = some (.int .i64 (g 3)) := by rw [← hW1]; exact cell_new rfl rfl
  have s4 : W1.cell? ⟨W.heap.size, 4, none⟩ = some (.int .i64 (g 4)) := by rw [← hW1]; exact cell_new rfl rfl
  have s5 : W1.cell? ⟨W.heap.size, 5, none⟩ = some (.int .i64 (g 5)) := by rw [← hW1]; exact cell_new rfl rfl
  have s6 : W1.cell? ⟨W.heap.size, 6, none⟩ = some (.int .i64 (g 6)) := by rw [← hW1]; exact cell_new rfl rfl
  have s7 : W1.cell? ⟨W.heap.size, 7, none⟩ = some (.int .i64 (g 7)) := by rw [← hW1]; exact cell_new rfl rfl
  have s8 : W1.cell? ⟨W.heap.size, 8, none⟩ = some (.int .i64 (g 8)) := by rw [← hW1]; exact cell_new rfl rfl
  have s9 : W1.cell? ⟨W.heap.size, 9, none⟩ = some (.int .i64 (g 9)) := by rw [← hW1]; exact cell_new rfl rfl
  clear hW1 du da ds lu la ls
  have fu : ∀ y : Ext W1, y.W.cell? ⟨bu, 0, none⟩ = some (.int .i64 u) := fun y => y.cell eu
  have fa : ∀ y : Ext W1, y.W.cell? ⟨ba, 0, none⟩ = some (.int .i64 p) := fun y => y.cell ea
  have fs : ∀ y : Ext W1, y.W.cell? ⟨bs, 0, none⟩ = some (.int .i64 s) := fun y => y.cell es
  have h0' : ∀ y : Ext W1, y.W.cell? ⟨W.heap.size, 0, none⟩ = some (.int .i64 (g 0)) := fun y => y.cell s0
  have h1' : ∀ y : Ext W1, y.W.cell? ⟨W.heap.size, 1, none⟩ = some (.int .i64 (g 1)) := fun y => y.cell s1
  have h2' : ∀ y : Ext W1, y.W.cell? ⟨W.heap.size, 2, none⟩ = some (.int .i64 (g 2)) := fun y => y.cell s2
  have h3' : ∀ y : Ext W1, y.W.cell? ⟨W.heap.size, 3, none⟩ = some (.int .i64 (g 3)) := fun y => y.cell s3
  have h4' : ∀ y : Ext W1, y.W.cell? ⟨W.heap.size, 4, none⟩ = some (.int .i64 (g 4)) := fun y => y.cell s4
  have h5' : ∀ y : Ext W1, y.W.cell? ⟨W.heap.size, 5, none⟩ = some (.int .i64 (g 5)) := fun y => y.cell s5
  have h6' : ∀ y : Ext W1, y.W.cell? ⟨W.heap.size, 6, none⟩ = some (.int .i64 (g 6)) := fun y => y.cell s6
  have h7' : ∀ y : Ext W1, y.W.cell? ⟨W.heap.size, 7, none⟩ = some (.int .i64 (g 7)) := fun y => y.cell s7
  have h8' : ∀ y : Ext W1, y.W.cell? ⟨W.heap.size, 8, none⟩ = some (.int .i64 (g 8)) := fun y => y.cell s8
  have h9' : ∀ y : Ext W1, y.W.cell? ⟨W.heap.size, 9, none⟩ = some (.int .i64 (g 9)) := fun y => y.cell s9
  clear s0 s1 s2 s3 s4 s5 s6 s7 s8 s9 eu ea es cu ca cs
  refine wp_region_grew (by kernel_rfl) (by kernel_rfl) ?_
  repeat (first | go_big_quiet_skip | (go_big_quiet_want; go_big_quiet_op; (first | go_big_quiet_on | go_big_quiet_call ((with_reducible first | exact ext_call _ (HO.out _))))))
  refine wpQuiet_nil ?_
  rintro _ ⟨xw, rfl⟩
  have hbx := bthen hb1 (Ext.h xw) hb1.size
  go_wp2
  go_ret
  exact ⟨rfl, hbx⟩
set_option maxHeartbeats 1000000 in
theorem udays_any (u s a : Int) (w : World) : Calls Tryz.prog 134 #[.int .i64 u, .int .i64 s, .int .i64 a] w (RetSh (dayU u s a) w) := by
  have eg1 : ∀ args w, (callFunc 167 args).run Tryz.prog w = .ok (.enter 167 args) w := enters_of Tryz.func167 (by kernel_rfl) rfl
  have eg2 : ∀ args w, (callFunc 168 args).run Tryz.prog w = .ok (.enter 168 args) w := enters_of Tryz.func168 (by kernel_rfl) rfl
  have eg3 : ∀ args w, (callFunc 169 args).run Tryz.prog w = .ok (.enter 169 args) w := enters_of Tryz.func169 (by kernel_rfl) rfl
  have E1 := Lib.hid eg1
  have E2 := Lib.hid eg2
  have E3 := Lib.hid eg3
  clear eg1 eg2 eg3
  cases ha : okU u a with
  | false =>
    have H1 := Lib.hid (fun W => uwhich_bad u a ha W)
    have HP : Hid (∀ w', PredSh 167 #[] (dayU u s a) w') := fun w' W hW n h0 h1 => by
      rw [dayU_no (fun h => by rw [ha] at h; cases h.1)]
      exact udays1_any w' W hW n h0 h1
    clear ha
    go_enter Tryz.func134, Tryz.ntmps134
    go_wp2_with fail
    refine (H1.out _).mono ?_
    rintro e w1 ⟨rfl, hb1⟩
    obtain ⟨hc, hf⟩ := bcell hb1
    have hbw : Below w.heap.size w w1 := (((Below.refl _ w).alloc (Nat.le_refl _) _).alloc (by simp) _).trans (hb1.mono (by simp; omega))
    have c0 : w1.cell? ⟨w.heap.size, 0, none⟩ = some (.int .i64 u) := by rw [hc _ _ (by simp; omega)]; go_simp
    have c1 : w1.cell? ⟨w.heap.size + 1, 0, none⟩ = some (.int .i64 s) := by rw [hc _ _ (by simp)]; go_simp
    have hz1 : w.heap.size + 1 < w1.heap.size := World.block_lt_of_cell? _ _ c1
    have hz0 : w.heap.size < w1.heap.size := by omega
    clear hb1 hc hf H1
    go_wp2
    go_ret
    exact ⟨_, _, rfl, E1.out, HP.out _, by (repeat' (first | (with_reducible exact Below.refl _ _) | (with_reducible assumption) | (with_reducible refine below_drewN ?_ _) | (with_reducible refine Below.alloc ?_ ?_ _) | (with_reducible refine Below.drew ?_) | (with_reducible refine Below.setCell ?_ ?_ _) | go_size))⟩
  | true =>
    have H1 := Lib.hid (fun W => uwhich_ok u a ha W)
    by_cases hs : s < 1
    · have HP : Hid (∀ w', PredSh 167 #[] (dayU u s a) w') := fun w' W hW n h0 h1 => by
        rw [dayU_no (fun h => by have := h.2; omega)]
        exact udays1_any w' W hW n h0 h1
      clear ha
      generalize whichU u a = p at *
      go_enter Tryz.func134, Tryz.ntmps134
      go_wp2_with fail
      refine (H1.out _).mono ?_
      rintro e w1 ⟨rfl, hb1⟩
      obtain ⟨hc, hf⟩ := bcell hb1
      have hbw : Below w.heap.size w w1 := (((Below.refl _ w).alloc (Nat.le_refl _) _).alloc (by simp) _).trans (hb1.mono (by simp; omega))
      have c0 : w1.cell? ⟨w.heap.size, 0, none⟩ = some (.int .i64 u) := by rw [hc _ _ (by simp; omega)]; go_simp
      have c1 : w1.cell? ⟨w.heap.size + 1, 0, none⟩ = some (.int .i64 s) := by rw [hc _ _ (by simp)]; go_simp
      have hz1 : w.heap.size + 1 < w1.heap.size := World.block_lt_of_cell? _ _ c1
      have hz0 : w.heap.size < w1.heap.size := by omega
      clear hb1 hc hf H1
      go_wp2
      go_ret
      exact ⟨_, _, rfl, E1.out, HP.out _, by (repeat' (first | (with_reducible exact Below.refl _ _) | (with_reducible assumption) | (with_reducible refine below_drewN ?_ _) | (with_reducible refine Below.alloc ?_ ?_ _) | (with_reducible refine Below.drew ?_) | (with_reducible refine Below.setCell ?_ ?_ _) | go_size))⟩
    · have HZ := Lib.hid (fun W => usize_any u W)
      by_cases hz : 0 < sizeU u
      · have HP : Hid (∀ w', PredSh 168 #[] (dayU u s a) w') := fun w' W hW n h0 h1 => by
          rw [dayU_yes ha (by omega) (.inl hz)]
          exact udays2_any w' W hW n h0 h1
        clear ha
        generalize whichU u a = p at *
        generalize sizeU u = z at *
        go_enter Tryz.func134, Tryz.ntmps134
        go_wp2_with fail
        refine (H1.out _).mono ?_
        rintro e w1 ⟨rfl, hb1⟩
        obtain ⟨hc, hf⟩ := bcell hb1
        have hbw : Below w.heap.size w w1 := (((Below.refl _ w).alloc (Nat.le_refl _) _).alloc (by simp) _).trans (hb1.mono (by simp; omega))
        have c0 : w1.cell? ⟨w.heap.size, 0, none⟩ = some (.int .i64 u) := by rw [hc _ _ (by simp; omega)]; go_simp
        have c1 : w1.cell? ⟨w.heap.size + 1, 0, none⟩ = some (.int .i64 s) := by rw [hc _ _ (by simp)]; go_simp
        have hz1 : w.heap.size + 1 < w1.heap.size := World.block_lt_of_cell? _ _ c1
        have hz0 : w.heap.size < w1.heap.size := by omega
        clear hb1 hc hf H1
        go_wp2_with fail
        generalize hW : World.alloc w1 _ = W2
        have hbW : Below w1.heap.size w1 W2 := by rw [← hW]; exact (Below.refl _ _).alloc (Nat.le_refl _) _
        have ca : W2.cell? ⟨w1.heap.size, 0, none⟩ = some (.int .i64 p) := by rw [← hW]; exact cell_new rfl rfl
        have d0 : W2.cell? ⟨w.heap.size, 0, none⟩ = some (.int .i64 u) := (⟨W2, hbW⟩ : Ext w1).cell c0
        have d1 : W2.cell? ⟨w.heap.size + 1, 0, none⟩ = some (.int .i64 s) := (⟨W2, hbW⟩ : Ext w1).cell c1
        have hbw2 := bthen hbw hbW hbw.size
        clear hW c0 c1
        refine (HZ.out _).mono ?_
        rintro e w2 ⟨rfl, hb2⟩
        have v0 : w2.cell? ⟨w.heap.size, 0, none⟩ = some (.int .i64 u) := (⟨w2, hb2⟩ : Ext W2).cell d0
        have v1 : w2.cell? ⟨w.heap.size + 1, 0, none⟩ = some (.int .i64 s) := (⟨w2, hb2⟩ : Ext W2).cell d1
        have va : w2.cell? ⟨w1.heap.size, 0, none⟩ = some (.int .i64 p) := (⟨w2, hb2⟩ : Ext W2).cell ca
        have hbw3 := bthen hbw2 hb2 hbw2.size
        clear hb2 d0 d1 ca hbw hbw2 hbW HZ
        go_wp2
        go_ret
        exact ⟨_, _, rfl, E2.out, HP.out _, by (repeat' (first | (with_reducible exact Below.refl _ _) | (with_reducible assumption) | (with_reducible refine below_drewN ?_ _) | (with_reducible refine Below.alloc ?_ ?_ _) | (with_reducible refine Below.drew ?_) | (with_reducible refine Below.setCell ?_ ?_ _) | go_size))⟩
      · by_cases h1 : s = 1
        · have HP : Hid (∀ w', PredSh 168 #[] (dayU u s a) w') := fun w' W hW n h0 h2 => by
            rw [dayU_yes ha (by omega) (.inr h1)]
            exact udays2_any w' W hW n h0 h2
          have h1' : (s == 1) = true := by simpa using h1
          clear ha h1
          generalize whichU u a = p at *
          generalize sizeU u = z at *
          go_enter Tryz.func134, Tryz.ntmps134
          go_wp2_with fail
          refine (H1.out _).mono ?_
          rintro e w1 ⟨rfl, hb1⟩
          obtain ⟨hc, hf⟩ := bcell hb1
          have hbw : Below w.heap.size w w1 := (((Below.refl _ w).alloc (Nat.le_refl _) _).alloc (by simp) _).trans (hb1.mono (by simp; omega))
          have c0 : w1.cell? ⟨w.heap.size, 0, none⟩ = some (.int .i64 u) := by rw [hc _ _ (by simp; omega)]; go_simp
          have c1 : w1.cell? ⟨w.heap.size + 1, 0, none⟩ = some (.int .i64 s) := by rw [hc _ _ (by simp)]; go_simp
          have hz1 : w.heap.size + 1 < w1.heap.size := World.block_lt_of_cell? _ _ c1
          have hz0 : w.heap.size < w1.heap.size := by omega
          clear hb1 hc hf H1
          go_wp2_with fail
          generalize hW : World.alloc w1 _ = W2
          have hbW : Below w1.heap.size w1 W2 := by rw [← hW]; exact (Below.refl _ _).alloc (Nat.le_refl _) _
          have ca : W2.cell? ⟨w1.heap.size, 0, none⟩ = some (.int .i64 p) := by rw [← hW]; exact cell_new rfl rfl
          have d0 : W2.cell? ⟨w.heap.size, 0, none⟩ = some (.int .i64 u) := (⟨W2, hbW⟩ : Ext w1).cell c0
          have d1 : W2.cell? ⟨w.heap.size + 1, 0, none⟩ = some (.int .i64 s) := (⟨W2, hbW⟩ : Ext w1).cell c1
          have hbw2 := bthen hbw hbW hbw.size
          clear hW c0 c1
          refine (HZ.out _).mono ?_
          rintro e w2 ⟨rfl, hb2⟩
          have v0 : w2.cell? ⟨w.heap.size, 0, none⟩ = some (.int .i64 u) := (⟨w2, hb2⟩ : Ext W2).cell d0
          have v1 : w2.cell? ⟨w.heap.size + 1, 0, none⟩ = some (.int .i64 s) := (⟨w2, hb2⟩ : Ext W2).cell d1
          have va : w2.cell? ⟨w1.heap.size, 0, none⟩ = some (.int .i64 p) := (⟨w2, hb2⟩ : Ext W2).cell ca
          have hbw3 := bthen hbw2 hb2 hbw2.size
          clear hb2 d0 d1 ca hbw hbw2 hbW HZ
          go_wp2
          go_ret
          exact ⟨_, _, rfl, E2.out, HP.out _, by (repeat' (first | (with_reducible exact Below.refl _ _) | (with_reducible assumption) | (with_reducible refine below_drewN ?_ _) | (with_reducible refine Below.alloc ?_ ?_ _) | (with_reducible refine Below.drew ?_) | (with_reducible refine Below.setCell ?_ ?_ _) | go_size))⟩
        · have HP : Hid (∀ (bu ba bs : Nat) (w' : World), w'.cell? ⟨bu, 0, none⟩ = some (.int .i64 u) → w'.cell? ⟨ba, 0, none⟩ = some (.int .i64 (whichU u a)) → w'.cell? ⟨bs, 0, none⟩ = some (.int .i64 s) → PredSh 169 #[.pointer (some ⟨bu, 0, none⟩), .pointer (some ⟨ba, 0, none⟩), .pointer (some ⟨bs, 0, none⟩)] (dayU u s a) w') :=
            fun bu ba bs w' cu ca cs => udays3_any u s a ha (by omega) (fun h => h.elim hz h1) bu ba bs w' cu ca cs
          have h1' : (s == 1) = false := by simpa using h1
          clear ha h1
          generalize whichU u a = p at *
          generalize sizeU u = z at *
          go_enter Tryz.func134, Tryz.ntmps134
          go_wp2_with fail
          refine (H1.out _).mono ?_
          rintro e w1 ⟨rfl, hb1⟩
          obtain ⟨hc, hf⟩ := bcell hb1
          have hbw : Below w.heap.size w w1 := (((Below.refl _ w).alloc (Nat.le_refl _) _).alloc (by simp) _).trans (hb1.mono (by simp; omega))
          have c0 : w1.cell? ⟨w.heap.size, 0, none⟩ = some (.int .i64 u) := by rw [hc _ _ (by simp; omega)]; go_simp
          have c1 : w1.cell? ⟨w.heap.size + 1, 0, none⟩ = some (.int .i64 s) := by rw [hc _ _ (by simp)]; go_simp
          have hz1 : w.heap.size + 1 < w1.heap.size := World.block_lt_of_cell? _ _ c1
          have hz0 : w.heap.size < w1.heap.size := by omega
          clear hb1 hc hf H1
          go_wp2_with fail
          generalize hW : World.alloc w1 _ = W2
          have hbW : Below w1.heap.size w1 W2 := by rw [← hW]; exact (Below.refl _ _).alloc (Nat.le_refl _) _
          have ca : W2.cell? ⟨w1.heap.size, 0, none⟩ = some (.int .i64 p) := by rw [← hW]; exact cell_new rfl rfl
          have d0 : W2.cell? ⟨w.heap.size, 0, none⟩ = some (.int .i64 u) := (⟨W2, hbW⟩ : Ext w1).cell c0
          have d1 : W2.cell? ⟨w.heap.size + 1, 0, none⟩ = some (.int .i64 s) := (⟨W2, hbW⟩ : Ext w1).cell c1
          have hbw2 := bthen hbw hbW hbw.size
          clear hW c0 c1
          refine (HZ.out _).mono ?_
          rintro e w2 ⟨rfl, hb2⟩
          have v0 : w2.cell? ⟨w.heap.size, 0, none⟩ = some (.int .i64 u) := (⟨w2, hb2⟩ : Ext W2).cell d0
          have v1 : w2.cell? ⟨w.heap.size + 1, 0, none⟩ = some (.int .i64 s) := (⟨w2, hb2⟩ : Ext W2).cell d1
          have va : w2.cell? ⟨w1.heap.size, 0, none⟩ = some (.int .i64 p) := (⟨w2, hb2⟩ : Ext W2).cell ca
          have hbw3 := bthen hbw2 hb2 hbw2.size
          clear hb2 d0 d1 ca hbw hbw2 hbW HZ
          go_wp2
          go_ret
          exact ⟨_, _, rfl, E3.out, HP.out _ _ _ _ v0 va v1, by (repeat' (first | (with_reducible exact Below.refl _ _) | (with_reducible assumption) | (with_reducible refine below_drewN ?_ _) | (with_reducible refine Below.alloc ?_ ?_ _) | (with_reducible refine Below.drew ?_) | (with_reducible refine Below.setCell ?_ ?_ _) | go_size))⟩
end Go.Proofs.YtochhmkdhdadhaaGreat
