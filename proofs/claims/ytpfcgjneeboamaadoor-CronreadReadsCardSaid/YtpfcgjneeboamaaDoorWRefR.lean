/- The walks of package feriaref11, the document's reader: a value, in words of the reader's states. -/
import Derived.Test.YtpfcgjneeboamaaDoorRGoes
import Derived.Test.YtpfcgjneeboamaaDoorWBox
import Derived.Deep.LoopGhost
import Derived.Deep.RegionWith
import Derived.LoopN
namespace Go.Proofs.YtpfcgjneeboamaaDoor
open Go.RowKit
set_option linter.unusedSimpArgs false
set_option linter.unusedVariables false

/-- The document's reader. -/
def rV (s : ByteArray) (k a e : Int) : Value := .agg #[.string s, .int .i64 k, .int .i64 a, .int .i64 e]
/-- The value of a reader that stands so. -/
def rvP (s : ByteArray) (σ : PS) : Value := rV s (atP s.size σ) σ.a σ.e
/-- A state of a reader of s. -/
def OfR (s : ByteArray) (σ : PS) : Prop := ∃ k, k ≤ s.size ∧ σ.l = s.data.toList.drop k
theorem OfR.at_ {s : ByteArray} {σ : PS} (h : OfR s σ) : ∃ k : Nat, k ≤ s.size ∧ σ.l = s.data.toList.drop k ∧ atP s.size σ = (k : Int) := by
  obtain ⟨k, hk, hl⟩ := h
  exact ⟨k, hk, hl, atP_eq hk hl⟩
theorem done_at {s : ByteArray} {σ : PS} {k : Nat} (hk : k ≤ s.size) (hl : σ.l = s.data.toList.drop k) : doneP σ = decide (σ.e ≠ 0 ∨ s.size ≤ k) := by
  unfold doneP
  have : (σ.l = []) ↔ s.size ≤ k := by rw [hl, List.drop_eq_nil_iff, len_data]
  simp only [this]
set_option maxHeartbeats 1000000 in
theorem fail_rf (s : ByteArray) (σ : PS) (p q : Int) (w : World) : Calls Tryd.prog 21 #[rvP s σ, .int .i64 p, .int .i64 q] w (Ret (rvP s (failP p q σ)) w) := by
  have ha : atP s.size (failP p q σ) = atP s.size σ := by unfold atP failP; split <;> rfl
  have HR : Hid (rvP s (failP p q σ) = rV s (atP s.size σ) (failP p q σ).a (failP p q σ).e) := by show _ = _; unfold rvP; rw [ha]
  unfold rvP at *
  by_cases he : σ.e = 0
  · by_cases hq : q = 0
    · have HV : Hid (rV s (atP s.size (failP p q σ)) (failP p q σ).a (failP p q σ).e = rV s (atP s.size σ) σ.a σ.e) := by
        show _ = _
        rw [ha]; unfold failP; rw [if_pos he, if_pos hq, he, hq]
      have he' : (σ.e == 0) = true := by simpa using he
      have hq' : (q != 0) = false := by simpa using hq
      rw [HV.out]
      clear HR HV ha
      generalize atP s.size σ = k at *
      unfold rV
      go_enter Tryd.func21, Tryd.ntmps21
      go_wp2
      refine bodyPost_ret (v := .agg #[.string s, .int .i64 k, .int .i64 σ.a, .int .i64 σ.e]) ?_ rfl ⟨rfl, by (repeat' (first | (with_reducible exact Below.refl _ _) | (with_reducible assumption) | (with_reducible refine below_drewN ?_ _) | (with_reducible refine Below.alloc ?_ ?_ _) | (with_reducible refine Below.drew ?_) | (with_reducible refine Below.setCell ?_ ?_ _) | go_size))⟩
      rw [results_cell1 rfl]
      go_simp
    · have HV : Hid (rV s (atP s.size (failP p q σ)) (failP p q σ).a (failP p q σ).e = rV s (atP s.size σ) p q) := by
        show _ = _
        rw [ha]; unfold failP; rw [if_pos he, if_neg hq]
      have he' : (σ.e == 0) = true := by simpa using he
      have hq' : (q != 0) = true := by simpa using hq
      rw [HV.out]
      clear HR HV ha
      generalize atP s.size σ = k at *
      unfold rV
      go_enter Tryd.func21, Tryd.ntmps21
      go_wp2
      refine bodyPost_ret (v := .agg #[.string s, .int .i64 k, .int .i64 p, .int .i64 q]) ?_ rfl ⟨rfl, by (repeat' (first | (with_reducible exact Below.refl _ _) | (with_reducible assumption) | (with_reducible refine below_drewN ?_ _) | (with_reducible refine Below.alloc ?_ ?_ _) | (with_reducible refine Below.drew ?_) | (with_reducible refine Below.setCell ?_ ?_ _) | go_size))⟩
      rw [results_cell1 rfl]
      go_simp
  · have HV : Hid (rV s (atP s.size (failP p q σ)) (failP p q σ).a (failP p q σ).e = rV s (atP s.size σ) σ.a σ.e) := by
      show _ = _
      rw [ha]; unfold failP; rw [if_neg he]
    have he' : (σ.e == 0) = false := by simpa using he
    rw [HV.out]
    clear HR HV ha
    generalize atP s.size σ = k at *
    unfold rV
    go_enter Tryd.func21, Tryd.ntmps21
    go_wp2
    refine bodyPost_ret (v := .agg #[.string s, .int .i64 k, .int .i64 σ.a, .int .i64 σ.e]) ?_ rfl ⟨rfl, by (repeat' (first | (with_reducible exact Below.refl _ _) | (with_reducible assumption) | (with_reducible refine below_drewN ?_ _) | (with_reducible refine Below.alloc ?_ ?_ _) | (with_reducible refine Below.drew ?_) | (with_reducible refine Below.setCell ?_ ?_ _) | go_size))⟩
    rw [results_cell1 rfl]
    go_simp
theorem results_cell_r2 {fn : Func} {p t : Tmp} {ty : TypeId} (h : fn.results = #[.cell p ty, .tmp t]) (tmps : Array Value) (P : Program) (w : World) :
    (results fn tmps).run P w = ((asAddr (tmps.getD p undef)).run P w).andThen fun a w₁ => ((loadVar ty a).run P w₁).andThen fun v w₂ => .ok (.tuple #[v, tmps.getD t undef]) w₂ := by
  simp only [results, h]
  simp [Sem.run_bind, Result.andThen]
section
variable (s : ByteArray) (hs : s.size ≤ 1000000) (σ : PS) (hσ : OfR s σ) (w : World)
include hs hσ
omit hs in
set_option maxHeartbeats 1000000 in
theorem done_rf : Calls Tryd.prog 20 #[rvP s σ] w (Ret (.bool (doneP σ)) w) := by
  obtain ⟨k, hk, hl, ha⟩ := hσ.at_
  rw [done_at hk hl]
  unfold rvP rV
  rw [ha]
  clear hl ha hσ
  by_cases he : σ.e = 0
  · have he' : (σ.e != 0) = false := by simpa using he
    by_cases hks : s.size ≤ k
    · have hks' : (s.size : Int) ≤ (k : Int) := by omega
      rw [decide_eq_true (.inr hks)]
      go_enter Tryd.func20, Tryd.ntmps20
      go_wp2
      go_ret
      exact ⟨rfl, by (repeat' (first | (with_reducible exact Below.refl _ _) | (with_reducible assumption) | (with_reducible refine below_drewN ?_ _) | (with_reducible refine Below.alloc ?_ ?_ _) | (with_reducible refine Below.drew ?_) | (with_reducible refine Below.setCell ?_ ?_ _) | go_size))⟩
    · have hks' : ¬ (s.size : Int) ≤ (k : Int) := by omega
      rw [decide_eq_false (by rintro (h | h); exact h he; exact hks h)]
      go_enter Tryd.func20, Tryd.ntmps20
      go_wp2
      go_ret
      exact ⟨rfl, by (repeat' (first | (with_reducible exact Below.refl _ _) | (with_reducible assumption) | (with_reducible refine below_drewN ?_ _) | (with_reducible refine Below.alloc ?_ ?_ _) | (with_reducible refine Below.drew ?_) | (with_reducible refine Below.setCell ?_ ?_ _) | go_size))⟩
  · have he' : (σ.e != 0) = true := by simpa using he
    rw [decide_eq_true (.inl he)]
    go_enter Tryd.func20, Tryd.ntmps20
    go_wp2
    go_ret
    exact ⟨rfl, by (repeat' (first | (with_reducible exact Below.refl _ _) | (with_reducible assumption) | (with_reducible refine below_drewN ?_ _) | (with_reducible refine Below.alloc ?_ ?_ _) | (with_reducible refine Below.drew ?_) | (with_reducible refine Below.setCell ?_ ?_ _) | go_size))⟩
omit hs in
set_option maxHeartbeats 1000000 in
theorem lacks_rf : Calls Tryd.prog 37 #[rvP s σ] w (Ret (rvP s (lackP s.size σ)) w) := by
  have HF := Lib.hid (fun p q W => fail_rf s σ p q W)
  obtain ⟨k, hk, hl, ha⟩ := hσ.at_
  have HR : Hid (lackP s.size σ = failP (k : Int) (if s.size ≤ k then 2 else 3) σ) := by
    show _ = _
    unfold lackP pLack
    rw [ha, hl]
    by_cases h : s.size ≤ k
    · rw [if_pos (by rw [List.drop_eq_nil_iff, len_data]; exact h), if_pos h]
    · rw [if_neg (by rw [List.drop_eq_nil_iff, len_data]; exact h), if_neg h]
  rw [HR.out]
  clear HR hl hσ
  by_cases h : s.size ≤ k
  · rw [if_pos h]
    have h' : (s.size : Int) ≤ (k : Int) := by omega
    have HF2 := Lib.hid (fun W => HF.out (k : Int) 2 W)
    clear HF h
    generalize failP (k : Int) _ σ = X at *
    unfold rvP rV at *
    rw [ha] at *
    generalize atP s.size X = kx at *
    go_enter Tryd.func37, Tryd.ntmps37
    go_wp2_with fail
    refine (HF2.out _).mono ?_
    rintro e w1 ⟨rfl, hb1⟩
    obtain ⟨hc, hf⟩ := bcell hb1
    have hz1 : w.heap.size + 1 < w1.heap.size := by have := hb1.size; simp at this; omega
    have hbw : Below w.heap.size w w1 := (((Below.refl _ w).alloc (Nat.le_refl _) _).alloc (by simp) _).trans (hb1.mono (by simp; omega))
    go_wp2
    refine bodyPost_ret (v := .agg #[.string s, .int .i64 kx, .int .i64 X.a, .int .i64 X.e]) ?_ rfl ⟨rfl, ?_⟩
    · rw [results_cell1 rfl]
      go_simp
    · clear HF2 hb1
      (repeat' (first | (with_reducible exact Below.refl _ _) | (with_reducible assumption) | (with_reducible refine below_drewN ?_ _) | (with_reducible refine Below.alloc ?_ ?_ _) | (with_reducible refine Below.drew ?_) | (with_reducible refine Below.setCell ?_ ?_ _) | go_size))
  · rw [if_neg h]
    have h' : ¬ (s.size : Int) ≤ (k : Int) := by omega
    have HF2 := Lib.hid (fun W => HF.out (k : Int) 3 W)
    clear HF h
    generalize failP (k : Int) _ σ = X at *
    unfold rvP rV at *
    rw [ha] at *
    generalize atP s.size X = kx at *
    go_enter Tryd.func37, Tryd.ntmps37
    go_wp2_with fail
    refine (HF2.out _).mono ?_
    rintro e w1 ⟨rfl, hb1⟩
    obtain ⟨hc, hf⟩ := bcell hb1
    have hz1 : w.heap.size + 1 < w1.heap.size := by have := hb1.size; simp at this; omega
    have hbw : Below w.heap.size w w1 := (((Below.refl _ w).alloc (Nat.le_refl _) _).alloc (by simp) _).trans (hb1.mono (by simp; omega))
    go_wp2
    refine bodyPost_ret (v := .agg #[.string s, .int .i64 kx, .int .i64 X.a, .int .i64 X.e]) ?_ rfl ⟨rfl, ?_⟩
    · rw [results_cell1 rfl]
      go_simp
    · clear HF2 hb1
      (repeat' (first | (with_reducible exact Below.refl _ _) | (with_reducible assumption) | (with_reducible refine below_drewN ?_ _) | (with_reducible refine Below.alloc ?_ ?_ _) | (with_reducible refine Below.drew ?_) | (with_reducible refine Below.setCell ?_ ?_ _) | go_size))
/-- It hands back a reader that stands so, and a value. -/
def tupR (s : ByteArray) (σ : PS) (v : Value) : Value := .tuple #[rvP s σ, v]
omit hs hσ in
theorem rv_cells {w1 : World} {k a e : Int} {ty ty' : TypeId} (hb : Below ((w.alloc (.cells #[.string s, .int .i64 k, .int .i64 a, .int .i64 e] ty)).alloc (.cells #[.string ⟨#[]⟩, .int .i64 0, .int .i64 0, .int .i64 0] ty')).heap.size ((w.alloc (.cells #[.string s, .int .i64 k, .int .i64 a, .int .i64 e] ty)).alloc (.cells #[.string ⟨#[]⟩, .int .i64 0, .int .i64 0, .int .i64 0] ty')) w1) :
    (∀ j v, [Value.string s, .int .i64 k, .int .i64 a, .int .i64 e][j]? = some v → w1.cell? ⟨w.heap.size, j, none⟩ = some v) ∧ (∀ j v, [Value.string ⟨#[]⟩, .int .i64 0, .int .i64 0, .int .i64 0][j]? = some v → w1.cell? ⟨w.heap.size + 1, j, none⟩ = some v) ∧ (∀ j, w1.frozen? ⟨w.heap.size, j, none⟩ = false) ∧ ∀ j, w1.frozen? ⟨w.heap.size + 1, j, none⟩ = false := by
  obtain ⟨hc, hf⟩ := bcell hb
  refine ⟨fun j v hv => ?_, fun j v hv => ?_, fun j => ?_, fun j => ?_⟩
  · rw [hc _ _ (by simp; omega)]
    rcases j with _ | _ | _ | _ | j <;> simp at hv <;> subst hv <;> go_simp
  · rw [hc _ _ (by simp)]
    rcases j with _ | _ | _ | _ | j <;> simp at hv <;> subst hv <;> go_simp
  · rw [hf _ _ (by simp; omega)]
    go_simp
  · rw [hf _ _ (by simp)]
    go_simp
omit hs hσ in
/-- Where the reader stands behind a byte that was taken. -/
theorem is_rf_at {k : Nat} {x : UInt8} (hk : k ≤ s.size) (hl : σ.l = s.data.toList.drop k) (he : σ.e = 0) (hlt : k < s.size) : isP [x] σ = (if x = s[k] then (⟨s.data.toList.drop (k + 1), σ.a, 0⟩, true) else (σ, false)) := by
  unfold isP
  rw [if_pos he, hl, drop_cons s k hlt, pIs_cons]
  by_cases h : x = s[k]
  · rw [if_pos h, if_pos (by simp [h])]
  · rw [if_neg h, if_neg (by simpa using fun e => h e.symm)]
set_option maxRecDepth 20000 in
set_option maxHeartbeats 4000000 in
theorem is_rf (A : Option Addr) (n c : Nat) (x : UInt8) (hA : RdBytes w A n [x]) : Calls Tryd.prog 36 #[rvP s σ, .slice A n c] w (Ret (tupR s (isP [x] σ).1 (.bool (isP [x] σ).2)) w) := by
  have HD := Lib.hid (fun W => done_rf s σ hσ W)
  obtain ⟨k, hk, hl, ha⟩ := hσ.at_
  have hn : n = 1 := hA.1.symm
  subst hn
  obtain ⟨b, o, y, rfl, hbl, hx, d0⟩ := RdBytes.at_ hA (i := 0) Nat.one_pos
  obtain rfl : y = x := by simpa using hx.symm
  rw [Nat.add_zero] at d0
  have hne : b ≠ w.heap.size := by omega
  by_cases hd : doneP σ = true
  · have hR : isP [y] σ = (σ, false) := by
      unfold doneP at hd
      rw [decide_eq_true_eq] at hd
      unfold isP
      by_cases he : σ.e = 0
      · rw [if_pos he]
        rcases hd with h | h
        · exact absurd he h
        · rw [h]; rfl
      · rw [if_neg he]
    rw [hR]
    rw [hd] at HD
    unfold tupR rvP rV at *
    generalize atP s.size σ = kx at *
    clear hl ha hσ hd hR hA hx
    go_enter Tryd.func36, Tryd.ntmps36
    go_wp2_with fail
    refine (HD.out _).mono ?_
    rintro e w1 ⟨rfl, hb1⟩
    obtain ⟨hc, hf⟩ := bcell hb1
    have hz1 : w.heap.size + 1 < w1.heap.size := by have := hb1.size; simp at this; omega
    have hbw : Below w.heap.size w w1 := (((Below.refl _ w).alloc (Nat.le_refl _) _).alloc (by simp) _).trans (hb1.mono (by simp; omega))
    go_wp2
    refine bodyPost_ret (v := .tuple #[.agg #[.string s, .int .i64 kx, .int .i64 σ.a, .int .i64 σ.e], .bool false]) ?_ rfl ⟨rfl, ?_⟩
    · rw [results_cell_r2 rfl]
      go_simp
    · (repeat' (first | (with_reducible exact Below.refl _ _) | (with_reducible assumption) | (with_reducible refine below_drewN ?_ _) | (with_reducible refine Below.alloc ?_ ?_ _) | (with_reducible refine Below.drew ?_) | (with_reducible refine Below.setCell ?_ ?_ _) | go_size))
  · have hd' : doneP σ = false := by simpa using hd
    have hde := hd
    unfold doneP at hde
    rw [decide_eq_true_eq, not_or, Decidable.not_not] at hde
    have hlt : k < s.size := by
      have := hde.2
      rw [hl, List.drop_eq_nil_iff, len_data] at this
      omega
    have hR := is_rf_at s σ (x := y) hk hl hde.1 hlt
    have he0 := hde.1
    rw [hR]
    rw [hd'] at HD
    have hk' : (k : Int) < (s.size : Int) := by omega
    have hat1 : atP s.size ⟨s.data.toList.drop (k + 1), σ.a, 0⟩ = (k : Int) + 1 := by
      rw [atP_eq (k := k + 1) (by omega) rfl]; omega
    by_cases hy : y = s[k]
    · have hyc : ((y.toNat : Int) == (s[k].toNat : Int)) = true := by rw [hy]; simp
      rw [if_pos hy]
      unfold tupR rvP rV at *
      rw [ha] at HD ⊢
      dsimp only
      rw [hat1]
      rw [he0] at HD ⊢
      clear hl ha hσ hd hd' hR hA hx hde hy hat1 he0
      go_enter Tryd.func36, Tryd.ntmps36
      go_wp2_with fail
      refine (HD.out _).mono ?_
      rintro e w1 ⟨rfl, hb1⟩
      obtain ⟨hc, hf⟩ := bcell hb1
      have hz1 : w.heap.size + 1 < w1.heap.size := by have := hb1.size; simp at this; omega
      have hbw : Below w.heap.size w w1 := (((Below.refl _ w).alloc (Nat.le_refl _) _).alloc (by simp) _).trans (hb1.mono (by simp; omega))
      have hz0 : w.heap.size < w1.heap.size := by omega
      have hblz : b < w1.heap.size := by omega
      go_wp2
      go_loopg [6] (1 : Nat) (fun gg i wr => gg = 1 ∧ i = .int .i64 0 ∧ wr = w1)
      case atStart => exact ⟨rfl, rfl, rfl⟩
      case round =>
        obtain ⟨rfl, rfl, rfl⟩ := hrel
        obtain ⟨q0, q1, f0, f1⟩ := rv_cells s w hb1
        have c0 := q0 0 _ rfl
        have c1 := q0 1 _ rfl
        have c2 := q0 2 _ rfl
        have c3 := q0 3 _ rfl
        have r0 := q1 0 _ rfl
        have r1 := q1 1 _ rfl
        have r2 := q1 2 _ rfl
        have r3 := q1 3 _ rfl
        have d1 : wr.cell? ⟨b, o, none⟩ = some (.int .u8 (y.toNat : Int)) := (hbw.cell (p := ⟨b, o, none⟩) hbl).trans d0
        clear q0 q1 hc hf hb1 d0
        go_wp2
        go_quiet (fail)
        go_wp2
        refine bodyPost_ret (v := .tuple #[.agg #[.string s, .int .i64 ((k : Int) + 1), .int .i64 σ.a, .int .i64 0], .bool true]) ?_ rfl ⟨rfl, ?_⟩
        · rw [results_cell_r2 rfl]
          go_simp
        · (repeat' (first | (with_reducible exact Below.refl _ _) | (with_reducible assumption) | (with_reducible refine below_drewN ?_ _) | (with_reducible refine Below.alloc ?_ ?_ _) | (with_reducible refine Below.drew ?_) | (with_reducible refine Below.setCell ?_ ?_ _) | go_size))
    · have hyc : ((y.toNat : Int) == (s[k].toNat : Int)) = false := by
        rw [beq_eq_false_iff_ne]
        intro h
        exact hy (UInt8.toNat_inj.1 (by omega))
      rw [if_neg hy]
      unfold tupR rvP rV at *
      rw [ha] at HD ⊢
      dsimp only
      rw [he0] at HD ⊢
      clear hl ha hσ hd hd' hR hA hx hde hy hat1 he0
      go_enter Tryd.func36, Tryd.ntmps36
      go_wp2_with fail
      refine (HD.out _).mono ?_
      rintro e w1 ⟨rfl, hb1⟩
      obtain ⟨hc, hf⟩ := bcell hb1
      have hz1 : w.heap.size + 1 < w1.heap.size := by have := hb1.size; simp at this; omega
      have hbw : Below w.heap.size w w1 := (((Below.refl _ w).alloc (Nat.le_refl _) _).alloc (by simp) _).trans (hb1.mono (by simp; omega))
      have hz0 : w.heap.size < w1.heap.size := by omega
      have hblz : b < w1.heap.size := by omega
      go_wp2
      go_loopg [6] (1 : Nat) (fun gg i wr => gg ≤ 1 ∧ i = .int .i64 (1 - (gg : Int)) ∧ Below ((w.alloc (.cells #[.string s, .int .i64 k, .int .i64 σ.a, .int .i64 0] 50)).alloc (.cells #[.string ⟨#[]⟩, .int .i64 0, .int .i64 0, .int .i64 0] 50)).heap.size ((w.alloc (.cells #[.string s, .int .i64 k, .int .i64 σ.a, .int .i64 0] 50)).alloc (.cells #[.string ⟨#[]⟩, .int .i64 0, .int .i64 0, .int .i64 0] 50)) wr)
      case atStart => exact ⟨Nat.le_refl _, rfl, hb1⟩
      case round =>
        obtain ⟨hgg, rfl, hbr⟩ := hrel
        clear hbw hz1 hz0 hblz hc hf hb1
        obtain ⟨q0, q1, f0, f1⟩ := rv_cells s w hbr
        have hz1 : w.heap.size + 1 < wr.heap.size := by have := hbr.size; simp at this; omega
        have hbw : Below w.heap.size w wr := (((Below.refl _ w).alloc (Nat.le_refl _) _).alloc (by simp) _).trans (hbr.mono (by simp; omega))
        have hz0 : w.heap.size < wr.heap.size := by omega
        have hblz : b < wr.heap.size := by omega
        have c0 := q0 0 _ rfl
        have c1 := q0 1 _ rfl
        have c2 := q0 2 _ rfl
        have c3 := q0 3 _ rfl
        have r0 := q1 0 _ rfl
        have r1 := q1 1 _ rfl
        have r2 := q1 2 _ rfl
        have r3 := q1 3 _ rfl
        have d1 : wr.cell? ⟨b, o, none⟩ = some (.int .u8 (y.toNat : Int)) := (hbw.cell (p := ⟨b, o, none⟩) hbl).trans d0
        have HBR := Lib.hid hbr
        clear q0 q1 d0 hbr
        rcases Nat.le_one_iff_eq_zero_or_eq_one.1 hgg with rfl | rfl
        · go_wp2
          refine bodyPost_ret (v := .tuple #[.agg #[.string s, .int .i64 (k : Int), .int .i64 σ.a, .int .i64 0], .bool false]) ?_ rfl ⟨rfl, ?_⟩
          · rw [results_cell_r2 rfl]
            go_simp
          · (repeat' (first | (with_reducible exact Below.refl _ _) | (with_reducible assumption) | (with_reducible refine below_drewN ?_ _) | (with_reducible refine Below.alloc ?_ ?_ _) | (with_reducible refine Below.drew ?_) | (with_reducible refine Below.setCell ?_ ?_ _) | go_size))
        · go_wp2
          go_quiet (fail)
          go_wp2
          go_roundg (0 : Nat)
          case measure => omega
          case rel => exact ⟨Nat.zero_le _, rfl, below_drewN HBR.out _⟩
end
end Go.Proofs.YtpfcgjneeboamaaDoor
