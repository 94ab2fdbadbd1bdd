/- The walks of the laws of callow: what an event means, the example, texts. -/
import Derived.Test.YtochhmkdhdadhaaGreatRClowA
import Derived.Test.YtochhmkdhdadhaaGreatWKlB
import Derived.Test.YtochhmkdhdadhaaGreatWKlC
import Derived.Test.YtochhmkdhdadhaaGreatLCal
import Derived.Test.YtochhmkdhdadhaaGreatWClAQ
/- The plain law of lowering an event: its clause has just the instants that the event means. -/
namespace Go.Proofs.YtochhmkdhdadhaaGreat
open Go.RowKit
set_option linter.unusedSimpArgs false
set_option linter.unusedVariables false

theorem hasM_mk (p : Nat → Bool) (n : Int) : hasM ((mkN p 64 : Nat) : Int) n = decide (0 ≤ n ∧ n < 64 ∧ p n.toNat = true) := by
  unfold hasM
  rw [decide_eq_decide]
  have hk : ∀ k : Nat, k < 64 → (((mkN p 64 : Nat) : Int) / 2 ^ k % 2 = 1 ↔ p k = true) := fun k hk => by
    have h := mkN_bit p 64 k
    rw [Nat.testBit_eq_decide_div_mod_eq] at h
    have h3 : ((mkN p 64 : Nat) : Int) / 2 ^ k % 2 = (((mkN p 64 / 2 ^ k) % 2 : Nat) : Int) := by push_cast; rfl
    simp only [hk, decide_true, Bool.true_and] at h
    rw [h3, ← h, decide_eq_true_eq]
    omega
  constructor
  · rintro ⟨h0, h1, h2⟩
    exact ⟨h0, h1, (hk n.toNat (by omega)).1 h2⟩
  · rintro ⟨h0, h1, h2⟩
    exact ⟨h0, h1, (hk n.toNat (by omega)).2 h2⟩
theorem wordL_64 (L : List Int) (i : Nat) : M64 (wordL L i) := by
  have := mkN_lt (fun k => inW L (64 * i + k)) 64
  unfold wordL M64
  omega
theorem hasW_word (L : List Int) (n : Int) : hasW (wordL L) n = decide (0 ≤ n ∧ n < 400 ∧ n ∈ L) := by
  unfold hasW
  by_cases h : 0 ≤ n ∧ n < 400
  · rw [decide_eq_true h, Bool.true_and]
    unfold wordL
    rw [hasM_mk, decide_eq_decide]
    have e : ((64 * (n / 64).toNat + (n % 64).toNat : Nat) : Int) = n := by omega
    simp only [inW, decide_eq_true_eq, e]
    constructor
    · rintro ⟨_, _, _, h3⟩; exact ⟨h.1, h.2, h3⟩
    · rintro ⟨_, _, h3⟩; exact ⟨by omega, by omega, by omega, h3⟩
  · rw [decide_eq_false h, Bool.false_and, Eq.comm, decide_eq_false_iff_not]
    exact fun g => h ⟨g.1, g.2.1⟩
theorem and_mk (P Q : Nat → Bool) (h : ∀ k, k < 64 → P k = true → Q k = true) : bits .and .u64 ((mkN P 64 : Nat) : Int) ((mkN Q 64 : Nat) : Int) = ((mkN P 64 : Nat) : Int) := by
  have hp := mkN_lt P 64
  have hq := mkN_lt Q 64
  have e : mkN (fun i => P i && Q i) 64 = mkN P 64 := mkN_ext fun k hk => by
    cases hx : P k with
    | false => rfl
    | true => rw [h k hk hx]; rfl
  have hA := mkN_and P Q 64
  rw [e] at hA
  generalize mkN P 64 = a at *
  generalize mkN Q 64 = b at *
  rw [u64_and _ _ (Int.natCast_nonneg _) (by omega) (Int.natCast_nonneg _) (by omega), Int.toNat_natCast, Int.toNat_natCast, hA]
theorem andW_word (L : List Int) (i : Nat) (hi : i < 7) : andW (wordL L) i = wordL L i :=
  and_mk (fun k => inW L (64 * i + k)) (inL (seqL 0 (399 - (i : Int) * 64 + 1 - 0).toNat)) fun k hk hx => by
    simp only [inW, decide_eq_true_eq] at hx
    simp only [inL, decide_eq_true_eq]
    rw [mem_seqL]
    omega
theorem eqW_word (L : List Int) : eqW (andW (wordL L)) (wordL L) = true := by
  unfold eqW
  rw [andW_word L 0 (by decide), andW_word L 1 (by decide), andW_word L 2 (by decide), andW_word L 3 (by decide), andW_word L 4 (by decide), andW_word L 5 (by decide), andW_word L 6 (by decide)]
  simp
theorem ev_may (c : CalV) : mayG (evC c) fullC = true := by
  have h0 : noMore (maskL (refVal (kget c 6) 0 59), spanM 0 59) = true := noMore_span fun x hx => rval_bd hx
  have h1 : noMore (maskL (refVal (kget c 5) 0 59), spanM 0 59) = true := noMore_span fun x hx => rval_bd hx
  have h2 : noMore (maskL (refVal (kget c 4) 0 23), spanM 0 23) = true := noMore_span fun x hx => rval_bd hx
  have h3 : noMore (maskL (refVal (kget c 2) 1 12), spanM 1 12) = true := noMore_span fun x hx => rval_bd hx
  have hD : noMore (maskL (refVal (kget c 3) 1 31), spanM 1 31) = true := noMore_span fun x hx => rval_bd hx
  have h4 : noMore ((if c.back then spanM 1 31 else maskL (refVal (kget c 3) 1 31)), spanM 1 31) = true := by split; exact noMore_self _ _; exact hD
  have h5 : noMore ((if c.back then maskL (refVal (kget c 3) 1 31) else spanM 1 31), spanM 1 31) = true := by split; exact hD; exact noMore_self _ _
  have h6 : noMore (evWk c, spanM 1 7) = true := by
    unfold evWk
    split
    · exact noMore_self _ _
    · exact noMore_span fun x hx => rval_bd hx
  have hp : (prsC (evC c) fullC).all noMore = true := by
    show [(maskL (refVal (kget c 6) 0 59), spanM 0 59), (maskL (refVal (kget c 5) 0 59), spanM 0 59), (maskL (refVal (kget c 4) 0 23), spanM 0 23), (maskL (refVal (kget c 2) 1 12), spanM 1 12), ((if c.back then spanM 1 31 else maskL (refVal (kget c 3) 1 31)), spanM 1 31), ((if c.back then maskL (refVal (kget c 3) 1 31) else spanM 1 31), spanM 1 31), (evWk c, spanM 1 7)].all noMore = true
    simp only [List.all_cons, List.all_nil, h0, h1, h2, h3, h4, h5, h6, Bool.and_true]
  have ho : ordC (evC c) = true := ord_none rfl rfl fun _ => rfl
  have hy : eqW (andW (evC c).y) (evC c).y = true := eqW_word _
  unfold mayG
  rw [hp, ho, hy]
  show (true && (true && (true && (!(unT 0).isEmpty && (decide ((1 : Int) ≤ 1) && inC 0))))) = true
  decide +kernel
theorem ev_bits (c : CalV) : BitsC (evC c) := by
  refine ⟨fun k hk => ?_, fun k hk => (⟨by decide, by decide⟩ : M64 0), fun k hk => wordL_64 _ _⟩
  obtain rfl | rfl | rfl | rfl | rfl | rfl | rfl : k = 0 ∨ k = 1 ∨ k = 2 ∨ k = 3 ∨ k = 4 ∨ k = 5 ∨ k = 6 := by omega
  · exact m64_L _
  · exact m64_L _
  · exact m64_L _
  · exact m64_L _
  · show M64 (if c.back then spanM 1 31 else _)
    split; exact m64_S _ _; exact m64_L _
  · show M64 (if c.back then _ else spanM 1 31)
    split; exact m64_L _; exact m64_S _ _
  · show M64 (evWk c)
    unfold evWk
    split; exact m64_S _ _; exact m64_L _
/-- The parts of an instant's stamp. -/
def stS (t : Int) (j : Nat) : Int := if j = 0 then yD (t / 86400) else if j = 1 then mD (t / 86400) else if j = 2 then dD (t / 86400) else if j = 3 then t % 86400 / 3600 else if j = 4 then t % 86400 / 60 % 60 else t % 86400 % 60
/-- Does an event mean an instant? -/
def meansE (c : CalV) (t : Int) : Bool := inC t && meansK c (stS t) (shN (t / 86400) (yD (t / 86400)) (mD (t / 86400)) (dD (t / 86400)))
theorem ev_has (c : CalV) (t : Int) : hasC (evC c) t = meansE c t := by
  unfold hasC meansE
  cases hi : inC t with
  | false => rfl
  | true =>
    obtain ⟨t0, t1⟩ := in_bd hi
    have h1 : decide (heldF (evC c).f (evC c).t ≤ t ∧ t ≤ heldU (evC c).f (evC c).t) = true := decide_eq_true ⟨t0, by show t ≤ 12622780799; omega⟩
    have h2 : onU (evC c).u (evC c).s (evC c).a t = true := by
      show onU 0 1 0 t = true
      refine decide_eq_true ⟨by decide +kernel, decide_eq_true ⟨hi, by decide, by decide⟩, by decide, ?_⟩
      omega
    obtain ⟨_, m1, m2, d1, d2⟩ := date_jan (n := t / 86400) (by omega) (by omega)
    obtain ⟨_, _, _, _, y0, y1⟩ := date_in (n := t / 86400) (by omega) (by omega)
    have hl := lenC_pos (y := yD (t / 86400)) m1 m2
    have hw := wdD_bd (t / 86400)
    have e5 : todIn (t % 86400) ((evC c).m 2) ((evC c).m 1) ((evC c).m 0) = (inB (kget c 4) 0 23 (t % 86400 / 3600) && (inB (kget c 5) 0 59 (t % 86400 / 60 % 60) && inB (kget c 6) 0 59 (t % 86400 % 60))) := by
      show todIn (t % 86400) (maskL (refVal (kget c 4) 0 23)) (maskL (refVal (kget c 5) 0 59)) (maskL (refVal (kget c 6) 0 59)) = _
      unfold todIn
      rw [hasM_val (by omega) (by omega), hasM_val (by omega) (by omega), hasM_val (by omega) (by omega)]
    have e7 : hasM ((evC c).m 3) (mD (t / 86400)) = inB (kget c 2) 1 12 (mD (t / 86400)) := hasM_val (by omega) (by omega)
    have e8 : hasM ((evC c).m 6) (wdD (t / 86400)) = (decide ((kget c 0).length = 0) || inB (kget c 0) 1 7 (wdD (t / 86400))) := by
      show hasM (evWk c) (wdD (t / 86400)) = _
      unfold evWk
      by_cases h0 : (kget c 0).length = 0
      · rw [if_pos h0, decide_eq_true h0, Bool.true_or, hasM_spanM _ _ _ (by omega) (by omega)]
        simp; omega
      · rw [if_neg h0, decide_eq_false h0, Bool.false_or]
        exact hasM_val (by omega) (by omega)
    have e9 : hasW (evC c).y (yD (t / 86400) - 1970) = inB (kget c 1) 1970 2369 (yD (t / 86400)) := by
      show hasW (evY c) _ = _
      unfold evY
      rw [hasW_word, Bool.eq_iff_iff, decide_eq_true_eq, List.mem_map, ← (refVal_spec 1970 2369 (kget c 1)).2]
      constructor
      · rintro ⟨_, _, x, hx, he⟩
        obtain rfl : x = yD (t / 86400) := by omega
        exact hx
      · intro hx
        exact ⟨by omega, by omega, _, hx, rfl⟩
    have e3 : nthC (evC c) (t / 86400) = true := rfl
    have e4 : dayU (evC c).u (evC c).s (evC c).a (t / 86400) = true := by
      show dayU 0 1 0 (t / 86400) = true
      exact dayU_yes (by decide +kernel) (by decide) (.inr rfl)
    have eo : (evC c).or = false := rfl
    have ed : (hasM ((evC c).m 4) (dD (t / 86400)) && hasM ((evC c).m 5) (lenC (yD (t / 86400)) (mD (t / 86400)) - dD (t / 86400) + 1)) = inB (kget c 3) 1 31 (if c.back then lenC (yD (t / 86400)) (mD (t / 86400)) - dD (t / 86400) + 1 else dD (t / 86400)) := by
      show (hasM (if c.back then spanM 1 31 else maskL (refVal (kget c 3) 1 31)) _ && hasM (if c.back then maskL (refVal (kget c 3) 1 31) else spanM 1 31) _) = _
      cases c.back with
      | true =>
        rw [if_pos rfl, if_pos rfl, if_pos rfl, hasM_spanM _ _ _ (by omega) (by omega), decide_eq_true ⟨by omega, by omega⟩, Bool.true_and]
        exact hasM_val (by omega) (by omega)
      | false =>
        rw [if_neg (by simp), if_neg (by simp), if_neg (by simp), hasM_spanM _ _ _ (by omega) (by omega), decide_eq_true (p := 1 ≤ lenC (yD (t / 86400)) (mD (t / 86400)) - dD (t / 86400) + 1 ∧ _) ⟨by omega, by omega⟩, Bool.and_true]
        exact hasM_val (by omega) (by omega)
    rw [ev_may, h1, h2, e5]
    unfold dayC
    rw [ev_may, dayP_def, e3, e4, e7, e8, e9, eo]
    have eM : meansK c (stS t) (shN (t / 86400) (yD (t / 86400)) (mD (t / 86400)) (dD (t / 86400))) = (inB (kget c 1) 1970 2369 (yD (t / 86400)) && (inB (kget c 2) 1 12 (mD (t / 86400)) && (inB (kget c 3) 1 31 (if c.back then lenC (yD (t / 86400)) (mD (t / 86400)) - dD (t / 86400) + 1 else dD (t / 86400)) && ((decide ((kget c 0).length = 0) || inB (kget c 0) 1 7 (wdD (t / 86400))) &&
      (inB (kget c 4) 0 23 (t % 86400 / 3600) && (inB (kget c 5) 0 59 (t % 86400 / 60 % 60) && inB (kget c 6) 0 59 (t % 86400 % 60))))))) := rfl
    rw [eM, ← ed]
    generalize hasM ((evC c).m 4) (dD (t / 86400)) = D
    generalize hasM ((evC c).m 5) (lenC (yD (t / 86400)) (mD (t / 86400)) - dD (t / 86400) + 1) = E
    generalize (decide ((kget c 0).length = 0) || inB (kget c 0) 1 7 (wdD (t / 86400))) = K
    generalize inB (kget c 4) 0 23 (t % 86400 / 3600) = a
    generalize inB (kget c 5) 0 59 (t % 86400 / 60 % 60) = b
    generalize inB (kget c 6) 0 59 (t % 86400 % 60) = s
    generalize inB (kget c 2) 1 12 (mD (t / 86400)) = m
    generalize inB (kget c 1) 1970 2369 (yD (t / 86400)) = y
    cases D <;> cases E <;> cases K <;> cases a <;> cases b <;> cases s <;> cases m <;> cases y <;> rfl
end Go.Proofs.YtochhmkdhdadhaaGreat

namespace Go.Proofs.YtochhmkdhdadhaaGreat
open Go.RowKit
set_option linter.unusedSimpArgs false
set_option linter.unusedVariables false

theorem hasL_ev (c : CalV) (t : Int) : hasL [evC c] t = meansE c t := by
  unfold hasL setC
  simp [ev_may, ev_has]
theorem has_ev (c : CalV) (t : Int) (b : Nat) (W : World) (h : RdCls W (some ⟨b, 0, none⟩) 1 [evC c]) : Calls Tryz.prog 13 #[.slice (some ⟨b, 0, none⟩) 1 1, .int .i64 t] W (Ret (.bool (meansE c t)) W) := by
  have := irhas_any (some ⟨b, 0, none⟩) 1 1 [evC c] (fun k hk => by rw [List.mem_singleton.1 hk]; exact ev_bits c) t W h (by decide)
  rwa [hasL_ev] at this
theorem kchk_or (c : CalV) : kchk c = (7, 0) ∨ (kchk c).2 ≠ 0 := by
  by_cases h : ∀ f : Nat, f < 7 → kfault f (kget c f) = 0
  · exact .inl (kchk_all h)
  · right
    have hex : ∃ f : Nat, f < 7 ∧ kfault f (kget c f) ≠ 0 := by
      refine Classical.byContradiction fun hh => h fun f hf => ?_
      refine Classical.byContradiction fun h2 => hh ⟨f, hf, h2⟩
    have key : ∀ q, q ≤ 7 → (∀ j, j < q → kfault (j : Nat) (kget c j) = 0) ∨ (kchk c).2 ≠ 0 := by
      intro q
      induction q with
      | zero => exact fun _ => .inl fun j hj => absurd hj (Nat.not_lt_zero _)
      | succ q ih =>
        intro hq
        rcases ih (by omega) with H | H
        · by_cases h0 : kfault (q : Nat) (kget c q) = 0
          · left
            intro j hj
            rcases Nat.lt_or_eq_of_le (Nat.le_of_lt_succ hj) with h1 | rfl
            · exact H j h1
            · exact h0
          · right
            rw [kchk_at (by omega) H h0]
            exact h0
        · exact .inr H
    rcases key 7 (Nat.le_refl _) with H | H
    · obtain ⟨f, hf, hne⟩ := hex
      exact absurd (H f hf) hne
    · exact H
theorem ev_small {A : Nat → Option Addr} {n : Nat → Nat} {c : CalV} {w : World} (hA : RdEv w A n c) (h : kchk c = (7, 0)) : ∀ j, j < 8 → j ≠ 4 → n j ≤ 100000 := fun j h1 h2 => by
  have := kchk_len h j h1 h2
  have := (hA j h1 h2).1
  omega
set_option maxRecDepth 20000 in
set_option maxHeartbeats 4000000 in
theorem kmeans_any (A : Nat → Option Addr) (n m : Nat → Nat) (c : CalV) (t : Int) (w : World) (hA : RdEv w A n c) (hn : ∀ j, j < 8 → j ≠ 4 → n j ≤ 100000) :
    Calls Tryz.prog 14 #[evV A n m c.back, .int .i64 t] w (Ret (.bool (meansE c t)) w) := by
  unfold meansE
  cases hi : inC t with
  | false =>
    have HN := Lib.hid (fun W => retQ_B (in08_any t W))
    rw [hi] at HN
    clear hi hA hn
    unfold evV
    go_enter Tryz.func14, Tryz.ntmps14
    go_wp2_with fail
    generalize hW1 : World.alloc w _ = W1
    have hb1 : Below w.heap.size w W1 := by rw [← hW1]; exact (Below.refl _ _).alloc (Nat.le_refl _) _
    clear hW1
    refine wp_region_grew (by kernel_rfl) (by kernel_rfl) ?_
    repeat (first | go_big_quiet_skip | (go_big_quiet_want; go_big_quiet_op; (first | go_big_quiet_on | go_big_quiet_call ((with_reducible exact ext_call _ (HN.out _))))))
    refine wpQuiet_nil ?_
    rintro _ ⟨xw, rfl⟩
    have hbx := bthen hb1 (Ext.h xw) hb1.size
    go_wp2
    go_ret
    exact ⟨rfl, hbx⟩
  | true =>
    obtain ⟨t0, t1⟩ := in_bd hi
    have HN := Lib.hid (fun W => retQ_B (in08_any t W))
    have HS := Lib.hid (fun W => stamp08_any t hi W)
    have HM : Hid (∀ W, Below w.heap.size w W → Calls Tryz.prog 41 #[evV A n m c.back, .agg #[.int .i64 (yD (t / 86400)), .int .i64 (mD (t / 86400)), .int .i64 (dD (t / 86400)), .int .i64 (t % 86400 / 3600), .int .i64 (t % 86400 / 60 % 60), .int .i64 (t % 86400 % 60)], .int .i64 (t / 86400)] W (Ret (.bool (meansK c (stS t) (shN (t / 86400) (yD (t / 86400)) (mD (t / 86400)) (dD (t / 86400))))) W)) :=
      fun W hb => rmeans28_any A n m c (stS t) (t / 86400) (by omega) (by omega) W (hA.below hb) hn
    have E1 : Int.tdiv t 86400 = t / 86400 := Int.tdiv_eq_ediv_of_nonneg t0
    rw [hi] at HN
    unfold stV at HS
    unfold evV at HM ⊢
    have hq0 : 0 ≤ t / 86400 := by omega
    have hq1 : t / 86400 ≤ 146097 := by omega
    clear hi hA hn
    generalize meansK c (stS t) (shN (t / 86400) (yD (t / 86400)) (mD (t / 86400)) (dD (t / 86400))) = R at *
    generalize yD (t / 86400) = p1 at *
    generalize mD (t / 86400) = p2 at *
    generalize dD (t / 86400) = p3 at *
    generalize t % 86400 / 3600 = p4 at *
    generalize t % 86400 / 60 % 60 = p5 at *
    generalize t % 86400 % 60 = p6 at *
    generalize t / 86400 = p8 at *
    generalize c.back = bk at *
    go_enter Tryz.func14, Tryz.ntmps14
    go_wp2_with fail
    have hE := evAt_new w A n m bk 24
    generalize hW1 : World.alloc w _ = W1 at *
    have hb1 : Below w.heap.size w W1 := by rw [← hW1]; exact (Below.refl _ _).alloc (Nat.le_refl _) _
    clear hW1
    have q0 := hE.h0
    have q1 := hE.h1
    have q2 := hE.h2
    have q3 := hE.h3
    have q4 := hE.h4
    have q5 := hE.h5
    have q6 := hE.h6
    have q7 := hE.h7
    have h0' : ∀ y : Ext W1, y.W.cell? ⟨w.heap.size, 0, none⟩ = some (.slice (A 0) (n 0) (m 0)) := fun y => y.cell q0
    have h1' : ∀ y : Ext W1, y.W.cell? ⟨w.heap.size, 1, none⟩ = some (.slice (A 1) (n 1) (m 1)) := fun y => y.cell q1
    have h2' : ∀ y : Ext W1, y.W.cell? ⟨w.heap.size, 2, none⟩ = some (.slice (A 2) (n 2) (m 2)) := fun y => y.cell q2
    have h3' : ∀ y : Ext W1, y.W.cell? ⟨w.heap.size, 3, none⟩ = some (.slice (A 3) (n 3) (m 3)) := fun y => y.cell q3
    have h4' : ∀ y : Ext W1, y.W.cell? ⟨w.heap.size, 4, none⟩ = some (.bool bk) := fun y => y.cell q4
    have h5' : ∀ y : Ext W1, y.W.cell? ⟨w.heap.size, 5, none⟩ = some (.slice (A 5) (n 5) (m 5)) := fun y => y.cell q5
    have h6' : ∀ y : Ext W1, y.W.cell? ⟨w.heap.size, 6, none⟩ = some (.slice (A 6) (n 6) (m 6)) := fun y => y.cell q6
    have h7' : ∀ y : Ext W1, y.W.cell? ⟨w.heap.size, 7, none⟩ = some (.slice (A 7) (n 7) (m 7)) := fun y => y.cell q7
    clear q0 q1 q2 q3 q4 q5 q6 q7 hE
    have HMx := Lib.hid (fun y : Ext W1 => HM.out y.W (bthen hb1 y.h hb1.size))
    clear HM
    refine wp_region_grew (by kernel_rfl) (by kernel_rfl) ?_
    repeat (first | go_big_quiet_skip | (go_big_quiet_want; go_big_quiet_op; (first | go_big_quiet_on | go_big_quiet_call ((with_reducible first | exact ext_call _ (HN.out _) | exact ext_call _ (HS.out _) | exact ext_call _ (HMx.out _))))))
    refine wpQuiet_nil ?_
    rintro _ ⟨xw, rfl⟩
    have hbx := bthen hb1 (Ext.h xw) hb1.size
    go_wp2
    go_ret
    exact ⟨rfl, hbx⟩
def ex31 : List UInt8 := [42, 45, 48, 50, 126, 48, 49]
def ex31C : CalV := ⟨[], [⟨0, 0, 0, 1⟩], [⟨1, 2, 0, 0⟩], [⟨1, 1, 0, 0⟩], true, [⟨1, 0, 0, 0⟩], [⟨1, 0, 0, 0⟩], [⟨1, 0, 0, 0⟩]⟩
theorem ex31_read : kread ex31 = .ok ex31C := by kernel_rfl
theorem ex31_has : meansE ex31C 5011200 = true ∧ meansE ex31C 4924800 = false := by decide +kernel
set_option maxRecDepth 20000 in
set_option maxHeartbeats 4000000 in
theorem lives31_any (w : World) (hm : MaxAt w) : Calls Tryz.prog 7 #[] w (Ret (.bool true) w) := by
  have HA := Lib.hid (calread_ev (strB ex31) (by rw [strB_size]; decide) w hm)
  unfold RetEv at HA
  have hK : kchk ex31C = (7, 0) := kread_ok ex31_read
  rw [strB_data, ex31_read] at HA
  unfold kcal kplace kerr at HA
  dsimp only at HA
  have HH := Lib.hid (fun b t W h => has_ev ex31C t b W h)
  have HH1 := Lib.hid (fun b W h => HH.out b 5011200 W h)
  have HH2 := Lib.hid (fun b W h => HH.out b 4924800 W h)
  rw [ex31_has.1] at HH1
  rw [ex31_has.2] at HH2
  generalize ex31C = c at *
  go_enter Tryz.func7, Tryz.ntmps7
  go_wp2_with fail
  refine HA.out.mono ?_
  rintro e w1 ⟨hb1, A, n, m, rfl, hr, hn⟩
  have HLw := Lib.hid (fun W (hb : Below w1.heap.size w1 W) => klower_ok A n m c W (hr.below hb) (fun j h1 h2 => by have := hn j h1 h2; omega) hK)
  clear hr hn HA HH hK
  generalize evC c = K at *
  generalize c.back = bk at *
  unfold evV at *
  go_wp2_with fail
  refine (HLw.out _ (by (repeat' (first | (with_reducible exact Below.refl _ _) | (with_reducible assumption) | (with_reducible refine below_drewN ?_ _) | (with_reducible refine Below.alloc ?_ ?_ _) | (with_reducible refine Below.drew ?_) | (with_reducible refine Below.setCell ?_ ?_ _) | go_size)))).mono ?_
  rintro e w2 ⟨b, rfl, hr, hq2⟩
  have hb2 : Below w.heap.size w w2 := (hb1.alloc hb1.size _).trans (hq2.mono (by simp; have := hb1.size; omega))
  have HR := Lib.hid hr
  clear hb1 hq2 hr HLw
  go_wp2_with fail
  refine (HH1.out _ _ HR.out).mono ?_
  rintro e w3 ⟨rfl, hq3⟩
  have hb3 := bthen hb2 hq3 hb2.size
  replace HR := Lib.hid (HR.out.below hq3 (Nat.le_refl _))
  go_wp2_with fail
  refine (HH2.out _ _ HR.out).mono ?_
  rintro e w4 ⟨rfl, hq4⟩
  have hb4 := bthen hb3 hq4 hb3.size
  go_wp2
  go_ret
  exact ⟨rfl, hb4⟩
set_option maxRecDepth 20000 in
set_option maxHeartbeats 4000000 in
theorem callowTexts_any (s : ByteArray) (hs : s.size ≤ 9223372036854775807) (t : Int) (w : World) (hm : MaxAt w) : Calls Tryz.prog 4 #[.string s, .int .i64 t] w (Ret (.bool true) w) := by
  have HV := Lib.hid (fun W (hb : Below w.heap.size w W) => lives31_any W (hm.below hb))
  by_cases hbig : 9000 < s.size
  · have hbig' : (9000 : Int) < (s.size : Int) := by omega
    clear hbig
    go_enter Tryz.func4, Tryz.ntmps4
    go_wp2_with fail
    refine (HV.out _ (Below.refl _ _)).mono ?_
    rintro e w1 ⟨rfl, hb1⟩
    go_wp2
    go_ret
    exact ⟨rfl, hb1⟩
  · have hbig' : ¬ (9000 : Int) < (s.size : Int) := by omega
    have HR := Lib.hid (calread_ev s (by omega) w hm)
    unfold RetEv at HR
    clear hbig
    cases hk : kread s.data.toList with
    | ok c =>
      have hK := kread_ok hk
      rw [hk] at HR
      unfold kcal kplace kerr at HR
      dsimp only at HR
      clear hk
      go_enter Tryz.func4, Tryz.ntmps4
      go_wp2_with fail
      refine HR.out.mono ?_
      rintro e w1 ⟨hb1, A, n, m, rfl, hr, hn⟩
      have hz1 := hb1.size
      have hn' : ∀ j, j < 8 → j ≠ 4 → n j ≤ 100000 := fun j h1 h2 => by have := hn j h1 h2; omega
      have HLw := Lib.hid (fun W (hb : Below w1.heap.size w1 W) => klower_ok A n m c W (hr.below hb) hn' hK)
      have HME := Lib.hid (fun W (hb : Below w1.heap.size w1 W) => kmeans_any A n m c t W (hr.below hb) hn')
      have HH := Lib.hid (fun b W h => has_ev c t b W h)
      clear hr hn hn' HR hK
      generalize meansE c t = R at *
      generalize evC c = K at *
      generalize c.back = bk at *
      unfold evV at *
      go_wp2_with fail
      have hE := evAt_new w1 A n m bk 24
      generalize hW : World.alloc w1 _ = W1 at *
      have hbW : Below w1.heap.size w1 W1 := by rw [← hW]; exact (Below.refl _ _).alloc (Nat.le_refl _) _
      clear hW
      refine (HLw.out _ hbW).mono ?_
      rintro e w2 ⟨b, rfl, hr, hq2⟩
      have hE2 := hE.below hq2
      have hb2 : Below w1.heap.size w1 w2 := bthen hbW hq2 hbW.size
      have q0 := hE2.h0
      have q1 := hE2.h1
      have q2 := hE2.h2
      have q3 := hE2.h3
      have q4 := hE2.h4
      have q5 := hE2.h5
      have q6 := hE2.h6
      have q7 := hE2.h7
      have h0' : ∀ y : Ext w2, y.W.cell? ⟨w1.heap.size, 0, none⟩ = some (.slice (A 0) (n 0) (m 0)) := fun y => y.cell q0
      have h1' : ∀ y : Ext w2, y.W.cell? ⟨w1.heap.size, 1, none⟩ = some (.slice (A 1) (n 1) (m 1)) := fun y => y.cell q1
      have h2' : ∀ y : Ext w2, y.W.cell? ⟨w1.heap.size, 2, none⟩ = some (.slice (A 2) (n 2) (m 2)) := fun y => y.cell q2
      have h3' : ∀ y : Ext w2, y.W.cell? ⟨w1.heap.size, 3, none⟩ = some (.slice (A 3) (n 3) (m 3)) := fun y => y.cell q3
      have h4' : ∀ y : Ext w2, y.W.cell? ⟨w1.heap.size, 4, none⟩ = some (.bool bk) := fun y => y.cell q4
      have h5' : ∀ y : Ext w2, y.W.cell? ⟨w1.heap.size, 5, none⟩ = some (.slice (A 5) (n 5) (m 5)) := fun y => y.cell q5
      have h6' : ∀ y : Ext w2, y.W.cell? ⟨w1.heap.size, 6, none⟩ = some (.slice (A 6) (n 6) (m 6)) := fun y => y.cell q6
      have h7' : ∀ y : Ext w2, y.W.cell? ⟨w1.heap.size, 7, none⟩ = some (.slice (A 7) (n 7) (m 7)) := fun y => y.cell q7
      clear q0 q1 q2 q3 q4 q5 q6 q7 hE2
      have HMx := Lib.hid (fun y : Ext w2 => HME.out y.W (bthen hb2 y.h hb2.size))
      have HHx := Lib.hid (fun y : Ext w2 => HH.out b y.W (hr.below y.h (Nat.le_refl _)))
      have hbz : Below w.heap.size w w2 := bthen hb1 hb2 hb1.size
      have HVx := Lib.hid (fun y : Ext w2 => HV.out y.W (bthen hbz y.h hbz.size))
      clear hE HME HH hr hq2 hb2 hbW HLw
      go_wp2_with fail
      refine wp_region_grew (by kernel_rfl) (by kernel_rfl) ?_
      repeat (first | go_big_quiet_skip | (go_big_quiet_want; go_big_quiet_op; (first | go_big_quiet_on | go_big_quiet_call ((with_reducible first | exact ext_call _ (HHx.out _) | exact ext_call _ (HMx.out _) | exact ext_call _ (HVx.out _))))))
      refine wpQuiet_nil ?_
      rintro _ ⟨xw, rfl⟩
      have hbx := bthen hbz (Ext.h xw) hbz.size
      go_wp2
      go_ret
      exact ⟨rfl, hbx⟩
    | error p =>
      obtain ⟨a, er⟩ := p
      obtain ⟨he, ha0, ha1⟩ := kread_err hk
      rw [hk] at HR
      unfold kcal kplace kerr at HR
      dsimp only at HR
      have he' : (er != 0) = true := by simpa using he
      clear hk ha1 he ha0
      go_enter Tryz.func4, Tryz.ntmps4
      go_wp2_with fail
      refine HR.out.mono ?_
      rintro e w1 ⟨hb1, A, n, m, rfl, hr, hn⟩
      clear hr hn
      unfold evV
      go_wp2_with fail
      refine (HV.out _ (hb1.alloc hb1.size _)).mono ?_
      rintro e w2 ⟨rfl, hb2⟩
      go_wp2
      go_ret
      exact ⟨rfl, by first | exact bthen hb1 hb2 hb1.size | exact (hb1.alloc hb1.size _).trans (hb2.mono (by simp; have := hb1.size; omega))⟩
end Go.Proofs.YtochhmkdhdadhaaGreat
