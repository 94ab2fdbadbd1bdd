/- The walks of clause.nth: an Ord. -/
import Derived.Test.YtochhmkdhdadhaaGreatWClF
import Derived.Test.YtochhmkdhdadhaaGreatWClI
import Derived.Deep.RegionHeld3
/- Clauses as data. -/
namespace Go.Proofs.YtochhmkdhdadhaaGreat
open Go.RowKit
set_option linter.unusedSimpArgs false
set_option linter.unusedVariables false

/-- A clause: seven masks (second, minute, hour, month, day, day from the end, weekday), Or, the ordinals, the years, the step and its unit and anchor, the span. -/
structure Cl where
  m : Nat → Int
  or : Bool
  oi : Int
  ob : Bool
  od : Nat → Int
  y : Nat → Int
  u : Int
  s : Int
  a : Int
  f : Int
  t : Int
abbrev clA (c : Cl) : Array Value := #[.int .u64 (c.m 0), .int .u64 (c.m 1), .int .u64 (c.m 2), .int .u64 (c.m 3), .int .u64 (c.m 4), .int .u64 (c.m 5), .int .u64 (c.m 6), .bool c.or, .int .i64 c.oi, .bool c.ob, .int .u64 (c.od 0), .int .u64 (c.od 1), .int .u64 (c.od 2), .int .u64 (c.od 3), .int .u64 (c.od 4), .int .u64 (c.od 5), .int .u64 (c.od 6), .int .u64 (c.od 7), .int .u64 (c.y 0), .int .u64 (c.y 1), .int .u64 (c.y 2), .int .u64 (c.y 3), .int .u64 (c.y 4), .int .u64 (c.y 5), .int .u64 (c.y 6), .int .i64 c.u, .int .i64 c.s, .int .i64 c.a, .int .i64 c.f, .int .i64 c.t]
def fullM (i : Nat) : Int := if i = 0 then spanM 0 59 else if i = 1 then spanM 0 59 else if i = 2 then spanM 0 23 else if i = 3 then spanM 1 12 else if i = 4 then spanM 1 31 else if i = 5 then spanM 1 31 else spanM 1 7
def fullC : Cl := { m := fullM, or := false, oi := 0, ob := false, od := fun _ => 0, y := fullW, u := 0, s := 1, a := 0, f := 0, t := 12622780799 }
end Go.Proofs.YtochhmkdhdadhaaGreat

/- Clauses as data; the walks of clause.Full, clause.Span. -/
namespace Go.Proofs.YtochhmkdhdadhaaGreat
open Go.RowKit
set_option linter.unusedSimpArgs false
set_option linter.unusedVariables false

theorem there_setCells {w : World} {b' : Nat} {n : Nat} (h : w.there b' 0 n) (b : Nat) (vs : List Value) (hl : ∀ j, j < vs.length → (w.cell? ⟨b, 0 + j, none⟩).isSome = true) : (w.setCells b 0 vs).there b' 0 n := fun j hj => by
  obtain ⟨h1, h2⟩ := h j hj
  refine ⟨?_, by rw [World.frozen?_setCells]; exact h2⟩
  by_cases hb : b' = b
  · subst hb
    by_cases hj2 : j < vs.length
    · rw [World.cell?_setCells_in b' vs 0 w hl j hj2]; rfl
    · rw [World.cell?_setCells_out b' vs 0 w _ (fun _ _ => .inr (by show 0 + vs.length ≤ 0 + j; omega))]; exact h1
  · rw [World.cell?_setCells_out b vs 0 w _ (fun h _ => absurd h hb)]; exact h1
theorem wp_store_op {op : Oper} {a : Act} {K : Act → World → Prop} {Q : Exit → Act → World → Prop} {w W : World} (t : TypeId) (x y : Operand) (ho : op.op = .store t x y) (cs : Array Value) {d : TypeDesc}
    (hx : a.eval x = .pointer (some ⟨w.heap.size, 0, none⟩)) (hy : a.eval y = .agg cs) (hu : Tryz.prog.underlying t = some d) (hd : d.isRow = true) (hi : (Tryz.prog.info? t).map (·.size) = some cs.size) (h1 : cs.all (·.oneCell') = true)
    (hb : Below w.heap.size w W) (ht : W.there w.heap.size 0 cs.size)
    (h : ∀ W', Hid ((loadVar t ⟨w.heap.size, 0, none⟩).run Tryz.prog W' = .ok (.agg cs) W') → Below w.heap.size w W' → W'.there w.heap.size 0 cs.size → (∀ b o, b ≠ w.heap.size → W'.cell? ⟨b, o, none⟩ = W.cell? ⟨b, o, none⟩) → K (a.put op.dst undef) W') : op.wp Tryz.prog a W K Q := by
  refine wp_store_mid (P := Tryz.prog) t x y ho w.heap.size 0 cs hx hy ht hi h1 (h _ ?_ (below_setCells (Nat.le_refl _) _ _ _ hb) (there_setCells ht _ _ (fun j hj => (ht j (by simpa using hj)).1)) (fun b o hne => World.cell?_setCells_out _ _ _ _ _ (fun e _ => absurd e hne)))
  have := run_loadVar_mid (P := Tryz.prog) (W.setCells w.heap.size 0 cs.toList) w.heap.size 0 t cs.toList d (World.rangeAt_setCells_same _ _ _ _ (by simpa using ht)) hu hd (by simpa using hi)
  show _ = _
  simpa using this
theorem upon_store {op : Oper} {a : Act} {K : Act → World → Prop} {Q : Exit → Act → World → Prop} {w W : World} (t : TypeId) (cs : Array Value) {d : TypeDesc} {R : Result Unit}
    (hrun : (Instr.storeAt t (.pointer (some ⟨w.heap.size, 0, none⟩)) (.agg cs)).run Tryz.prog W = R) (hu : Tryz.prog.underlying t = some d) (hd : d.isRow = true) (hi : (Tryz.prog.info? t).map (·.size) = some cs.size) (h1 : cs.all (·.oneCell') = true)
    (hb : Below w.heap.size w W) (ht : W.there w.heap.size 0 cs.size)
    (h : ∀ W', Hid ((loadVar t ⟨w.heap.size, 0, none⟩).run Tryz.prog W' = .ok (.agg cs) W') → Below w.heap.size w W' → W'.there w.heap.size 0 cs.size → (∀ b o, b ≠ w.heap.size → W'.cell? ⟨b, o, none⟩ = W.cell? ⟨b, o, none⟩) → K (a.put op.dst undef) W') : Oper.upon Tryz.prog op a K Q (R.andThen fun _ w' => .ok Next.skip w') := by
  rw [← hrun, run_storeAt_mid W w.heap.size 0 t cs ht hi h1]
  refine h _ ?_ (below_setCells (Nat.le_refl _) _ _ _ hb) (there_setCells ht _ _ (fun j hj => (ht j (by simpa using hj)).1)) (fun b o hne => World.cell?_setCells_out _ _ _ _ _ (fun e _ => absurd e hne))
  have := run_loadVar_mid (P := Tryz.prog) (W.setCells w.heap.size 0 cs.toList) w.heap.size 0 t cs.toList d (World.rangeAt_setCells_same _ _ _ _ (by simpa using ht)) hu hd (by simpa using hi)
  show _ = _
  simpa using this
set_option maxRecDepth 20000 in
set_option maxHeartbeats 4000000 in
theorem cfull_any (w : World) : Calls Tryz.prog 16 #[] w (Ret (.agg (clA fullC)) w) := by
  have H1 := Lib.hid (fun W => mspan_any 0 59 (by decide) (by decide) (by decide) (by decide) W)
  have H2 := Lib.hid (fun W => mspan_any 1 31 (by decide) (by decide) (by decide) (by decide) W)
  have H3 := Lib.hid (fun W => mspan_any 0 23 (by decide) (by decide) (by decide) (by decide) W)
  have H4 := Lib.hid (fun W => mspan_any 1 12 (by decide) (by decide) (by decide) (by decide) W)
  have H5 := Lib.hid (fun W => mspan_any 1 7 (by decide) (by decide) (by decide) (by decide) W)
  have HY := Lib.hid (fun W => wfull_any W)
  have HW := Lib.hid (fun W => swhole_any W)
  have HE : Hid (clA fullC = #[.int .u64 (spanM 0 59), .int .u64 (spanM 0 59), .int .u64 (spanM 0 23), .int .u64 (spanM 1 12), .int .u64 (spanM 1 31), .int .u64 (spanM 1 31), .int .u64 (spanM 1 7), .bool false, .int .i64 0, .bool false, .int .u64 0, .int .u64 0, .int .u64 0, .int .u64 0, .int .u64 0, .int .u64 0, .int .u64 0, .int .u64 0, .int .u64 (fullW 0), .int .u64 (fullW 1), .int .u64 (fullW 2), .int .u64 (fullW 3), .int .u64 (fullW 4), .int .u64 (fullW 5), .int .u64 (fullW 6), .int .i64 0, .int .i64 1, .int .i64 0, .int .i64 0, .int .i64 12622780799]) := rfl
  rw [HE.out]
  clear HE
  unfold wdV at HY
  generalize spanM 0 59 = p1 at *
  generalize spanM 1 31 = p2 at *
  generalize spanM 0 23 = p3 at *
  generalize spanM 1 12 = p4 at *
  generalize spanM 1 7 = p5 at *
  generalize fullW = y at *
  have hB : ∀ W, (Instr.build 37 #[(0, .int .u64 p1), (1, .int .u64 p1), (2, .int .u64 p3), (3, .int .u64 p4), (4, .int .u64 p2), (5, .int .u64 p2), (6, .int .u64 p5), (9, .agg #[.int .u64 (y 0), .int .u64 (y 1), .int .u64 (y 2), .int .u64 (y 3), .int .u64 (y 4), .int .u64 (y 5), .int .u64 (y 6)]), (11, .int .i64 1), (13, .int .i64 0), (14, .int .i64 12622780799)]).run Tryz.prog W = .ok (.agg #[.int .u64 p1, .int .u64 p1, .int .u64 p3, .int .u64 p4, .int .u64 p2, .int .u64 p2, .int .u64 p5, .bool false, .int .i64 0, .bool false, .int .u64 0, .int .u64 0, .int .u64 0, .int .u64 0, .int .u64 0, .int .u64 0, .int .u64 0, .int .u64 0, .int .u64 (y 0), .int .u64 (y 1), .int .u64 (y 2), .int .u64 (y 3), .int .u64 (y 4), .int .u64 (y 5), .int .u64 (y 6), .int .i64 0, .int .i64 1, .int .i64 0, .int .i64 0, .int .i64 12622780799]) W := fun W => run_build W _ _ _ (by kernel_rfl)
  go_enter Tryz.func16, Tryz.ntmps16
  go_wp2_with fail
  refine (H1.out _).mono ?_
  rintro e w1 ⟨rfl, rfl⟩
  go_wp2_with fail
  refine (H2.out _).mono ?_
  rintro e w1 ⟨rfl, rfl⟩
  go_wp2_with fail
  have hT0 := there_new w #[.int .u64 0, .int .u64 0, .int .u64 0, .int .u64 0, .int .u64 0, .int .u64 0, .int .u64 0, .bool false, .int .i64 0, .bool false, .int .u64 0, .int .u64 0, .int .u64 0, .int .u64 0, .int .u64 0, .int .u64 0, .int .u64 0, .int .u64 0, .int .u64 0, .int .u64 0, .int .u64 0, .int .u64 0, .int .u64 0, .int .u64 0, .int .u64 0, .int .i64 0, .int .i64 0, .int .i64 0, .int .i64 0, .int .i64 0] 37
  generalize hW1 : World.alloc w _ = W1 at *
  have hb1 : Below w.heap.size w W1 := by rw [← hW1]; exact (Below.refl _ _).alloc (Nat.le_refl _) _
  have hz1 : w.heap.size < W1.heap.size := by rw [← hW1]; simp
  clear hW1
  refine (HW.out _).mono ?_
  rintro e w1 ⟨rfl, hb2⟩
  have HT := Lib.hid (there_below hT0 hz1 hb2)
  have hbw := bthen hb1 hb2 hb1.size
  have hz2 : w.heap.size < w1.heap.size := Nat.lt_of_lt_of_le hz1 hb2.size
  clear hT0 hb1 hb2 hz1 H1 H2 HW
  go_wp2_with fail
  generalize hW1 : World.alloc w1 _ = W2
  have s0 : W2.cell? ⟨w1.heap.size, 0, none⟩ = some (.int .i64 0) := by rw [← hW1]; exact cell_new rfl rfl
  have s1 : W2.cell? ⟨w1.heap.size, 1, none⟩ = some (.int .i64 12622780799) := by rw [← hW1]; exact cell_new rfl rfl
  have hb1 : Below w1.heap.size w1 W2 := by rw [← hW1]; exact (Below.refl _ _).alloc (Nat.le_refl _) _
  have hq : w.heap.size < w1.heap.size := hz2
  have hS0 : Below w.heap.size w W2 ∧ W2.there w.heap.size 0 30 ∧ W2.cell? ⟨w1.heap.size, 0, none⟩ = some (.int .i64 0) ∧ W2.cell? ⟨w1.heap.size, 1, none⟩ = some (.int .i64 12622780799) :=
    ⟨bthen hbw hb1 hbw.size, there_below HT.out hz2 hb1, s0, s1⟩
  have HS : Hid (∀ w' w'', (Below w.heap.size w w' ∧ w'.there w.heap.size 0 30 ∧ w'.cell? ⟨w1.heap.size, 0, none⟩ = some (.int .i64 0) ∧ w'.cell? ⟨w1.heap.size, 1, none⟩ = some (.int .i64 12622780799)) → Below w'.heap.size w' w'' → (Below w.heap.size w w'' ∧ w''.there w.heap.size 0 30 ∧ w''.cell? ⟨w1.heap.size, 0, none⟩ = some (.int .i64 0) ∧ w''.cell? ⟨w1.heap.size, 1, none⟩ = some (.int .i64 12622780799))) := fun w' w'' h hb =>
    ⟨bthen h.1 hb h.1.size, there_below h.2.1 (World.block_lt_of_cell? _ ⟨w.heap.size, 0, none⟩ (Option.eq_some_of_isSome (by simpa using (h.2.1 0 (by decide)).1))) hb, (⟨w'', hb⟩ : Ext w').cell h.2.2.1, (⟨w'', hb⟩ : Ext w').cell h.2.2.2⟩
  have HS0 := Lib.hid hS0
  clear hW1 s0 s1 hb1 HT hbw hz2 hS0
  go_region_held3 (fun w' => Below w.heap.size w w' ∧ w'.there w.heap.size 0 30 ∧ w'.cell? ⟨w1.heap.size, 0, none⟩ = some (.int .i64 0) ∧ w'.cell? ⟨w1.heap.size, 1, none⟩ = some (.int .i64 12622780799))
    (first | exact HS0.out | (go_split_ands; exact HS.out _ _ ⟨by assumption, by assumption, by assumption, by assumption⟩ hb1) | (go_split_ands; exact ⟨by assumption, by assumption, by assumption, by assumption⟩) | (go_split_ands; exact HS.out _ _ HS0.out (Below.drew (Below.refl _ _))) | (go_split_ands; exact ⟨hbE, htE, (hcE _ _ (by omega)).trans (by assumption), (hcE _ _ (by omega)).trans (by assumption)⟩))
    (first | (go_at_call 48; (with_reducible refine (H3.out _).mono ?_); rintro e w3 ⟨rfl, rfl⟩) | (go_at_call 48; (with_reducible refine (H4.out _).mono ?_); rintro e w3 ⟨rfl, rfl⟩) | (go_at_call 48; (with_reducible refine (H5.out _).mono ?_); rintro e w3 ⟨rfl, rfl⟩) | (go_at_call 50; (with_reducible refine (HY.out _).mono ?_); rintro e w3 ⟨rfl, hb1⟩) | (refine upon_store (w := w) (W := w3) 37 #[.int .u64 p1, .int .u64 p1, .int .u64 p3, .int .u64 p4, .int .u64 p2, .int .u64 p2, .int .u64 p5, .bool false, .int .i64 0, .bool false, .int .u64 0, .int .u64 0, .int .u64 0, .int .u64 0, .int .u64 0, .int .u64 0, .int .u64 0, .int .u64 0, .int .u64 (y 0), .int .u64 (y 1), .int .u64 (y 2), .int .u64 (y 3), .int .u64 (y 4), .int .u64 (y 5), .int .u64 (y 6), .int .i64 0, .int .i64 1, .int .i64 0, .int .i64 0, .int .i64 12622780799] ?_ Tryz.underlying37 rfl (by kernel_rfl) (by kernel_rfl) ?_ ?_ ?_; (focus go_simp); (focus (go_split_ands; assumption)); (focus (go_split_ands; assumption)); intro W' hLd hbE htE hcE))
  simp only [Exit.then]
  go_wp2
  (try simp only [Exit.inBlock, Exit.then])
  refine bodyPost_ret (v := .agg #[.int .u64 p1, .int .u64 p1, .int .u64 p3, .int .u64 p4, .int .u64 p2, .int .u64 p2, .int .u64 p5, .bool false, .int .i64 0, .bool false, .int .u64 0, .int .u64 0, .int .u64 0, .int .u64 0, .int .u64 0, .int .u64 0, .int .u64 0, .int .u64 0, .int .u64 (y 0), .int .u64 (y 1), .int .u64 (y 2), .int .u64 (y 3), .int .u64 (y 4), .int .u64 (y 5), .int .u64 (y 6), .int .i64 0, .int .i64 1, .int .i64 0, .int .i64 0, .int .i64 12622780799]) ?_ rfl ⟨rfl, hbE⟩
  rw [results_cell1 rfl]
  exact hLd.out
end Go.Proofs.YtochhmkdhdadhaaGreat

/- The walks of clause.Span, nth. -/
namespace Go.Proofs.YtochhmkdhdadhaaGreat
open Go.RowKit
set_option linter.unusedSimpArgs false
set_option linter.unusedVariables false

set_option maxRecDepth 20000 in
set_option maxHeartbeats 2000000 in
theorem cspan_any (c : Cl) (w : World) : Calls Tryz.prog 64 #[.agg (clA c)] w (Ret (.agg #[.int .i64 (heldF c.f c.t), .int .i64 (heldU c.f c.t)]) w) := by
  have HH := Lib.hid (fun W => sheld_any c.f c.t W)
  generalize heldF c.f c.t = F at *
  generalize heldU c.f c.t = U at *
  unfold clA
  go_enter Tryz.func64, Tryz.ntmps64
  go_wp2_with fail
  have hT0 := there_new (w.alloc (.cells #[.int .u64 (c.m 0), .int .u64 (c.m 1), .int .u64 (c.m 2), .int .u64 (c.m 3), .int .u64 (c.m 4), .int .u64 (c.m 5), .int .u64 (c.m 6), .bool c.or, .int .i64 c.oi, .bool c.ob, .int .u64 (c.od 0), .int .u64 (c.od 1), .int .u64 (c.od 2), .int .u64 (c.od 3), .int .u64 (c.od 4), .int .u64 (c.od 5), .int .u64 (c.od 6), .int .u64 (c.od 7), .int .u64 (c.y 0), .int .u64 (c.y 1), .int .u64 (c.y 2), .int .u64 (c.y 3), .int .u64 (c.y 4), .int .u64 (c.y 5), .int .u64 (c.y 6), .int .i64 c.u, .int .i64 c.s, .int .i64 c.a, .int .i64 c.f, .int .i64 c.t] 37)) #[.int .i64 0, .int .i64 0] 89
  generalize hV : World.alloc w _ = V at *
  have hz : V.heap.size = w.heap.size + 1 := by rw [← hV]; simp
  have hbV : Below w.heap.size w V := by rw [← hV]; exact (Below.refl _ _).alloc (Nat.le_refl _) _
  clear hV
  have hb1 : Below w.heap.size w (V.alloc (.cells #[.int .i64 0, .int .i64 0] 89)) := hbV.alloc (by omega) _
  rw [hz] at hT0
  have hzz : w.heap.size + 1 < (V.alloc (.cells #[.int .i64 0, .int .i64 0] 89)).heap.size := by simp; omega
  generalize V.alloc (.cells #[.int .i64 0, .int .i64 0] 89) = W2 at *
  refine (HH.out _).mono ?_
  rintro e w1 ⟨rfl, hb2⟩
  have HT := Lib.hid (there_below hT0 hzz hb2)
  have hbw := bthen hb1 hb2 hb1.size
  clear hT0 hb1 hb2 hzz HH hbV hz
  go_wp2_with (refine wp_store_at (w := w) rfl 89 _ _ rfl #[.int .i64 F, .int .i64 U] (w.heap.size + 1) (by omega) rfl rfl Tryz.underlying89 rfl (by kernel_rfl) (by kernel_rfl) hbw HT.out ?_; intro W' hLd hbE)
  (try simp only [Exit.inBlock, Exit.then])
  refine bodyPost_ret (v := .agg #[.int .i64 F, .int .i64 U]) ?_ rfl ⟨rfl, hbE⟩
  rw [results_cell1 rfl]
  exact hLd.out
/-- Has a day an Ord? -/
def nthC (c : Cl) (n : Int) : Bool :=
  decide (c.oi = 0) || hasM (c.od (wdD n).toNat) (if c.oi = 1 ∧ c.ob = true then shN n (yD n) (mD n) (dD n) 7 else if c.oi = 1 then shN n (yD n) (mD n) (dD n) 6 else if c.ob = true then shN n (yD n) (mD n) (dD n) 9 else shN n (yD n) (mD n) (dD n) 8)
theorem wdD_bd (n : Int) : 1 ≤ wdD n ∧ wdD n ≤ 7 := by unfold wdD; omega
abbrev ordA (c : Cl) : Array Value := #[.int .i64 c.oi, .bool c.ob, .int .u64 (c.od 0), .int .u64 (c.od 1), .int .u64 (c.od 2), .int .u64 (c.od 3), .int .u64 (c.od 4), .int .u64 (c.od 5), .int .u64 (c.od 6), .int .u64 (c.od 7)]
set_option maxRecDepth 20000 in
set_option maxHeartbeats 2000000 in
theorem nth_none (c : Cl) (n : Int) (h0 : c.oi = 0) (w : World) : Calls Tryz.prog 137 #[.agg (ordA c), shV n] w (Ret (.bool (nthC c n)) w) := by
  have HR : Hid (nthC c n = true) := by show _ = _; unfold nthC; rw [decide_eq_true h0]; rfl
  rw [HR.out]
  have hV : ∃ g : Nat → Int, shV n = .agg #[.int .i64 (g 0), .int .i64 (g 1), .int .i64 (g 2), .int .i64 (g 3), .int .i64 (g 4), .int .i64 (g 5), .int .i64 (g 6), .int .i64 (g 7), .int .i64 (g 8), .int .i64 (g 9)] := ⟨_, rfl⟩
  obtain ⟨g, hg⟩ := hV
  rw [hg]
  have h0' : (c.oi == 0) = true := by simpa using h0
  unfold ordA
  clear HR hg h0
  go_enter Tryz.func137, Tryz.ntmps137
  go_wp2
  go_ret
  exact ⟨rfl, by (repeat' (first | (with_reducible exact Below.refl _ _) | (with_reducible assumption) | (with_reducible refine below_drewN ?_ _) | (with_reducible refine Below.alloc ?_ ?_ _) | (with_reducible refine Below.drew ?_) | (with_reducible refine Below.setCell ?_ ?_ _) | go_size))⟩
end Go.Proofs.YtochhmkdhdadhaaGreat

namespace Go.Proofs.YtochhmkdhdadhaaGreat
open Go.RowKit
set_option linter.unusedSimpArgs false
set_option linter.unusedVariables false

set_option maxRecDepth 20000 in
set_option maxHeartbeats 4000000 in
theorem nth_mb (c : Cl) (n : Int) (h1 : c.oi = 1) (hb : c.ob = true) (hd : ∀ k, k < 8 → M64 (c.od k)) (w : World) : Calls Tryz.prog 137 #[.agg (ordA c), shV n] w (Ret (.bool (nthC c n)) w) := by
  have hw := wdD_bd n
  obtain ⟨k, hk⟩ := Int.eq_ofNat_of_zero_le (show 0 ≤ wdD n by omega)
  have hdk := hd k (by omega)
  have HH := Lib.hid (fun x W => mhas_any (c.od k) x hdk.1 hdk.2 W)
  have HR : Hid (nthC c n = hasM (c.od k) (shN n (yD n) (mD n) (dD n) 7)) := by
    show _ = _
    unfold nthC
    rw [decide_eq_false (by omega), hk, if_pos ⟨h1, hb⟩]
    rfl
  rw [HR.out]
  have HV : Hid (shN n (yD n) (mD n) (dD n) 5 = (k : Int)) := hk
  unfold shV
  rw [HV.out]
  generalize shN n (yD n) (mD n) (dD n) = g at *
  have h0' : (c.oi == 0) = false := by rw [h1]; rfl
  have h1' : (c.oi == 1) = true := by rw [h1]; rfl
  have hkk : k = 1 ∨ k = 2 ∨ k = 3 ∨ k = 4 ∨ k = 5 ∨ k = 6 ∨ k = 7 := by omega
  clear HR HV hk hw hd hdk
  unfold ordA
  rw [hb]
  clear hb
  generalize c.oi = oi at *
  clear h1
  rcases hkk with rfl | rfl | rfl | rfl | rfl | rfl | rfl
  all_goals (
    go_enter Tryz.func137, Tryz.ntmps137
    go_wp2_with fail
    refine (HH.out _ _).mono ?_
    rintro e w1 ⟨rfl, rfl⟩
    go_wp2
    go_ret
    exact ⟨rfl, by (repeat' (first | (with_reducible exact Below.refl _ _) | (with_reducible assumption) | (with_reducible refine below_drewN ?_ _) | (with_reducible refine Below.alloc ?_ ?_ _) | (with_reducible refine Below.drew ?_) | (with_reducible refine Below.setCell ?_ ?_ _) | go_size))⟩)
set_option maxRecDepth 20000 in
set_option maxHeartbeats 4000000 in
theorem nth_m (c : Cl) (n : Int) (h1 : c.oi = 1) (hb : c.ob = false) (hd : ∀ k, k < 8 → M64 (c.od k)) (w : World) : Calls Tryz.prog 137 #[.agg (ordA c), shV n] w (Ret (.bool (nthC c n)) w) := by
  have hw := wdD_bd n
  obtain ⟨k, hk⟩ := Int.eq_ofNat_of_zero_le (show 0 ≤ wdD n by omega)
  have hdk := hd k (by omega)
  have HH := Lib.hid (fun x W => mhas_any (c.od k) x hdk.1 hdk.2 W)
  have HR : Hid (nthC c n = hasM (c.od k) (shN n (yD n) (mD n) (dD n) 6)) := by
    show _ = _
    unfold nthC
    rw [decide_eq_false (by omega), hk, if_neg (by rw [hb]; simp), if_pos h1]
    rfl
  rw [HR.out]
  have HV : Hid (shN n (yD n) (mD n) (dD n) 5 = (k : Int)) := hk
  unfold shV
  rw [HV.out]
  generalize shN n (yD n) (mD n) (dD n) = g at *
  have h0' : (c.oi == 0) = false := by rw [h1]; rfl
  have h1' : (c.oi == 1) = true := by rw [h1]; rfl
  have hkk : k = 1 ∨ k = 2 ∨ k = 3 ∨ k = 4 ∨ k = 5 ∨ k = 6 ∨ k = 7 := by omega
  clear HR HV hk hw hd hdk
  unfold ordA
  rw [hb]
  clear hb
  generalize c.oi = oi at *
  clear h1
  rcases hkk with rfl | rfl | rfl | rfl | rfl | rfl | rfl
  all_goals (
    go_enter Tryz.func137, Tryz.ntmps137
    go_wp2_with fail
    refine (HH.out _ _).mono ?_
    rintro e w1 ⟨rfl, rfl⟩
    go_wp2
    go_ret
    exact ⟨rfl, by (repeat' (first | (with_reducible exact Below.refl _ _) | (with_reducible assumption) | (with_reducible refine below_drewN ?_ _) | (with_reducible refine Below.alloc ?_ ?_ _) | (with_reducible refine Below.drew ?_) | (with_reducible refine Below.setCell ?_ ?_ _) | go_size))⟩)
set_option maxRecDepth 20000 in
set_option maxHeartbeats 4000000 in
theorem nth_yb (c : Cl) (n : Int) (h0 : c.oi ≠ 0) (h1 : c.oi ≠ 1) (hb : c.ob = true) (hd : ∀ k, k < 8 → M64 (c.od k)) (w : World) : Calls Tryz.prog 137 #[.agg (ordA c), shV n] w (Ret (.bool (nthC c n)) w) := by
  have hw := wdD_bd n
  obtain ⟨k, hk⟩ := Int.eq_ofNat_of_zero_le (show 0 ≤ wdD n by omega)
  have hdk := hd k (by omega)
  have HH := Lib.hid (fun x W => mhas_any (c.od k) x hdk.1 hdk.2 W)
  have HR : Hid (nthC c n = hasM (c.od k) (shN n (yD n) (mD n) (dD n) 9)) := by
    show _ = _
    unfold nthC
    rw [decide_eq_false (by omega), hk, if_neg (fun h => h1 h.1), if_neg h1, if_pos hb]
    rfl
  rw [HR.out]
  have HV : Hid (shN n (yD n) (mD n) (dD n) 5 = (k : Int)) := hk
  unfold shV
  rw [HV.out]
  generalize shN n (yD n) (mD n) (dD n) = g at *
  have h0' : (c.oi == 0) = false := by simpa using h0
  have h1' : (c.oi == 1) = false := by simpa using h1
  clear h0
  have hkk : k = 1 ∨ k = 2 ∨ k = 3 ∨ k = 4 ∨ k = 5 ∨ k = 6 ∨ k = 7 := by omega
  clear HR HV hk hw hd hdk
  unfold ordA
  rw [hb]
  clear hb
  generalize c.oi = oi at *
  clear h1
  rcases hkk with rfl | rfl | rfl | rfl | rfl | rfl | rfl
  all_goals (
    go_enter Tryz.func137, Tryz.ntmps137
    go_wp2_with fail
    refine (HH.out _ _).mono ?_
    rintro e w1 ⟨rfl, rfl⟩
    go_wp2
    go_ret
    exact ⟨rfl, by (repeat' (first | (with_reducible exact Below.refl _ _) | (with_reducible assumption) | (with_reducible refine below_drewN ?_ _) | (with_reducible refine Below.alloc ?_ ?_ _) | (with_reducible refine Below.drew ?_) | (with_reducible refine Below.setCell ?_ ?_ _) | go_size))⟩)
set_option maxRecDepth 20000 in
set_option maxHeartbeats 4000000 in
theorem nth_y (c : Cl) (n : Int) (h0 : c.oi ≠ 0) (h1 : c.oi ≠ 1) (hb : c.ob = false) (hd : ∀ k, k < 8 → M64 (c.od k)) (w : World) : Calls Tryz.prog 137 #[.agg (ordA c), shV n] w (Ret (.bool (nthC c n)) w) := by
  have hw := wdD_bd n
  obtain ⟨k, hk⟩ := Int.eq_ofNat_of_zero_le (show 0 ≤ wdD n by omega)
  have hdk := hd k (by omega)
  have HH := Lib.hid (fun x W => mhas_any (c.od k) x hdk.1 hdk.2 W)
  have HR : Hid (nthC c n = hasM (c.od k) (shN n (yD n) (mD n) (dD n) 8)) := by
    show _ = _
    unfold nthC
    rw [decide_eq_false (by omega), hk, if_neg (fun h => h1 h.1), if_neg h1, if_neg (by rw [hb]; simp)]
    rfl
  rw [HR.out]
  have HV : Hid (shN n (yD n) (mD n) (dD n) 5 = (k : Int)) := hk
  unfold shV
  rw [HV.out]
  generalize shN n (yD n) (mD n) (dD n) = g at *
  have h0' : (c.oi == 0) = false := by simpa using h0
  have h1' : (c.oi == 1) = false := by simpa using h1
  clear h0
  have hkk : k = 1 ∨ k = 2 ∨ k = 3 ∨ k = 4 ∨ k = 5 ∨ k = 6 ∨ k = 7 := by omega
  clear HR HV hk hw hd hdk
  unfold ordA
  rw [hb]
  clear hb
  generalize c.oi = oi at *
  clear h1
  rcases hkk with rfl | rfl | rfl | rfl | rfl | rfl | rfl
  all_goals (
    go_enter Tryz.func137, Tryz.ntmps137
    go_wp2_with fail
    refine (HH.out _ _).mono ?_
    rintro e w1 ⟨rfl, rfl⟩
    go_wp2
    go_ret
    exact ⟨rfl, by (repeat' (first | (with_reducible exact Below.refl _ _) | (with_reducible assumption) | (with_reducible refine below_drewN ?_ _) | (with_reducible refine Below.alloc ?_ ?_ _) | (with_reducible refine Below.drew ?_) | (with_reducible refine Below.setCell ?_ ?_ _) | go_size))⟩)
theorem nth_any (c : Cl) (n : Int) (hd : ∀ k, k < 8 → M64 (c.od k)) (w : World) : Calls Tryz.prog 137 #[.agg (ordA c), shV n] w (Ret (.bool (nthC c n)) w) := by
  by_cases h0 : c.oi = 0
  · exact nth_none c n h0 w
  · by_cases h1 : c.oi = 1
    · cases hb : c.ob with
      | true => exact nth_mb c n h1 hb hd w
      | false => exact nth_m c n h1 hb hd w
    · cases hb : c.ob with
      | true => exact nth_yb c n h0 h1 hb hd w
      | false => exact nth_y c n h0 h1 hb hd w
end Go.Proofs.YtochhmkdhdadhaaGreat
