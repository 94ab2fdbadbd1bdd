/- Whole structs loaded in a region that draws its order; two clauses that are the same, compared. -/
import Derived.Test.YtochhmkdhdadhaaGreatWClT
import Derived.Laws.EntriesVeiled
import Derived.Test.YtochhmkdhdadhaaGreatWRuA
import Derived.Test.YtochhmkdhdadhaaGreatWClP
import Derived.BigRegion
/- The walks of clause.Days, Day. -/
namespace Go.Proofs.YtochhmkdhdadhaaGreat
open Go.RowKit
set_option linter.unusedSimpArgs false
set_option linter.unusedVariables false

theorem PredSh.congr {g : Nat} {lb : Array Value} {p q : Int → Bool} {w : World} (h : PredSh g lb p w) (e : ∀ n, 0 ≤ n → n < 146097 → p n = q n) : PredSh g lb q w := fun W hW n h0 h1 => by
  rw [← e n h0 h1]
  exact h W hW n h0 h1
theorem PredSh.later {g : Nat} {lb : Array Value} {p : Int → Bool} {w w' : World} (h : PredSh g lb p w) (hb : Below w.heap.size w w') : PredSh g lb p w' := fun W hW n h0 h1 => h W (hb.trans (hW.mono hb.size)) n h0 h1
/-- Has a clause a day? -/
def dayC (c : Cl) (n : Int) : Bool := mayG c fullC && dayP c (dayU c.u c.s c.a) n
theorem wp_load_arr {ops : Array Oper} {rest : List Oper} {op : Oper} {a : Act} {Q : Exit → Act → World → Prop} {W : World} (hw : Region.wanted op (yielded ops a.tmps) = true) (t : TypeId) (x : Operand) (ho : op.op = .load t x) (cs : Array Value) {d : TypeDesc} (b : Nat) (off : Nat)
    (hx : a.eval x = .pointer (some ⟨b, off, none⟩)) (hu : Tryz.prog.underlying t = some d) (hd : d.isRow = true) (hi : (Tryz.prog.info? t).map (·.size) = some cs.size) (hA : ∀ j v, cs[j]? = some v → W.cell? ⟨b, off + j, none⟩ = some v)
    (h : wpList Tryz.prog ops Q rest (a.put op.dst (.agg cs)) W) : wpList Tryz.prog ops Q (op :: rest) a W :=
  BigFrame.wpList_want hw fun _ hK => wp_load_mid (P := Tryz.prog) t x ho b off hx cs.toList d (fun j v hj => hA j v (by simpa using hj)) hu hd (by simpa using hi) (hK _ _ (by simpa using h))
theorem lies0 {W : World} {b : Nat} {cs : Array Value} (h : ∀ j v, cs[j]? = some v → W.cell? ⟨b, j, none⟩ = some v) : ∀ j v, cs[j]? = some v → W.cell? ⟨b, 0 + j, none⟩ = some v := fun j v hj => by rw [Nat.zero_add]; exact h j v hj
/-- A struct is stored into a block that was just made. -/
theorem wp_store_new {ops : Array Oper} {rest : List Oper} {op : Oper} {a : Act} {Q : Exit → Act → World → Prop} {V : World} {tz : TypeId} (hw : Region.wanted op (yielded ops a.tmps) = true) (t : TypeId) (x y : Operand) (ho : op.op = .store t x y) (cs Z : Array Value)
    (hx : a.eval x = .pointer (some ⟨V.heap.size, 0, none⟩)) (hy : a.eval y = .agg cs) (hi : (Tryz.prog.info? t).map (·.size) = some cs.size) (h1 : cs.all (·.oneCell') = true) (hZ : Z.size = cs.size)
    (h : ∀ W', Below V.heap.size V W' → Arr W' V.heap.size cs.size (fun j => cs.getD j undef) → W'.heap.size = V.heap.size + 1 → wpList Tryz.prog ops Q rest (a.put op.dst undef) W') : wpList Tryz.prog ops Q (op :: rest) a (V.alloc (.cells Z tz)) := by
  have ht : (V.alloc (.cells Z tz)).there V.heap.size 0 cs.size := by rw [← hZ]; exact there_new V Z tz
  refine BigFrame.wpList_want hw fun K hK => wp_store_mid (P := Tryz.prog) t x y ho V.heap.size 0 cs hx hy ht hi h1 (hK _ _ (h _ ?_ ⟨fun j hj => ?_, fun j => ?_⟩ ?_))
  · exact below_setCells (Nat.le_refl _) _ _ _ ((Below.refl _ _).alloc (Nat.le_refl _) _)
  · have h2 := World.rangeAt_setCells_same (V.alloc (.cells Z tz)) V.heap.size 0 cs.toList (by simpa using ht) j cs[j] (by simp [hj])
    rw [Nat.zero_add] at h2
    rw [h2]
    show _ = some (cs.getD j undef)
    rw [Array.getD_eq_getD_getElem?, Array.getElem?_eq_getElem hj]
    rfl
  · rw [World.frozen?_setCells]
    go_simp
  · rw [size_setC]; simp
def updG (g : Nat → Value) (i : Nat) (v : Value) (j : Nat) : Value := if j = i then v else g j
theorem Arr.updG {w : World} {b m : Nat} {g : Nat → Value} (h : Arr w b m g) (i : Nat) (hi : i < m) (v : Value) : Arr (w.setCell ⟨b, i, none⟩ v) b m (updG g i v) :=
  h.set i hi v (if_pos rfl) (fun j _ hn => if_neg hn)
theorem gC_at {c : Cl} {w : World} {b : Nat} (h : Arr w b 30 (gC c)) : ∀ j v, (clA c)[j]? = some v → w.cell? ⟨b, j, none⟩ = some v := fun j v hj => by
  have hl : j < 30 := (Array.getElem?_eq_some_iff.1 hj).1
  rw [h.1 j hl]
  unfold gC
  rw [Array.getD_eq_getD_getElem?, hj]
  rfl
theorem cl_info (c : Cl) : (Tryz.prog.info? 37).map (·.size) = some (clA c).size := by kernel_rfl
theorem cl_cells (c : Cl) (w : World) : (w.alloc (.cells (clA c) 37)).cell? ⟨w.heap.size, 0, none⟩ = some (.int .u64 (c.m 0)) := cell_new rfl rfl
set_option maxRecDepth 20000 in
set_option maxHeartbeats 8000000 in
theorem cdays_any (c : Cl) (hc : BitsC c) (w : World) : Calls Tryz.prog 101 #[.agg (clA c)] w (RetSh (dayC c) w) := by
  have eg1 : ∀ args w, (callFunc 133 args).run Tryz.prog w = .ok (.enter 133 args) w := enters_of Tryz.func133 (by kernel_rfl) rfl
  have eg2 : ∀ args w, (callFunc 135 args).run Tryz.prog w = .ok (.enter 135 args) w := enters_of Tryz.func135 (by kernel_rfl) rfl
  have E1 := Lib.hid eg1
  have E2 := Lib.hid eg2
  have HM := Lib.hid (fun W => clmay_any c W)
  have HU := Lib.hid (fun W => udays_any c.u c.s c.a W)
  have hQ : ∀ n, dayC c n = (mayG c fullC && dayP c (dayU c.u c.s c.a) n) := fun n => rfl
  have H1 := Lib.hid (fun W => cdays1_any W)
  have H2 := Lib.hid (fun bc bo g lb w h1 h2 h3 h4 => cdays2_any c hc bc bo g lb (dayU c.u c.s c.a) w h1 h2 h3 h4)
  have HC0 := Lib.hid (gC_new w c 37)
  have HA := Lib.hid (fun w b h => @gC_at c w b h)
  have HI := Lib.hid (cl_info c)
  have H25 : Hid ((gC c) 25 = .int .i64 c.u ∧ (gC c) 26 = .int .i64 c.s ∧ (gC c) 27 = .int .i64 c.a) := ⟨rfl, rfl, rfl⟩
  have h1c : (Value.agg (clA c)).oneCell' = false := rfl
  clear eg1 eg2 hc
  generalize dayU c.u c.s c.a = P at *
  generalize dayC c = Q at *
  generalize mayG c fullC = B at *
  generalize gC c = gc at *
  generalize clA c = cs at *
  go_enter Tryz.func101, Tryz.ntmps101
  go_wp2_with (refine wp_load_arr rfl 37 _ rfl cs w.heap.size 0 rfl Tryz.underlying37 rfl HI.out (lies0 (HA.out _ _ HC0.out)) ?_)
  refine (HM.out _).mono ?_
  rintro e w1 ⟨rfl, hq1⟩
  have HC2 := Lib.hid (Arr.below HC0.out (Arr.lt HC0.out (by decide)) hq1)
  have hb1 : Below w.heap.size w w1 := ((Below.refl _ w).alloc (Nat.le_refl _) _).trans (hq1.mono (by simp))
  clear HC0 hq1 HM
  cases B with
  | false =>
    have HP : Hid (∀ w', PredSh 133 #[] Q w') := fun w' => (H1.out w').congr fun n _ _ => by rw [hQ n]; rfl
    clear hQ H2
    go_wp2
    go_ret
    exact ⟨_, _, rfl, E1.out, HP.out _, hb1⟩
  | true =>
    have o25 : w1.cell? ⟨w.heap.size, 25, none⟩ = some (.int .i64 c.u) := by rw [← H25.out.1]; exact HC2.out.1 25 (by decide)
    have o26 : w1.cell? ⟨w.heap.size, 26, none⟩ = some (.int .i64 c.s) := by rw [← H25.out.2.1]; exact HC2.out.1 26 (by decide)
    have o27 : w1.cell? ⟨w.heap.size, 27, none⟩ = some (.int .i64 c.a) := by rw [← H25.out.2.2]; exact HC2.out.1 27 (by decide)
    have HQ : Hid (∀ bc bo g lb w, Arr w bc 30 gc → w.cell? ⟨bo, 0, none⟩ = some (.func (.func g) #[] lb) → (∀ args w, (callFunc g args).run Tryz.prog w = .ok (.enter g args) w) → PredSh g lb P w → PredSh 135 #[.pointer (some ⟨bc, 0, none⟩), .pointer (some ⟨bo, 0, none⟩)] Q w) :=
      fun bc bo g lb w h1 h2 h3 h4 => (H2.out bc bo g lb w h1 h2 h3 h4).congr fun n _ _ => by rw [hQ n]; rfl
    clear hQ H2 H1
    go_wp2_with fail
    refine (HU.out _).mono ?_
    rintro e w2 ⟨g, lb, rfl, hg, hp, hq2⟩
    have HC3 := Lib.hid (Arr.below HC2.out (Arr.lt HC2.out (by decide)) hq2)
    have hb2 := bthen hb1 hq2 hb1.size
    have HG := Lib.hid hg
    have HP := Lib.hid hp
    clear o25 o26 o27 hq2 HC2 hb1 hg hp HU
    go_wp2
    go_ret
    have hbE : Below w2.heap.size w2 (World.alloc w2 (.cells #[.func (.func g) #[] lb] 156)) := by (repeat' (first | (with_reducible exact Below.refl _ _) | (with_reducible assumption) | (with_reducible refine below_drewN ?_ _) | (with_reducible refine Below.alloc ?_ ?_ _) | (with_reducible refine Below.drew ?_) | (with_reducible refine Below.setCell ?_ ?_ _) | go_size))
    refine ⟨_, _, rfl, E2.out, HQ.out _ _ g lb _ ?_ ?_ HG.out (HP.out.later hbE), ?_⟩
    · exact Arr.below HC3.out (Arr.lt HC3.out (by decide)) hbE
    · simp [go_sem]
    · exact bthen hb2 hbE hb2.size
theorem run_ld (cs : Array Value) {d : TypeDesc} (t : TypeId) (b : Nat) (hu : Tryz.prog.underlying t = some d) (hd : d.isRow = true) (hi : (Tryz.prog.info? t).map (·.size) = some cs.size) (W : World) (hA : ∀ j v, cs[j]? = some v → W.cell? ⟨b, j, none⟩ = some v) :
    (Instr.loadAt t (.pointer (some ⟨b, 0, none⟩))).run Tryz.prog W = .ok (.agg cs) W := by
  have := run_loadAt_mid (P := Tryz.prog) W b 0 t cs.toList d (fun j v hj => by rw [Nat.zero_add]; exact hA j v (by simpa using hj)) hu hd (by simpa using hi)
  simpa using this
theorem lies_new (w : World) (cs : Array Value) (t : TypeId) : ∀ j v, cs[j]? = some v → (w.alloc (.cells cs t)).cell? ⟨w.heap.size, j, none⟩ = some v := fun j v hj => cell_new rfl hj
theorem lies_below {w W : World} {b : Nat} {cs : Array Value} (h : ∀ j v, cs[j]? = some v → w.cell? ⟨b, j, none⟩ = some v) (hW : Below w.heap.size w W) : ∀ j v, cs[j]? = some v → W.cell? ⟨b, j, none⟩ = some v := fun j v hj => keepc hW (h j v hj)
def shA (n : Int) : Array Value := #[.int .i64 (shN n (yD n) (mD n) (dD n) 0), .int .i64 (shN n (yD n) (mD n) (dD n) 1), .int .i64 (shN n (yD n) (mD n) (dD n) 2), .int .i64 (shN n (yD n) (mD n) (dD n) 3), .int .i64 (shN n (yD n) (mD n) (dD n) 4), .int .i64 (shN n (yD n) (mD n) (dD n) 5), .int .i64 (shN n (yD n) (mD n) (dD n) 6), .int .i64 (shN n (yD n) (mD n) (dD n) 7), .int .i64 (shN n (yD n) (mD n) (dD n) 8), .int .i64 (shN n (yD n) (mD n) (dD n) 9)]
theorem sh_info (n : Int) : (Tryz.prog.info? 114).map (·.size) = some (shA n).size := by kernel_rfl
set_option maxRecDepth 20000 in
set_option maxHeartbeats 4000000 in
/-- Has a clause a day? -/
theorem cday_any (c : Cl) (hc : BitsC c) (n : Int) (h0 : 0 ≤ n) (h1 : n < 146097) (w : World) : Calls Tryz.prog 68 #[.agg (clA c), shV n] w (Ret (.bool (dayC c n)) w) := by
  have HD := Lib.hid (fun W => cdays_any c hc W)
  have HI := Lib.hid (cl_info c)
  have HJ := Lib.hid (sh_info n)
  have eV : shV n = .agg (shA n) := rfl
  have hPS : ∀ g lb p W, PredSh g lb p W → ∀ V, Below W.heap.size W V → Calls Tryz.prog g (#[.agg (shA n)] ++ lb) V (Ret (.bool (p n)) V) := fun g lb p W h V hV => h V hV n h0 h1
  have HPS := Lib.hid hPS
  rw [eV]
  clear eV hc hPS h0 h1
  generalize clA c = cs at *
  generalize shA n = ss at *
  generalize dayC c = Q at *
  go_enter Tryz.func68, Tryz.ntmps68
  go_wp2_with fail
  have hL1 := lies_below (lies_new w cs 37) ((Below.refl _ _).alloc (Nat.le_refl _) (.cells ss 114))
  have hL2 := lies_new (w.alloc (.cells cs 37)) ss 114
  have hbV : Below w.heap.size w ((w.alloc (.cells cs 37)).alloc (.cells ss 114)) := by (repeat' (first | (with_reducible exact Below.refl _ _) | (with_reducible assumption) | (with_reducible refine below_drewN ?_ _) | (with_reducible refine Below.alloc ?_ ?_ _) | (with_reducible refine Below.drew ?_) | (with_reducible refine Below.setCell ?_ ?_ _) | go_size))
  have e2 : (w.alloc (.cells cs 37)).heap.size = w.heap.size + 1 := by simp
  rw [e2] at hL2
  generalize (w.alloc (.cells cs 37)).alloc (.cells ss 114) = V at *
  have HL1 : Hid (∀ w', Below V.heap.size V w' → w'.rangeAt w.heap.size 0 cs.toList) := fun w' hb j v hj => by rw [Nat.zero_add]; exact lies_below hL1 hb j v (by simpa using hj)
  have HL2 : Hid (∀ w', Below V.heap.size V w' → w'.rangeAt (w.heap.size + 1) 0 ss.toList) := fun w' hb j v hj => by rw [Nat.zero_add]; exact lies_below hL2 hb j v (by simpa using hj)
  have HI' : Hid ((Tryz.prog.info? 37).map (·.size) = some cs.toList.length) := by show _ = _; rw [Array.length_toList]; exact HI.out
  have HJ' : Hid ((Tryz.prog.info? 114).map (·.size) = some ss.toList.length) := by show _ = _; rw [Array.length_toList]; exact HJ.out
  clear hL1 hL2 e2 HI HJ
  refine wp_region_held_drew (S := fun w' => Below V.heap.size V w') (by kernel_rfl) ((Below.refl _ _).drew) (fun hHeld => ?_)
  refine wpAnyH_take (i := 0) (v := .agg cs.toList.toArray) rfl (by kernel_rfl) (by kernel_rfl) (by kernel_rfl) (fun _ _ _ h => h) (yieldsIf_load_mid (by rfl) 37 _ rfl w.heap.size 0 rfl cs.toList _ (fun w' h => HL1.out w' h) Tryz.underlying37 rfl HI'.out) hHeld ?_
  simp only [Act.put, List.setIfInBounds_toArray, List.set_cons_zero, List.set_cons_succ, Array.toArray_toList]
  refine wpAnyH_take (i := 2) (v := .agg ss.toList.toArray) rfl (by kernel_rfl) (by kernel_rfl) (by kernel_rfl) (fun _ _ _ h => h) (yieldsIf_load_mid (by rfl) 114 _ rfl (w.heap.size + 1) 0 rfl ss.toList _ (fun w' h => HL2.out w' h) Tryz.underlying114 rfl HJ'.out) hHeld ?_
  simp only [Act.put, List.setIfInBounds_toArray, List.set_cons_zero, List.set_cons_succ, Array.toArray_toList]
  refine wpAnyH_ready (rs := [1]) (by kernel_rfl) (by simp) (AllReadyH.cons rfl (fun K hK => ?_) AllReadyH.nil)
  go_simp
  go_at_call 101
  refine (HD.out _).mono ?_
  rintro e w3 ⟨g, lb, rfl, hg, hp, hb3⟩
  have hbV3 : Below V.heap.size V w3 := bthen hHeld hb3 hHeld.size
  dsimp only
  refine hK.out _ _ hbV3 (fun hHeld3 => ?_)
  clear hK K
  (try simp only [Act.put, List.setIfInBounds_toArray, List.set_cons_zero, List.set_cons_succ])
  refine wpAnyH_ready (rs := [3]) (by kernel_rfl) (by simp) (AllReadyH.cons rfl (fun K hK => ?_) AllReadyH.nil)
  have hcall := Lib.hid (HPS.out g lb Q w3 hp w3 (Below.refl _ _))
  have HG := Lib.hid hg
  go_simp
  go_at_fn g
  refine hcall.out.mono ?_
  rintro e w4 ⟨rfl, hb4⟩
  dsimp only
  refine hK.out _ _ (bthen hbV3 hb4 hbV3.size) (fun hHeld4 => ?_)
  clear hK K
  (try simp only [Act.put, List.setIfInBounds_toArray, List.set_cons_zero, List.set_cons_succ])
  refine wpAnyH_ready (rs := [4]) (by kernel_rfl) (by simp) (AllReadyH.cons rfl (fun K hK => ?_) AllReadyH.nil)
  go_simp
  refine hK.out _ _ hHeld4 (fun _ => ?_)
  clear hK K
  refine wpAnyH_done (by kernel_rfl) ?_ _
  have hbE : Below w.heap.size w w4 := bthen hbV hHeld4 hbV.size
  simp only [Exit.then]
  go_wp2
  go_ret
  exact ⟨rfl, hbE⟩
end Go.Proofs.YtochhmkdhdadhaaGreat

/- The walk of clause.Has. -/
namespace Go.Proofs.YtochhmkdhdadhaaGreat
open Go.RowKit
set_option linter.unusedSimpArgs false
set_option linter.unusedVariables false

theorem arr_lies {w : World} {b : Nat} {cs : Array Value} (h : Arr w b cs.size (fun j => cs.getD j undef)) : ∀ j v, cs[j]? = some v → w.cell? ⟨b, j, none⟩ = some v := fun j v hj => by
  have hl := (Array.getElem?_eq_some_iff.1 hj).1
  rw [h.1 j hl]
  show some (cs.getD j undef) = _
  rw [Array.getD_eq_getD_getElem?, hj]
  rfl
/-- Has a clause an instant? -/
def hasC (c : Cl) (t : Int) : Bool :=
  inC t && (mayG c fullC && (decide (heldF c.f c.t ≤ t ∧ t ≤ heldU c.f c.t) && (todIn (t % 86400) (c.m 2) (c.m 1) (c.m 0) && (onU c.u c.s c.a t && dayC c (t / 86400)))))
set_option maxRecDepth 20000 in
set_option maxHeartbeats 4000000 in
theorem chas_any (c : Cl) (hc : BitsC c) (t : Int) (w : World) : Calls Tryz.prog 39 #[.agg (clA c), .int .i64 t] w (Ret (.bool (hasC c t)) w) := by
  cases hi : inC t with
  | false =>
    have HS := Lib.hid (fun W => split_bad t hi W)
    have HR : Hid (hasC c t = false) := by show _ = _; unfold hasC; rw [hi]; rfl
    rw [HR.out]
    clear HR hi
    generalize clA c = cs at *
    go_enter Tryz.func39, Tryz.ntmps39
    go_wp2_with fail
    refine (HS.out _).mono ?_
    rintro e w1 ⟨rfl, hb1⟩
    subst hb1
    go_wp2
    go_ret
    exact ⟨rfl, by (repeat' (first | (with_reducible exact Below.refl _ _) | (with_reducible assumption) | (with_reducible refine below_drewN ?_ _) | (with_reducible refine Below.alloc ?_ ?_ _) | (with_reducible refine Below.drew ?_) | (with_reducible refine Below.setCell ?_ ?_ _) | go_size))⟩
  | true =>
    obtain ⟨t0, t1⟩ := in_bd hi
    have HS := Lib.hid (fun W => split_ok t hi W)
    have HM := Lib.hid (fun W => clmay_any c W)
    have HP := Lib.hid (fun W => cspan_any c W)
    have hN : decide (heldF (heldF c.f c.t) (heldU c.f c.t) ≤ t ∧ t ≤ heldU (heldF c.f c.t) (heldU c.f c.t)) = decide (heldF c.f c.t ≤ t ∧ t ≤ heldU c.f c.t) := by
      rw [decide_eq_decide, held_in]
      exact ⟨fun h => ⟨h.1, h.2.1⟩, fun h => ⟨h.1, h.2, t0, by omega⟩⟩
    have HN := Lib.hid (fun W => sin_any (heldF c.f c.t) (heldU c.f c.t) t W)
    rw [hN] at HN
    clear hN
    have HT := Lib.hid (fun W => tin_any (t % 86400) (c.m 2) (c.m 1) (c.m 0) (by omega) (by omega) (hc.1 2 (by decide)) (hc.1 1 (by decide)) (hc.1 0 (by decide)) W)
    have HU := Lib.hid (fun W => uon_any c.u c.s c.a t W)
    have HD := Lib.hid (fun W => cday_any c hc (t / 86400) (by omega) (by omega) W)
    have HSh := Lib.hid (fun W => shape_any (t / 86400) (by omega) (by omega) W)
    have HI := Lib.hid (cl_info c)
    have HJ := Lib.hid (sh_info (t / 86400))
    have HC0 := Lib.hid (gC_new w c 37)
    have HA := Lib.hid (fun w b h => @gC_at c w b h)
    have H0 : Hid (gC c 0 = .int .u64 (c.m 0) ∧ gC c 1 = .int .u64 (c.m 1) ∧ gC c 2 = .int .u64 (c.m 2) ∧ gC c 25 = .int .i64 c.u ∧ gC c 26 = .int .i64 c.s ∧ gC c 27 = .int .i64 c.a) := ⟨rfl, rfl, rfl, rfl, rfl, rfl⟩
    have HR : Hid (hasC c t = (mayG c fullC && (decide (heldF c.f c.t ≤ t ∧ t ≤ heldU c.f c.t) && (todIn (t % 86400) (c.m 2) (c.m 1) (c.m 0) && (onU c.u c.s c.a t && dayC c (t / 86400)))))) := by show _ = _; unfold hasC; rw [hi]; rfl
    rw [HR.out]
    clear HR hi hc
    generalize hD : dayC c (t / 86400) = BD at *
    generalize hO : onU c.u c.s c.a t = BO at *
    generalize hT : todIn (t % 86400) (c.m 2) (c.m 1) (c.m 0) = BT at *
    generalize hN : decide (heldF c.f c.t ≤ t ∧ t ≤ heldU c.f c.t) = BN at *
    generalize mayG c fullC = BM at *
    clear hD hO hT hN
    generalize heldF c.f c.t = F at *
    generalize heldU c.f c.t = U at *
    have eV : shV (t / 86400) = .agg (shA (t / 86400)) := rfl
    rw [eV] at HSh HD
    clear eV
    have HK : Hid ((shA (t / 86400)).all (·.oneCell') = true ∧ (shA (t / 86400)).size = 10) := ⟨by kernel_rfl, rfl⟩
    generalize shA (t / 86400) = ss at *
    generalize gC c = gc at *
    generalize clA c = cs at *
    generalize t / 86400 = dy at *
    generalize t % 86400 = sc at *
    go_enter Tryz.func39, Tryz.ntmps39
    go_wp2_with fail
    refine (HS.out _).mono ?_
    rintro e w1 ⟨rfl, hb1⟩
    subst hb1
    go_wp2_with (refine wp_load_arr (by rfl) 37 _ rfl cs w.heap.size 0 rfl Tryz.underlying37 rfl HI.out (lies0 (HA.out _ _ HC0.out)) ?_)
    refine (HM.out _).mono ?_
    rintro e w1 ⟨rfl, hq1⟩
    have HC1 := Lib.hid (Arr.below HC0.out (Arr.lt HC0.out (by decide)) hq1)
    have hb1 : Below w.heap.size w w1 := ((Below.refl _ w).alloc (Nat.le_refl _) _).trans (hq1.mono (by simp))
    clear HC0 hq1 HM
    cases BM with
    | false => go_wp2; go_ret; exact ⟨rfl, hb1⟩
    | true =>
      go_wp2_with (refine wp_load_arr (by rfl) 37 _ rfl cs w.heap.size 0 rfl Tryz.underlying37 rfl HI.out (lies0 (HA.out _ _ HC1.out)) ?_)
      refine (HP.out _).mono ?_
      rintro e w2 ⟨rfl, hq2⟩
      have HC2 := Lib.hid (Arr.below HC1.out (Arr.lt HC1.out (by decide)) hq2)
      have hb2 := bthen hb1 hq2 hb1.size
      clear hq2 HC1 hb1
      go_wp2_with fail
      refine (HN.out _).mono ?_
      rintro e w3 ⟨rfl, hq3⟩
      have HC3 := Lib.hid (Arr.below HC2.out (Arr.lt HC2.out (by decide)) hq3)
      have hb3 := bthen hb2 hq3 hb2.size
      clear hq3 HC2 hb2
      cases BN with
      | false => go_wp2; go_ret; exact ⟨rfl, hb3⟩
      | true =>
        have c0 : w3.cell? ⟨w.heap.size, 0, none⟩ = some (.int .u64 (c.m 0)) := by rw [← H0.out.1]; exact HC3.out.1 0 (by decide)
        have c1 : w3.cell? ⟨w.heap.size, 1, none⟩ = some (.int .u64 (c.m 1)) := by rw [← H0.out.2.1]; exact HC3.out.1 1 (by decide)
        have c2 : w3.cell? ⟨w.heap.size, 2, none⟩ = some (.int .u64 (c.m 2)) := by rw [← H0.out.2.2.1]; exact HC3.out.1 2 (by decide)
        go_wp2_with fail
        refine (HT.out _).mono ?_
        rintro e w4 ⟨rfl, hq4⟩
        subst hq4
        clear c0 c1 c2
        cases BT with
        | false => go_wp2; go_ret; exact ⟨rfl, hb3⟩
        | true =>
          have c25 : w3.cell? ⟨w.heap.size, 25, none⟩ = some (.int .i64 c.u) := by rw [← H0.out.2.2.2.1]; exact HC3.out.1 25 (by decide)
          have c26 : w3.cell? ⟨w.heap.size, 26, none⟩ = some (.int .i64 c.s) := by rw [← H0.out.2.2.2.2.1]; exact HC3.out.1 26 (by decide)
          have c27 : w3.cell? ⟨w.heap.size, 27, none⟩ = some (.int .i64 c.a) := by rw [← H0.out.2.2.2.2.2]; exact HC3.out.1 27 (by decide)
          go_wp2_with fail
          refine (HU.out _).mono ?_
          rintro e w4 ⟨rfl, hq4⟩
          clear c25 c26 c27
          have HC4 := Lib.hid (Arr.below HC3.out (Arr.lt HC3.out (by decide)) hq4)
          have hb4 := bthen hb3 hq4 hb3.size
          clear hq4 HC3 hb3
          cases BO with
          | false => go_wp2; go_ret; exact ⟨rfl, hb4⟩
          | true =>
            go_wp2_with fail
            refine (HSh.out _).mono ?_
            rintro e w5 ⟨rfl, hq5⟩
            have HC5 := Lib.hid (Arr.below HC4.out (Arr.lt HC4.out (by decide)) hq5)
            have hb5 := bthen hb4 hq5 hb4.size
            clear hq5 HC4 hb4
            go_wp2_with (first
            | (refine wp_store_new (by rfl) 114 _ _ rfl ss _ rfl rfl HJ.out HK.out.1 HK.out.2.symm ?_; intro w6 hq6 HS6 hz6; have HC6 := Lib.hid (Arr.below HC5.out (Arr.lt HC5.out (by decide)) hq6))
            | (refine wp_load_arr (by rfl) 37 _ rfl cs w.heap.size 0 rfl Tryz.underlying37 rfl HI.out (lies0 (HA.out _ _ HC6.out)) ?_)
            | (refine wp_load_arr (by rfl) 114 _ rfl ss w5.heap.size 0 rfl Tryz.underlying114 rfl HJ.out (lies0 (arr_lies HS6)) ?_))
            have hb6 := bthen hb5 hq6 hb5.size
            refine (HD.out _).mono ?_
            rintro e w7 ⟨rfl, hq7⟩
            go_wp2
            go_ret
            exact ⟨rfl, bthen hb6 hq7 hb6.size⟩
end Go.Proofs.YtochhmkdhdadhaaGreat

/- The walks of package ir: May, Has. -/
namespace Go.Proofs.YtochhmkdhdadhaaGreat
open Go.RowKit
set_option linter.unusedSimpArgs false
set_option linter.unusedVariables false

def clEnc (c : Cl) : List Value := (clA c).toList
abbrev RdCls (w : World) (A : Option Addr) (n : Nat) (l : List Cl) : Prop := Rd 30 clEnc w A n l
theorem RdCls.at_ {w : World} {A : Option Addr} {n : Nat} {l : List Cl} (h : RdCls w A n l) {i : Nat} (hi : i < n) :
    ∃ b o c, A = some ⟨b, o, none⟩ ∧ b < w.heap.size ∧ l[i]? = some c ∧ ∀ j v, (clA c)[j]? = some v → w.cell? ⟨b, o + i * 30 + j, none⟩ = some v := by
  obtain ⟨b, o, hA, hb, hc⟩ := h.2 (by omega)
  have hx : l[i]? = some (l[i]'(by have := h.1; omega)) := List.getElem?_eq_getElem _
  exact ⟨b, o, _, hA, hb, hx, fun j v hv => hc i _ hx j v (by unfold clEnc; simpa using hv)⟩
/-- A predicate's contract, at a list's clauses. -/
def PredC (g : Nat) (lb : Array Value) (p : Cl → Bool) (l : List Cl) (w : World) : Prop :=
  ∀ (W : World) (c : Cl), c ∈ l → Below w.heap.size w W → Calls Tryz.prog g (#[.agg (clA c)] ++ lb) W (Ret (.bool (p c)) W)
set_option maxHeartbeats 1000000 in
theorem indexFuncC_any (A : Option Addr) (n c : Nat) (l : List Cl) (g : Nat) (lb : Array Value) (p : Cl → Bool) (w : World) (hA : RdCls w A n l) (hn : n ≤ 9223372036854775807)
    (eg : ∀ args w, (callFunc g args).run Tryz.prog w = .ok (.enter g args) w) (hp : PredC g lb p l w) :
    Calls Tryz.prog 61 #[.slice A n c, .func (.func g) #[] lb] w (Ret (.int .i64 (idxG p l)) w) := by
  have HL : Hid (l.length = n) := hA.1
  go_enter Tryz.func61, Tryz.ntmps61
  go_wp2
  go_loopw [8] (fun i wr => ∃ k : Nat, k ≤ n ∧ i = .int .i64 k ∧ Hid (∀ j x, j < k → l[j]? = some x → p x = false) ∧ Below w.heap.size w wr) (fun i _ => n - (intOf i).toNat)
  case atStart => exact ⟨0, Nat.zero_le _, rfl, fun j _ h => absurd h (Nat.not_lt_zero _), Below.refl _ _⟩
  case round =>
    obtain ⟨k, hk, rfl, H, hb⟩ := hrel
    have hsz := hb.size
    by_cases hlt : k < n
    · obtain ⟨b, o, x, rfl, hbl, hx, hcl⟩ := RdCls.at_ (hA.below hb (Nat.le_refl _)) hlt
      have hlt' : (k : Int) < (n : Int) := by omega
      have Hx := Lib.hid hx
      have hcall := Lib.hid (hp wr x (List.mem_of_getElem? hx) hb)
      have HI := Lib.hid (cl_info x)
      have HCl := Lib.hid hcl
      clear hx hcl hp
      generalize clA x = cs at *
      cases hm : p x with
      | true =>
        have Hm := Lib.hid hm
        rw [hm] at hcall
        clear hm
        go_wp2_with (first | (refine wp_load_arr (by rfl) 37 _ rfl cs b (o + k * 30) rfl Tryz.underlying37 rfl HI.out HCl.out ?_) | (go_at_fn g; refine hcall.out.mono ?_; rintro e w1 ⟨rfl, hb1⟩))
        go_ret
        exact ⟨ret_int (idxG_hit H.out Hx.out Hm.out).symm, bthen hb hb1 hsz⟩
      | false =>
        have Hm := Lib.hid hm
        rw [hm] at hcall
        clear hm
        go_wp2_with (first | (refine wp_load_arr (by rfl) 37 _ rfl cs b (o + k * 30) rfl Tryz.underlying37 rfl HI.out HCl.out ?_) | (go_at_fn g; refine hcall.out.mono ?_; rintro e w1 ⟨rfl, hb1⟩))
        go_roundw
        case rel => exact ⟨k + 1, by omega, by go_num, allG_succ H.out Hx.out Hm.out, bthen hb hb1 hsz⟩
        case measure => simp [intOf]; omega
    · obtain rfl : k = n := by omega
      go_wp2
      go_ret
      exact ⟨ret_int (idxG_miss (HL.out ▸ H.out)).symm, hb⟩
theorem containsFuncC_any (A : Option Addr) (n c : Nat) (l : List Cl) (g : Nat) (lb : Array Value) (p : Cl → Bool) (w : World) (hA : RdCls w A n l) (hn : n ≤ 9223372036854775807)
    (eg : ∀ args w, (callFunc g args).run Tryz.prog w = .ok (.enter g args) w) (hp : PredC g lb p l w) :
    Calls Tryz.prog 37 #[.slice A n c, .func (.func g) #[] lb] w (Ret (.bool (l.any p)) w) := by
  have HC := Lib.hid (indexFuncC_any A n c l g lb p w hA hn eg hp)
  rw [← idxG_any]
  generalize idxG p l = q at HC ⊢
  clear hp hA eg
  go_enter Tryz.func37, Tryz.ntmps37
  go_wp2_with (go_at_call 61; refine HC.out.mono ?_; rintro e w1 ⟨rfl, hb1⟩)
  go_ret
  exact ⟨rfl, hb1⟩
theorem irmay1_any (l : List Cl) (w : World) : PredC 60 #[] (fun c => !mayG c fullC) l w := by
  intro W c _ _
  have HM := Lib.hid (fun W => clmay_any c W)
  have HI := Lib.hid (cl_info c)
  have HL := Lib.hid (lies_new W (clA c) 37)
  show Calls _ _ _ _ (Ret (.bool (!mayG c fullC)) W)
  generalize mayG c fullC = B at *
  generalize clA c = cs at *
  go_enter Tryz.func60, Tryz.ntmps60
  go_wp2_with (refine wp_load_arr (by rfl) 37 _ rfl cs W.heap.size 0 rfl Tryz.underlying37 rfl HI.out (lies0 HL.out) ?_)
  refine (HM.out _).mono ?_
  rintro e w1 ⟨rfl, hb1⟩
  go_wp2
  go_ret
  exact ⟨rfl, ((Below.refl _ W).alloc (Nat.le_refl _) _).trans (hb1.mono (by simp))⟩
/-- Are clauses a set? -/
def setC (l : List Cl) : Bool := decide (l.length ≤ 8) && l.all fun c => mayG c fullC
theorem irmay_any (A : Option Addr) (n c : Nat) (l : List Cl) (w : World) (hA : RdCls w A n l) (hn : n ≤ 9223372036854775807) : Calls Tryz.prog 36 #[.slice A n c] w (Ret (.bool (setC l)) w) := by
  have eg : ∀ args w, (callFunc 60 args).run Tryz.prog w = .ok (.enter 60 args) w := enters_of Tryz.func60 (by kernel_rfl) rfl
  have HC := Lib.hid (fun W (hb : Below w.heap.size w W) => containsFuncC_any A n c l 60 #[] (fun c => !mayG c fullC) W (hA.below hb (Nat.le_refl _)) hn eg (irmay1_any l W))
  have hL : l.length = n := hA.1
  have hS : Hid (setC l = (decide (n ≤ 8) && !(l.any fun c => !mayG c fullC))) := by
    show _ = _
    unfold setC
    rw [hL]
    congr 1
    rw [List.not_any_eq_all_not]
    simp
  rw [hS.out]
  clear hS hA eg hL
  generalize (l.any fun c => !mayG c fullC) = B at *
  by_cases h : n ≤ 8
  · have h' : (n : Int) ≤ 8 := by omega
    rw [decide_eq_true h]
    clear h
    go_enter Tryz.func36, Tryz.ntmps36
    go_wp2_with fail
    refine (HC.out _ (by (repeat' (first | (with_reducible exact Below.refl _ _) | (with_reducible assumption) | (with_reducible refine below_drewN ?_ _) | (with_reducible refine Below.alloc ?_ ?_ _) | (with_reducible refine Below.drew ?_) | (with_reducible refine Below.setCell ?_ ?_ _) | go_size)))).mono ?_
    rintro e w1 ⟨rfl, hb1⟩
    go_wp2
    go_ret
    exact ⟨ret_bool (by simp), hb1⟩
  · have h' : ¬ (n : Int) ≤ 8 := by omega
    rw [decide_eq_false h]
    clear h
    go_enter Tryz.func36, Tryz.ntmps36
    go_wp2
    go_ret
    exact ⟨rfl, by (repeat' (first | (with_reducible exact Below.refl _ _) | (with_reducible assumption) | (with_reducible refine below_drewN ?_ _) | (with_reducible refine Below.alloc ?_ ?_ _) | (with_reducible refine Below.drew ?_) | (with_reducible refine Below.setCell ?_ ?_ _) | go_size))⟩
theorem irhas1_any (l : List Cl) (hl : ∀ c ∈ l, BitsC c) (t : Int) (b : Nat) (w : World) (hb : w.cell? ⟨b, 0, none⟩ = some (.int .i64 t)) : PredC 38 #[.pointer (some ⟨b, 0, none⟩)] (fun c => hasC c t) l w := by
  intro W c hc hW
  have HM := Lib.hid (fun W => chas_any c (hl c hc) t W)
  have HI := Lib.hid (cl_info c)
  have HL := Lib.hid (lies_new W (clA c) 37)
  have hbW := keepc hW hb
  have hlt := World.block_lt_of_cell? _ _ hbW
  show Calls _ _ _ _ (Ret (.bool (hasC c t)) W)
  generalize hasC c t = B at *
  generalize clA c = cs at *
  go_enter Tryz.func38, Tryz.ntmps38
  go_wp2_with (refine wp_load_arr (by rfl) 37 _ rfl cs W.heap.size 0 rfl Tryz.underlying37 rfl HI.out (lies0 HL.out) ?_)
  refine (HM.out _).mono ?_
  rintro e w1 ⟨rfl, hb1⟩
  go_wp2
  go_ret
  exact ⟨rfl, ((Below.refl _ W).alloc (Nat.le_refl _) _).trans (hb1.mono (by simp))⟩
/-- Has a set an instant? -/
def hasL (l : List Cl) (t : Int) : Bool := setC l && l.any fun c => hasC c t
theorem irhas_any (A : Option Addr) (n c : Nat) (l : List Cl) (hl : ∀ c ∈ l, BitsC c) (t : Int) (w : World) (hA : RdCls w A n l) (hn : n ≤ 9223372036854775807) : Calls Tryz.prog 13 #[.slice A n c, .int .i64 t] w (Ret (.bool (hasL l t)) w) := by
  have eg : ∀ args w, (callFunc 38 args).run Tryz.prog w = .ok (.enter 38 args) w := enters_of Tryz.func38 (by kernel_rfl) rfl
  have HC := Lib.hid (fun W b (hb : Below w.heap.size w W) h => containsFuncC_any A n c l 38 #[.pointer (some ⟨b, 0, none⟩)] (fun c => hasC c t) W (hA.below hb (Nat.le_refl _)) hn eg (irhas1_any l hl t b W h))
  have HM := Lib.hid (fun W (hb : Below w.heap.size w W) => irmay_any A n c l W (hA.below hb (Nat.le_refl _)) hn)
  have hS : Hid (hasL l t = (setC l && (l.any fun c => hasC c t))) := rfl
  rw [hS.out]
  clear hS hA eg
  generalize (l.any fun c => hasC c t) = B at *
  cases hs : setC l with
  | false =>
    rw [hs] at HM
    clear hs
    go_enter Tryz.func13, Tryz.ntmps13
    go_wp2_with fail
    refine (HM.out _ (by (repeat' (first | (with_reducible exact Below.refl _ _) | (with_reducible assumption) | (with_reducible refine below_drewN ?_ _) | (with_reducible refine Below.alloc ?_ ?_ _) | (with_reducible refine Below.drew ?_) | (with_reducible refine Below.setCell ?_ ?_ _) | go_size)))).mono ?_
    rintro e w1 ⟨rfl, hb1⟩
    have hb2 : Below w.heap.size w w1 := ((Below.refl _ w).alloc (Nat.le_refl _) _).trans (hb1.mono (by simp))
    go_wp2
    go_ret
    exact ⟨rfl, hb2⟩
  | true =>
    rw [hs] at HM
    clear hs
    go_enter Tryz.func13, Tryz.ntmps13
    go_wp2_with fail
    refine (HM.out _ (by (repeat' (first | (with_reducible exact Below.refl _ _) | (with_reducible assumption) | (with_reducible refine below_drewN ?_ _) | (with_reducible refine Below.alloc ?_ ?_ _) | (with_reducible refine Below.drew ?_) | (with_reducible refine Below.setCell ?_ ?_ _) | go_size)))).mono ?_
    rintro e w1 ⟨rfl, hb1⟩
    have hb2 : Below w.heap.size w w1 := ((Below.refl _ w).alloc (Nat.le_refl _) _).trans (hb1.mono (by simp))
    have hc1 : w1.cell? ⟨w.heap.size, 0, none⟩ = some (.int .i64 t) := keepc hb1 (cell_new rfl rfl)
    clear hb1
    go_wp2_with fail
    refine (HC.out _ _ hb2 hc1).mono ?_
    rintro e w2 ⟨rfl, hb3⟩
    go_wp2
    go_ret
    exact ⟨ret_bool (by simp), bthen hb2 hb3 hb2.size⟩
end Go.Proofs.YtochhmkdhdadhaaGreat

namespace Go.Proofs.YtochhmkdhdadhaaGreat
open Go.RowKit
set_option linter.unusedSimpArgs false
set_option linter.unusedVariables false

theorem quiet_load {o : Oper} {a : Act} {C : World → Prop} {K : Act → Prop} (t : TypeId) (x : Operand) (ho : o.op = .load t x) (cs : Array Value) {d : TypeDesc} (b off : Nat)
    (hx : a.eval x = .pointer (some ⟨b, off, none⟩)) (hu : Tryz.prog.underlying t = some d) (hd : d.isRow = true) (hi : (Tryz.prog.info? t).map (·.size) = some cs.size) (hA : ∀ W, C W → ∀ j v, cs[j]? = some v → W.cell? ⟨b, off + j, none⟩ = some v)
    (h : K (a.put o.dst (.agg cs))) : o.quiet Tryz.prog a C K := by
  refine ⟨.agg cs, fun W hW => ?_, h⟩
  unfold Oper.quietAt execOp
  simp only [ho, hx, Instr.loadAt, Instr.sureAddr, Sem.run_bind, Sem.run_pure, Result.andThen_ok, run_loadVar_mid W b off t cs.toList d (fun j v hj => hA W hW j v (by simpa using hj)) hu hd (by simpa using hi)]
  exact ⟨rfl, by simp⟩
theorem rdCls_ld {w : World} {b : Nat} {K : Cl} (h : RdCls w (some ⟨b, 0, none⟩) 1 [K]) : ∀ j v, (clA K)[j]? = some v → w.cell? ⟨b, 0 + j, none⟩ = some v := by
  obtain ⟨b', o, c, e, _, hx, hc⟩ := RdCls.at_ h (i := 0) (by decide)
  injection e with e; injection e with e1 e2
  subst e1; subst e2
  obtain rfl : K = c := by simpa using hx
  intro j v hj
  have := hc j v hj
  simpa using this
set_option maxRecDepth 20000 in
set_option maxHeartbeats 8000000 in
theorem eql_cl (c : Cl) (w : World) : (binOp .eql 37 (.agg (clA c)) (.agg (clA c))).run Tryz.prog w = .ok (.bool true) w := by
  obtain ⟨i, hi⟩ := info_of_underlying Tryz.underlying31
  have hc : Tryz.prog.cellsOf 31 = 1 := by kernel_rfl
  have hr8 : List.range 8 = [0, 1, 2, 3, 4, 5, 6, 7] := rfl
  have hr7 : List.range 7 = [0, 1, 2, 3, 4, 5, 6] := rfl
  have hA8 : ∀ (d : Nat) (xs ys : Array Value) (w : World), (Op.equalIn (d + 1) 32 (.agg xs) (.agg ys)).run Tryz.prog w = (Op.eqItems d 31 1 xs ys [0, 1, 2, 3, 4, 5, 6, 7]).run Tryz.prog w := fun d xs ys w => by
    rw [run_equalIn_array w d xs ys Tryz.underlying32 hi, hc, hr8]
  have hA7 : ∀ (d : Nat) (xs ys : Array Value) (w : World), (Op.equalIn (d + 1) 35 (.agg xs) (.agg ys)).run Tryz.prog w = (Op.eqItems d 31 1 xs ys [0, 1, 2, 3, 4, 5, 6]).run Tryz.prog w := fun d xs ys w => by
    rw [run_equalIn_array w d xs ys Tryz.underlying35 hi, hc, hr7]
  rw [run_eql_struct]
  unfold clA
  simp [go_sem, hA7, hA8, Op.eqItems]
end Go.Proofs.YtochhmkdhdadhaaGreat
