/- For every rule, its text, or that it may not be, and that of every weekday, is the document's: the law RuleshowShows returns true, and its arguments read as they did. The card ties the library's tables that are read. No condition. -/
import Derived.Test.YtnelecjjbmjhaaaDoorLRu2
import Derived.Test.YtnelecjjbmjhaaaDoorPTab
import Derived.Test.YtnelecjjbmjhaaaDoorOpenRu
import Derived.SizedLaws
namespace Go.Proofs.YtnelecjjbmjhaaaDoor.ruleshowShows
open Go.ChangeShapes Go.WideShapes Go.ChangeAt Go.RowKit
open Go.ChangeMaps (open_string shut_string)
set_option linter.unusedSimpArgs false
set_option linter.unusedVariables false
theorem own : ownKnob Tryd.prog.godebug = none := by kernel_rfl
theorem laidOut : laidOutB Tryd.prog = true := by kernel_rfl

theorem stands (t : TypeId) (ht : t = 36 ∨ t = 38) : Tryd.pinned.checked.prog.wantsStandIn t = false := by
  rcases ht with rfl | rfl
  · exact (show Tryd.prog.wantsStandIn 36 = false by kernel_rfl)
  · exact (show Tryd.prog.wantsStandIn 38 = false by kernel_rfl)
theorem tab_pow {W : World} (h : laidMetH Tryd.prog Rows.ruleshowShowsRow.laid W) : Pow W := pow_of h (by simp [Rows.ruleshowShowsRow])
/-- A world that holds the tables. -/
noncomputable def laidWorld (os : Os) : World :=
  { World.holding Tryd.prog os ⟨#[], #[], []⟩ with heap := (((World.holding Tryd.prog os ⟨#[], #[], []⟩).heap.modify 0 (layIn Rows.laid_internal_strconv_uint64pow10)).modify 5 (layIn Rows.laid_math_bits_deBruijn32tab)).modify 6 (layIn Rows.laid_math_bits_deBruijn64tab) }
theorem rule_cells {A : Nat → Option Addr} {n c : Nat → Nat} {r : RuV} {cs : Array Value} (h : (Value.agg cs).cells.toList = [.int .i64 r.st, .int .i64 r.fr, .int .i64 r.iv, .int .i64 r.ct, .int .i64 r.un, .slice (A 5) (n 5) (c 5), .slice (A 6) (n 6) (c 6), .slice (A 7) (n 7) (c 7), .slice (A 8) (n 8) (c 8), .slice (A 9) (n 9) (c 9), .slice (A 10) (n 10) (c 10)]) :
    Value.agg cs = ruV r A n c := by
  obtain ⟨cs⟩ := cs
  unfold ruV
  congr 1
  simpa [Value.cells] using h

theorem nth_of_cells {p : Int × Int} {cs : Array Value} (h : (Value.agg cs).cells.toList = nthEnc p) : Value.agg cs = .agg #[.int .i64 p.1, .int .i64 p.2] := by
  obtain ⟨cs⟩ := cs
  congr 1
  simpa [Value.cells, nthEnc] using h

set_option maxRecDepth 100000 in
theorem contract (H : Type) (enc : TypeId × Value → H) (W : World) (base : Nat) (args : Array Value) (ds gs : List (DataW H)) (before : List MemPlace)
    (hval0 : ∀ (j : Nat) t v, Tryd.f4.params[j]? = some t → args[j]? = some v → Value.okWide Tryd.prog W .any base t v)
    (hW : DataW.Whole enc Tryd.prog Tryd.f4.params.toList Rows.ruleshowShowsSpec.vars false W args.toList ds gs before) (hL : laidMetH Tryd.prog Rows.ruleshowShowsRow.laid W) (hwt : (DataW.weightsEach Tryd.prog (Tryd.f4.params.toList ++ (OpenSpec.ofChange Rows.ruleshowShowsSpec).bare.plain.varTypes Tryd.prog) (ds ++ gs)).all (· ≤ reachBytes) = true) :
    Calls Tryd.prog 4 args W fun e W' => ∃ v, e = .returned v ∧ Rows.ruleshowShowsSpec.post enc Tryd.prog Tryd.f4 false true false false W args v W' := by
  have hval : ∀ (j : Nat) t v, Tryd.f4.params[j]? = some t → args[j]? = some v → Value.okWide Tryd.prog W .any base t v := hval0
  have hW' := hW
  obtain ⟨p, q, hA0, hV, rfl, hfz, hnd⟩ := hW
  have hA : DataW.TrodAll enc Tryd.prog W 0 (fun _ => true) true Tryd.f4.params.toList args.toList ds p := hA0
  rw [Tryd.params4] at hA hval
  obtain ⟨v0, vs0, d0, ds0, p0, q0, hargs, rfl, rfl, h0, r0⟩ := trodAll_cons hA
  obtain ⟨v1, vs1, d1, ds1, p1, q1, rfl, rfl, rfl, h1, r1⟩ := trodAll_cons r0
  obtain ⟨rfl, rfl, rfl⟩ := trodAll_nil r1
  obtain rfl : args = #[v0, v1] := by cases args; simp_all
  obtain ⟨rfl, rfl⟩ := trodVars_none hV
  have k0 := h0
  have lt0 : ∀ x ∈ p0, x.block < W.heap.size := by obtain ⟨m, hm⟩ := k0; exact DataW.trod_lt m _ _ _ hm
  have k1 := h1
  have lt1 : ∀ x ∈ p1, x.block < W.heap.size := by obtain ⟨m, hm⟩ := k1; exact DataW.trod_lt m _ _ _ hm
  obtain ⟨cs, rfl, _⟩ := okWide_struct Tryd.underlying36 (hval 0 36 v0 rfl rfl)
  obtain ⟨cs1, rfl, _⟩ := okWide_struct Tryd.underlying38 (hval 1 38 v1 rfl rfl)
  obtain ⟨fuel, hf⟩ := h0
  obtain ⟨fuel1, hf1⟩ := h1
  obtain ⟨x, hxs, hx⟩ := open_nth hf1
  obtain ⟨A, n, c, r, hcs, hrd, hnc, hcm, hz, hwf, hwq⟩ := open_rule hf
  have hbd : ∀ k, n k ≤ 140737488355328 := fun k => by
    rcases hwq k with h | ⟨q, hq, hle⟩
    · omega
    · have hm := List.all_eq_true.1 hwt q (DataW.weights_mem_each (j := 0) (t := 36) (by rw [Tryd.params4]; rfl) rfl q hq)
      have hm2 : q ≤ reachBytes := by simpa using hm
      have hm3 := reachBytes_lt
      omega
  clear hA0 hval0
  have walk := ruleshowShows_any r x A n c W hrd hx hbd hz hwf (tab_pow hL)
  rw [← rule_cells hcs, ← nth_of_cells hxs] at walk
  refine walk.mono fun e W' ⟨he, bel⟩ => ?_
  subst he
  exact ⟨_, rfl, _, _, _, [], _, [], hW', trodAll_mk1 (shut_bool Tryd.underlying4 _), (trodAll_cons_mk (Below.trod laidOut (by kernel_rfl) (of_decide_eq_true (by kernel_rfl)) k0 bel lt0) (trodAll_cons_mk (Below.trod laidOut (by kernel_rfl) (of_decide_eq_true (by kernel_rfl)) k1 bel lt1) trodAll_mk0)), rfl, bel.frame _, fun h => by cases h⟩

set_option maxRecDepth 100000 in
theorem laid_met (os : Os) : laidMet Tryd.prog Rows.ruleshowShowsRow.laid ((laidWorld os).forCall (fun _ _ => 0) ⟨#[], #[ruV ⟨0, 0, 0, 0, 0, [], [], [], [], [], []⟩ (fun _ => none) (fun _ => 0) (fun _ => 0), .agg #[.int .i64 0, .int .i64 0]], []⟩).memory :=
  laidMet_of_run' 8 (by kernel_rfl) (by kernel_rfl)
theorem reads (os : Os) {H : Type} (enc : TypeId × Value → H) : ∃ places, DataW.whole enc Tryd.prog ((laidWorld os).forCall (fun _ _ => 0) ⟨#[], #[ruV ⟨0, 0, 0, 0, 0, [], [], [], [], [], []⟩ (fun _ => none) (fun _ => 0) (fun _ => 0), .agg #[.int .i64 0, .int .i64 0]], []⟩).memory Tryd.f4.params.toList Rows.ruleshowShowsSpec.vars false #[ruV ⟨0, 0, 0, 0, 0, [], [], [], [], [], []⟩ (fun _ => none) (fun _ => 0) (fun _ => 0), .agg #[.int .i64 0, .int .i64 0]].toList 8 = some ([DataW.agg [DataW.lit (.int .i64 0), DataW.lit (.int .i64 0), DataW.lit (.int .i64 0), DataW.lit (.int .i64 0), DataW.lit (.int .i64 0), DataW.nil, DataW.nil, DataW.nil, DataW.nil, DataW.nil, DataW.nil], DataW.agg [DataW.lit (.int .i64 0), DataW.lit (.int .i64 0)]], [], places) :=
  ⟨[], by kernel_rfl⟩

set_option maxRecDepth 100000 in
theorem lifted (os : Os) (started : os.Started) (H : Type) (enc : TypeId × Value → H) (F : Stop.Interp) :
    ReturnsInHanded {} Tryd.checked os 4 .any ((OpenSpec.ofChange Rows.ruleshowShowsSpec).preRow enc Tryd.prog Tryd.f4 Rows.ruleshowShowsRow.domain false Rows.ruleshowShowsRow.laid) (((OpenSpec.ofChange Rows.ruleshowShowsSpec).at F).post enc Tryd.prog Tryd.f4 false true false false) := by
  obtain ⟨places, hx⟩ := reads os enc
  refine returnsInHanded_of_row (C := Tryd.checked) (s := OpenSpec.ofChange Rows.ruleshowShowsSpec) own started (by kernel_rfl) Tryd.func4
    (witness_row_at (enc := enc) (C := Tryd.checked) false (laidWorld os) #[ruV ⟨0, 0, 0, 0, 0, [], [], [], [], [], []⟩ (fun _ => none) (fun _ => 0) (fun _ => 0), .agg #[.int .i64 0, .int .i64 0]] rfl (by kernel_rfl) (by kernel_rfl) (by kernel_rfl)
      (OpenSpec.preRow_of_cond 8 hx (by kernel_rfl) (fun k hk => by cases hk) (by kernel_rfl) (laid_met os))) ?_
  intro W base args ds gs before hval hW _ _ hwt hL _ _
  exact contract H enc W base args ds gs before hval hW hL hwt

theorem said : Rows.RuleshowShowsSaid :=
  OpenClaim.holds_of_cond 4 Tryd.f4 rfl rfl rfl rfl rfl rfl rfl ⟨rfl, rfl, rfl, rfl, rfl⟩ rfl rfl rfl rfl rfl (by kernel_rfl) Tryd.func4 (by kernel_rfl)
    (of_decide_eq_true (by kernel_rfl)) (by unfold Func.isWrapper; first | (rw [if_pos (by decide +kernel)]; kernel_rfl) | (rw [if_neg (by decide +kernel)]; exact ⟨rfl, rfl⟩))
    (fun os started H enc _ F => by rw [OpenClaim.pre_eq_preRow]; exact lifted os started H enc F)

/-- No parameter wants a stand-in; the program's own looks are off: what the card asks. -/
theorem plain (f : FuncId) (fn : Func) (hf : Tryd.pinned.checked.prog.funcNamed "feria/ferialaw34.RuleshowShows" = some f) (hfn : Tryd.pinned.checked.prog.funcs[f]? = some fn) :
    false = Tryd.pinned.checked.prog.looks [] ∧ ∀ (j : Nat) t, fn.params[j]? = some t → Tryd.pinned.checked.prog.wantsStandIn t = false := by
  obtain rfl : f = 4 := Option.some.inj ((show Tryd.prog.funcNamed "feria/ferialaw34.RuleshowShows" = some 4 by kernel_rfl).symm.trans hf) |>.symm
  obtain rfl : fn = Tryd.f4 := (Option.some.inj (Tryd.func4.symm.trans hfn)).symm
  refine ⟨by kernel_rfl, fun j t ht => ?_⟩
  rw [Tryd.params4] at ht
  exact stands t (by simpa using Array.mem_of_getElem? ht)
/-- The statement. -/
theorem proved : Rows.RuleshowShowsCardSaid :=
  Claim7.holds_tied_plain_at .later [] _ _ _ _ said (fun _ h => by cases h) (by kernel_rfl) (fun _ h => by cases h) ruleshowShows_row_tie rfl ⟨rfl, rfl⟩ (by kernel_rfl) rfl plain (by kernel_rfl)
#print axioms proved
end Go.Proofs.YtnelecjjbmjhaaaDoor.ruleshowShows
