/- For every rule, a rule with some parts less has a shorter text, or the same where it has none of them: the law RuleshowParts returns true, and the rule reads as it did. The card ties the library's tables that are read. No condition. -/
import Derived.Test.YtnelecjjbmjhaaaDoorLRu
import Derived.Test.YtnelecjjbmjhaaaDoorPTab
import Derived.Test.YtnelecjjbmjhaaaDoorOpenRu
import Derived.SizedLaws
namespace Go.Proofs.YtnelecjjbmjhaaaDoor.ruleshowParts
open Go.ChangeShapes Go.WideShapes Go.ChangeAt Go.RowKit
open Go.ChangeMaps (open_string shut_string)
set_option linter.unusedSimpArgs false
set_option linter.unusedVariables false
theorem own : ownKnob Tryd.prog.godebug = none := by kernel_rfl
theorem laidOut : laidOutB Tryd.prog = true := by kernel_rfl

theorem stands (t : TypeId) (ht : t = 36) : Tryd.pinned.checked.prog.wantsStandIn t = false := by
  subst ht
  exact (show Tryd.prog.wantsStandIn 36 = false by kernel_rfl)
theorem tab_pow {W : World} (h : laidMetH Tryd.prog Rows.ruleshowPartsRow.laid W) : Pow W := pow_of h (by simp [Rows.ruleshowPartsRow])
/-- A world that holds the tables. -/
noncomputable def laidWorld (os : Os) : World :=
  { World.holding Tryd.prog os ⟨#[], #[], []⟩ with heap := (((World.holding Tryd.prog os ⟨#[], #[], []⟩).heap.modify 0 (layIn Rows.laid_internal_strconv_uint64pow10)).modify 5 (layIn Rows.laid_math_bits_deBruijn32tab)).modify 6 (layIn Rows.laid_math_bits_deBruijn64tab) }
theorem rule_cells {A : Nat → Option Addr} {n c : Nat → Nat} {r : RuV} {cs : Array Value} (h : (Value.agg cs).cells.toList = [.int .i64 r.st, .int .i64 r.fr, .int .i64 r.iv, .int .i64 r.ct, .int .i64 r.un, .slice (A 5) (n 5) (c 5), .slice (A 6) (n 6) (c 6), .slice (A 7) (n 7) (c 7), .slice (A 8) (n 8) (c 8), .slice (A 9) (n 9) (c 9), .slice (A 10) (n 10) (c 10)]) :
    Value.agg cs = ruV r A n c := by
  obtain ⟨cs⟩ := cs
  unfold ruV
  congr 1
  simpa [Value.cells] using h

set_option maxRecDepth 100000 in
theorem contract (H : Type) (enc : TypeId × Value → H) (W : World) (base : Nat) (args : Array Value) (ds gs : List (DataW H)) (before : List MemPlace)
    (hval0 : ∀ (j : Nat) t v, Tryd.f5.params[j]? = some t → args[j]? = some v → Value.okWide Tryd.prog W .any base t v)
    (hW : DataW.Whole enc Tryd.prog Tryd.f5.params.toList Rows.ruleshowPartsSpec.vars false W args.toList ds gs before) (hL : laidMetH Tryd.prog Rows.ruleshowPartsRow.laid W) (hwt : (DataW.weightsEach Tryd.prog (Tryd.f5.params.toList ++ (OpenSpec.ofChange Rows.ruleshowPartsSpec).bare.plain.varTypes Tryd.prog) (ds ++ gs)).all (· ≤ reachBytes) = true) :
    Calls Tryd.prog 5 args W fun e W' => ∃ v, e = .returned v ∧ Rows.ruleshowPartsSpec.post enc Tryd.prog Tryd.f5 false true false false W args v W' := by
  have hval : ∀ (j : Nat) t v, Tryd.f5.params[j]? = some t → args[j]? = some v → Value.okWide Tryd.prog W .any base t v := hval0
  have hW' := hW
  obtain ⟨p, q, hA0, hV, rfl, hfz, hnd⟩ := hW
  have hA : DataW.TrodAll enc Tryd.prog W 0 (fun _ => true) true Tryd.f5.params.toList args.toList ds p := hA0
  rw [Tryd.params5] at hA hval
  obtain ⟨v0, vs0, d0, ds0, p0, q0, hargs, rfl, rfl, h0, r0⟩ := trodAll_cons hA
  obtain ⟨rfl, rfl, rfl⟩ := trodAll_nil r0
  obtain rfl : args = #[v0] := by cases args; simp_all
  obtain ⟨rfl, rfl⟩ := trodVars_none hV
  have k0 := h0
  have lt0 : ∀ x ∈ p0, x.block < W.heap.size := by obtain ⟨m, hm⟩ := k0; exact DataW.trod_lt m _ _ _ hm
  obtain ⟨cs, rfl, _⟩ := okWide_struct Tryd.underlying36 (hval 0 36 v0 rfl rfl)
  obtain ⟨fuel, hf⟩ := h0
  obtain ⟨A, n, c, r, hcs, hrd, hnc, hcm, hz, hwf, hwq⟩ := open_rule hf
  have hbd : ∀ k, n k ≤ 140737488355328 := fun k => by
    rcases hwq k with h | ⟨q, hq, hle⟩
    · omega
    · have hm := List.all_eq_true.1 hwt q (DataW.weights_mem_each (j := 0) (t := 36) (by rw [Tryd.params5]; rfl) rfl q hq)
      have hm2 : q ≤ reachBytes := by simpa using hm
      have hm3 := reachBytes_lt
      omega
  clear hA0 hval0
  have walk := ruleshowParts_any r A n c W hrd hbd hz hwf (tab_pow hL)
  rw [← rule_cells hcs] at walk
  refine walk.mono fun e W' ⟨he, bel⟩ => ?_
  subst he
  exact ⟨_, rfl, _, _, _, [], _, [], hW', trodAll_mk1 (shut_bool Tryd.underlying4 _), (trodAll_cons_mk (Below.trod laidOut (by kernel_rfl) (of_decide_eq_true (by kernel_rfl)) k0 bel lt0) trodAll_mk0), rfl, bel.frame _, fun h => by cases h⟩

set_option maxRecDepth 100000 in
theorem laid_met (os : Os) : laidMet Tryd.prog Rows.ruleshowPartsRow.laid ((laidWorld os).forCall (fun _ _ => 0) ⟨#[], #[ruV ⟨0, 0, 0, 0, 0, [], [], [], [], [], []⟩ (fun _ => none) (fun _ => 0) (fun _ => 0)], []⟩).memory :=
  laidMet_of_run' 8 (by kernel_rfl) (by kernel_rfl)
theorem reads (os : Os) {H : Type} (enc : TypeId × Value → H) : ∃ places, DataW.whole enc Tryd.prog ((laidWorld os).forCall (fun _ _ => 0) ⟨#[], #[ruV ⟨0, 0, 0, 0, 0, [], [], [], [], [], []⟩ (fun _ => none) (fun _ => 0) (fun _ => 0)], []⟩).memory Tryd.f5.params.toList Rows.ruleshowPartsSpec.vars false #[ruV ⟨0, 0, 0, 0, 0, [], [], [], [], [], []⟩ (fun _ => none) (fun _ => 0) (fun _ => 0)].toList 8 = some ([DataW.agg [DataW.lit (.int .i64 0), DataW.lit (.int .i64 0), DataW.lit (.int .i64 0), DataW.lit (.int .i64 0), DataW.lit (.int .i64 0), DataW.nil, DataW.nil, DataW.nil, DataW.nil, DataW.nil, DataW.nil]], [], places) :=
  ⟨[], by kernel_rfl⟩

set_option maxRecDepth 100000 in
theorem lifted (os : Os) (started : os.Started) (H : Type) (enc : TypeId × Value → H) (F : Stop.Interp) :
    ReturnsInHanded {} Tryd.checked os 5 .any ((OpenSpec.ofChange Rows.ruleshowPartsSpec).preRow enc Tryd.prog Tryd.f5 Rows.ruleshowPartsRow.domain false Rows.ruleshowPartsRow.laid) (((OpenSpec.ofChange Rows.ruleshowPartsSpec).at F).post enc Tryd.prog Tryd.f5 false true false false) := by
  obtain ⟨places, hx⟩ := reads os enc
  refine returnsInHanded_of_row (C := Tryd.checked) (s := OpenSpec.ofChange Rows.ruleshowPartsSpec) own started (by kernel_rfl) Tryd.func5
    (witness_row_at (enc := enc) (C := Tryd.checked) false (laidWorld os) #[ruV ⟨0, 0, 0, 0, 0, [], [], [], [], [], []⟩ (fun _ => none) (fun _ => 0) (fun _ => 0)] rfl (by kernel_rfl) (by kernel_rfl) (by kernel_rfl)
      (OpenSpec.preRow_of_cond 8 hx (by kernel_rfl) (fun k hk => by cases hk) (by kernel_rfl) (laid_met os))) ?_
  intro W base args ds gs before hval hW _ _ hwt hL _ _
  exact contract H enc W base args ds gs before hval hW hL hwt

theorem said : Rows.RuleshowPartsSaid :=
  OpenClaim.holds_of_cond 5 Tryd.f5 rfl rfl rfl rfl rfl rfl rfl ⟨rfl, rfl, rfl, rfl, rfl⟩ rfl rfl rfl rfl rfl (by kernel_rfl) Tryd.func5 (by kernel_rfl)
    (of_decide_eq_true (by kernel_rfl)) (by unfold Func.isWrapper; first | (rw [if_pos (by decide +kernel)]; kernel_rfl) | (rw [if_neg (by decide +kernel)]; exact ⟨rfl, rfl⟩))
    (fun os started H enc _ F => by rw [OpenClaim.pre_eq_preRow]; exact lifted os started H enc F)

/-- No parameter wants a stand-in; the program's own looks are off: what the card asks. -/
theorem plain (f : FuncId) (fn : Func) (hf : Tryd.pinned.checked.prog.funcNamed "feria/ferialaw34.RuleshowParts" = some f) (hfn : Tryd.pinned.checked.prog.funcs[f]? = some fn) :
    false = Tryd.pinned.checked.prog.looks [] ∧ ∀ (j : Nat) t, fn.params[j]? = some t → Tryd.pinned.checked.prog.wantsStandIn t = false := by
  obtain rfl : f = 5 := Option.some.inj ((show Tryd.prog.funcNamed "feria/ferialaw34.RuleshowParts" = some 5 by kernel_rfl).symm.trans hf) |>.symm
  obtain rfl : fn = Tryd.f5 := (Option.some.inj (Tryd.func5.symm.trans hfn)).symm
  refine ⟨by kernel_rfl, fun j t ht => ?_⟩
  rw [Tryd.params5] at ht
  exact stands t (by simpa using Array.mem_of_getElem? ht)
/-- The statement. -/
theorem proved : Rows.RuleshowPartsCardSaid :=
  Claim7.holds_tied_plain_at .later [] _ _ _ _ said (fun _ h => by cases h) (by kernel_rfl) (fun _ h => by cases h) ruleshowParts_row_tie rfl ⟨rfl, rfl⟩ (by kernel_rfl) rfl plain (by kernel_rfl)
#print axioms proved
end Go.Proofs.YtnelecjjbmjhaaaDoor.ruleshowParts
