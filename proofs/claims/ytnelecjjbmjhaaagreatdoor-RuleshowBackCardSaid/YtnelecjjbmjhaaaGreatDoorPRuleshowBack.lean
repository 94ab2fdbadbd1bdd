/- For every rule and every text, what is shown is read back as the same rule, and what is read is shown and read as the same: the law RuleshowBack returns true, and its arguments read as they did. The card ties the library's tables that are read. No condition. -/
import Derived.Test.YtnelecjjbmjhaaaGreatDoorLRbE
import Derived.Test.YtnelecjjbmjhaaaGreatDoorLRbL
import Derived.Test.YtnelecjjbmjhaaaGreatDoorLRbS
import Derived.Test.YtnelecjjbmjhaaaGreatDoorOpenRu
import Derived.SizedLaws
import Derived.ShutString
import Derived.OpenShut
/- The walk of the law RuleshowBack. -/
namespace Go.Proofs.YtnelecjjbmjhaaaGreatDoor
open Go.RowKit
set_option linter.unusedSimpArgs false
set_option linter.unusedVariables false

set_option maxRecDepth 20000 in
set_option maxHeartbeats 4000000 in
theorem ruleshowBack_any (r : RuV) (s : ByteArray) (A : Nat → Option Addr) (n c : Nat → Nat) (w : World) (hA : RdRu w A n r) (hn : ∀ k, n k ≤ 140737488355328) (hout : ∀ k, (k < 5 ∨ 10 < k) → n k = 0) (hwf : RuWf r) (hw : Pow w) (hs : s.size ≤ 9223372036854775807) :
    Calls Tryz.prog 3 #[ruV r A n c, .string s] w (Ret (.bool true) w) := by
  cases hg : rgreat n with
  | true =>
    have HV := Lib.hid (fun W (hb : Below w.heap.size w W) => lives34_any W (tab_below hw hb))
    have HG := Lib.hid (fun W => rgreat_any r A n c W hn)
    rw [hg] at HG
    clear hA hn hwf hw hg hout
    unfold ruV at *
    go_enter Tryz.func3, Tryz.ntmps3
    go_wp2_with fail
    refine (HG.out _).mono ?_
    rintro e w1 ⟨rfl, hb1⟩
    have hb2 : Below w.heap.size w w1 := ((Below.refl _ w).alloc (Nat.le_refl _) _).trans (hb1.mono (by simp))
    go_wp2_with fail
    refine (HV.out _ hb2).mono ?_
    rintro e w2 ⟨rfl, hb3⟩
    go_wp2
    go_ret
    exact ⟨rfl, bthen hb2 hb3 hb2.size⟩
  | false =>
    by_cases hbig : 9000 < s.size
    · have HV := Lib.hid (fun W (hb : Below w.heap.size w W) => lives34_any W (tab_below hw hb))
      have HG := Lib.hid (fun W => rgreat_any r A n c W hn)
      rw [hg] at HG
      have hbig' : (9000 : Int) < (s.size : Int) := by omega
      clear hA hn hwf hw hg hout hbig
      unfold ruV at *
      go_enter Tryz.func3, Tryz.ntmps3
      go_wp2_with fail
      refine (HG.out _).mono ?_
      rintro e w1 ⟨rfl, hb1⟩
      have hb2 : Below w.heap.size w w1 := ((Below.refl _ w).alloc (Nat.le_refl _) _).trans (hb1.mono (by simp))
      go_wp2_with fail
      refine (HV.out _ hb2).mono ?_
      rintro e w2 ⟨rfl, hb3⟩
      go_wp2
      go_ret
      exact ⟨rfl, bthen hb2 hb3 hb2.size⟩
    · have hn2 : ∀ k, n k ≤ 1000 := fun k => by
        by_cases h : k < 5 ∨ 10 < k
        · rw [hout k h]; omega
        · have := rgreat_le hg k (by omega) (by omega); omega
      cases hk : rread s.data.toList with
      | error p => exact rback_err r s A n c w hA hn2 hout hwf hw hg hn (by omega) (a := p.1) (e := p.2) hk
      | ok y =>
        by_cases hy8 : (ruT y).length ≤ 8192
        · exact rback_ok1 r s A n c w hA hn2 hout hwf hw hg hn (by omega) hk hy8
        · exact rback_ok2 r s A n c w hA hn2 hout hwf hw hg hn (by omega) hk hy8
end Go.Proofs.YtnelecjjbmjhaaaGreatDoor

namespace Go.Proofs.YtnelecjjbmjhaaaGreatDoor.ruleshowBack
open Go.ChangeShapes Go.WideShapes Go.ChangeAt Go.RowKit
open Go.ChangeMaps (open_string shut_string)
set_option linter.unusedSimpArgs false
set_option linter.unusedVariables false
theorem own : ownKnob Tryz.prog.godebug = none := by kernel_rfl
theorem laidOut : laidOutB Tryz.prog = true := by kernel_rfl

theorem stands (t : TypeId) (ht : t = 25 ∨ t = 9) : Tryz.pinned.checked.prog.wantsStandIn t = false := by
  rcases ht with rfl | rfl
  · exact (show Tryz.prog.wantsStandIn 25 = false by kernel_rfl)
  · exact (show Tryz.prog.wantsStandIn 9 = false by kernel_rfl)
theorem tab_pow {W : World} (h : laidMetH Tryz.prog Rows.ruleshowBackRow.laid W) : Pow W := pow_of h (by simp [Rows.ruleshowBackRow])
/-- A world that holds the tables. -/
noncomputable def laidWorld (os : Os) : World :=
  { World.holding Tryz.prog os ⟨#[], #[], []⟩ with heap := (((World.holding Tryz.prog os ⟨#[], #[], []⟩).heap.modify 0 (layIn Rows.laid_internal_strconv_uint64pow10)).modify 2 (layIn Rows.laid_math_bits_deBruijn32tab)).modify 3 (layIn Rows.laid_math_bits_deBruijn64tab) }
theorem rule_cells {A : Nat → Option Addr} {n c : Nat → Nat} {r : RuV} {cs : Array Value} (h : (Value.agg cs).cells.toList = [.int .i64 r.st, .int .i64 r.fr, .int .i64 r.iv, .int .i64 r.ct, .int .i64 r.un, .slice (A 5) (n 5) (c 5), .slice (A 6) (n 6) (c 6), .slice (A 7) (n 7) (c 7), .slice (A 8) (n 8) (c 8), .slice (A 9) (n 9) (c 9), .slice (A 10) (n 10) (c 10)]) :
    Value.agg cs = ruV r A n c := by
  obtain ⟨cs⟩ := cs
  unfold ruV
  congr 1
  simpa [Value.cells] using h

set_option maxRecDepth 100000 in
theorem contract (H : Type) (enc : TypeId × Value → H) (W : World) (base : Nat) (args : Array Value) (ds gs : List (DataW H)) (before : List MemPlace)
    (hval0 : ∀ (j : Nat) t v, Tryz.f3.params[j]? = some t → args[j]? = some v → Value.okWide Tryz.prog W .any base t v)
    (hW : DataW.Whole enc Tryz.prog Tryz.f3.params.toList Rows.ruleshowBackSpec.vars false W args.toList ds gs before) (hL : laidMetH Tryz.prog Rows.ruleshowBackRow.laid W) (hwt : (DataW.weightsEach Tryz.prog (Tryz.f3.params.toList ++ (OpenSpec.ofChange Rows.ruleshowBackSpec).bare.plain.varTypes Tryz.prog) (ds ++ gs)).all (· ≤ reachBytes) = true) :
    Calls Tryz.prog 3 args W fun e W' => ∃ v, e = .returned v ∧ Rows.ruleshowBackSpec.post enc Tryz.prog Tryz.f3 false true false false W args v W' := by
  have hval : ∀ (j : Nat) t v, Tryz.f3.params[j]? = some t → args[j]? = some v → Value.okWide Tryz.prog W .any base t v := hval0
  have hW' := hW
  obtain ⟨p, q, hA0, hV, rfl, hfz, hnd⟩ := hW
  have hA : DataW.TrodAll enc Tryz.prog W 0 (fun _ => true) true Tryz.f3.params.toList args.toList ds p := hA0
  rw [Tryz.params3] at hA hval
  obtain ⟨v0, vs0, d0, ds0, p0, q0, hargs, rfl, rfl, h0, r0⟩ := trodAll_cons hA
  obtain ⟨v1, vs1, d1, ds1, p1, q1, rfl, rfl, rfl, h1, r1⟩ := trodAll_cons r0
  obtain ⟨rfl, rfl, rfl⟩ := trodAll_nil r1
  obtain rfl : args = #[v0, v1] := by cases args; simp_all
  obtain ⟨rfl, rfl⟩ := trodVars_none hV
  have k0 := h0
  have lt0 : ∀ x ∈ p0, x.block < W.heap.size := by obtain ⟨m, hm⟩ := k0; exact DataW.trod_lt m _ _ _ hm
  obtain ⟨s, rfl, rfl, rfl, ws⟩ := open_string Tryz.underlying9 (hval 1 9 v1 rfl rfl) h1
  obtain ⟨cs, rfl, _⟩ := okWide_struct Tryz.underlying25 (hval 0 25 v0 rfl rfl)
  obtain ⟨fuel, hf⟩ := h0
  obtain ⟨A, n, c, r, hcs, hrd, hnc, hcm, hz, hwf, hwq⟩ := open_rule hf
  have hbd : ∀ k, n k ≤ 140737488355328 := fun k => by
    rcases hwq k with h | ⟨q, hq, hle⟩
    · omega
    · have hm := List.all_eq_true.1 hwt q (DataW.weights_mem_each (j := 0) (t := 25) (by rw [Tryz.params3]; rfl) rfl q hq)
      have hm2 : q ≤ reachBytes := by simpa using hm
      have hm3 := reachBytes_lt
      omega
  clear hA0 hval0
  have walk := ruleshowBack_any r s A n c W hrd hbd hz hwf (tab_pow hL) (by simp only [maxLen] at ws; omega)
  rw [← rule_cells hcs] at walk
  refine walk.mono fun e W' ⟨he, bel⟩ => ?_
  subst he
  exact ⟨_, rfl, _, _, _, [], _, [], hW', trodAll_mk1 (shut_bool Tryz.underlying4 _), (trodAll_cons_mk (Below.trod laidOut (by kernel_rfl) (of_decide_eq_true (by kernel_rfl)) k0 bel lt0) (trodAll_cons_mk (shut_string Tryz.underlying9 ws) trodAll_mk0)), rfl, bel.frame _, fun h => by cases h⟩

set_option maxRecDepth 100000 in
theorem laid_met (os : Os) : laidMet Tryz.prog Rows.ruleshowBackRow.laid ((laidWorld os).forCall (fun _ _ => 0) ⟨#[], #[ruV ⟨0, 0, 0, 0, 0, [], [], [], [], [], []⟩ (fun _ => none) (fun _ => 0) (fun _ => 0), Value.string ⟨#[]⟩], []⟩).memory :=
  laidMet_of_run' 8 (by kernel_rfl) (by kernel_rfl)
theorem reads (os : Os) {H : Type} (enc : TypeId × Value → H) : ∃ places, DataW.whole enc Tryz.prog ((laidWorld os).forCall (fun _ _ => 0) ⟨#[], #[ruV ⟨0, 0, 0, 0, 0, [], [], [], [], [], []⟩ (fun _ => none) (fun _ => 0) (fun _ => 0), Value.string ⟨#[]⟩], []⟩).memory Tryz.f3.params.toList Rows.ruleshowBackSpec.vars false #[ruV ⟨0, 0, 0, 0, 0, [], [], [], [], [], []⟩ (fun _ => none) (fun _ => 0) (fun _ => 0), Value.string ⟨#[]⟩].toList 8 = some ([DataW.agg [DataW.lit (.int .i64 0), DataW.lit (.int .i64 0), DataW.lit (.int .i64 0), DataW.lit (.int .i64 0), DataW.lit (.int .i64 0), DataW.nil, DataW.nil, DataW.nil, DataW.nil, DataW.nil, DataW.nil], DataW.lit (.string [])], [], places) :=
  ⟨[], by kernel_rfl⟩

set_option maxRecDepth 100000 in
theorem lifted (os : Os) (started : os.Started) (H : Type) (enc : TypeId × Value → H) (F : Stop.Interp) :
    ReturnsInHanded {} Tryz.checked os 3 .any ((OpenSpec.ofChange Rows.ruleshowBackSpec).preRow enc Tryz.prog Tryz.f3 Rows.ruleshowBackRow.domain false Rows.ruleshowBackRow.laid) (((OpenSpec.ofChange Rows.ruleshowBackSpec).at F).post enc Tryz.prog Tryz.f3 false true false false) := by
  obtain ⟨places, hx⟩ := reads os enc
  refine returnsInHanded_of_row (C := Tryz.checked) (s := OpenSpec.ofChange Rows.ruleshowBackSpec) own started (by kernel_rfl) Tryz.func3
    (witness_row_at (enc := enc) (C := Tryz.checked) false (laidWorld os) #[ruV ⟨0, 0, 0, 0, 0, [], [], [], [], [], []⟩ (fun _ => none) (fun _ => 0) (fun _ => 0), Value.string ⟨#[]⟩] rfl (by kernel_rfl) (by kernel_rfl) (by kernel_rfl)
      (OpenSpec.preRow_of_cond 8 hx (by kernel_rfl) (fun k hk => by cases hk) (by kernel_rfl) (laid_met os))) ?_
  intro W base args ds gs before hval hW _ _ hwt hL _ _
  exact contract H enc W base args ds gs before hval hW hL hwt

theorem said : Rows.RuleshowBackSaid :=
  OpenClaim.holds_of_cond 3 Tryz.f3 rfl rfl rfl rfl rfl rfl rfl ⟨rfl, rfl, rfl, rfl, rfl⟩ rfl rfl rfl rfl rfl (by kernel_rfl) Tryz.func3 (by kernel_rfl)
    (of_decide_eq_true (by kernel_rfl)) (by unfold Func.isWrapper; first | (rw [if_pos (by decide +kernel)]; kernel_rfl) | (rw [if_neg (by decide +kernel)]; exact ⟨rfl, rfl⟩))
    (fun os started H enc _ F => by rw [OpenClaim.pre_eq_preRow]; exact lifted os started H enc F)

/-- No parameter wants a stand-in; the program's own looks are off: what the card asks. -/
theorem plain (f : FuncId) (fn : Func) (hf : Tryz.pinned.checked.prog.funcNamed "feria/ferialaw34.RuleshowBack" = some f) (hfn : Tryz.pinned.checked.prog.funcs[f]? = some fn) :
    false = Tryz.pinned.checked.prog.looks [] ∧ ∀ (j : Nat) t, fn.params[j]? = some t → Tryz.pinned.checked.prog.wantsStandIn t = false := by
  obtain rfl : f = 3 := Option.some.inj ((show Tryz.prog.funcNamed "feria/ferialaw34.RuleshowBack" = some 3 by kernel_rfl).symm.trans hf) |>.symm
  obtain rfl : fn = Tryz.f3 := (Option.some.inj (Tryz.func3.symm.trans hfn)).symm
  refine ⟨by kernel_rfl, fun j t ht => ?_⟩
  rw [Tryz.params3] at ht
  exact stands t (by simpa using Array.mem_of_getElem? ht)
/-- The statement. -/
theorem proved : Rows.RuleshowBackCardSaid :=
  Claim7.holds_tied_plain_at .later [] _ _ _ _ said (fun _ h => by cases h) (by kernel_rfl) (fun _ h => by cases h) ruleshowBack_row_tie rfl ⟨rfl, rfl⟩ (by kernel_rfl) rfl plain (by kernel_rfl)
#print axioms proved
end Go.Proofs.YtnelecjjbmjhaaaGreatDoor.ruleshowBack
