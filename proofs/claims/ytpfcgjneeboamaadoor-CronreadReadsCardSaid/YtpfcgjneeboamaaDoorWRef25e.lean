/- The walks of package feriaref25: item. -/
import Derived.Test.YtpfcgjneeboamaaDoorWRef25d
namespace Go.Proofs.YtpfcgjneeboamaaDoor
open Go.RowKit
set_option linter.unusedSimpArgs false
set_option linter.unusedVariables false

section
variable (s : ByteArray) (hs : s.size ≤ 1000000) (σ : PS) (hσ : OfR s σ) (w : World)
include hs hσ
theorem rnumber_any (f : Nat) (hf : f < 5) : Calls Tryd.prog 47 #[rvP s σ, .int .i64 (f : Int)] w (Ret (tupR s (rNumR s.size f σ).1 (.int .i64 (rNumR s.size f σ).2)) w) := by
  by_cases hc : cNames f ≠ [] ∧ doneP σ = false ∧ headB letterP σ.l = true
  · exact rnumber_name s hs σ hσ w f hf hc
  · exact rnumber_plain s hs σ hσ w f hf hc
omit hs hσ in
theorem ofR_rnum (hσ : OfR s σ) (N f : Nat) : OfR s (rNumR N f σ).1 := by
  unfold rNumR
  split
  · split
    · exact ofR_fail hσ _ _
    · exact ofR_some hσ _
  · split
    · exact ofR_fail hσ _ _
    · exact ofR_num hσ _ _
omit hs hσ in
theorem ofR_rstep (hσ : OfR s σ) (N : Nat) : OfR s (rStepR N σ).1 := by
  unfold rStepR
  split
  · exact ofR_fail hσ _ _
  · exact ofR_num hσ _ _
omit hs hσ in
theorem rdBytes_one' (w : World) (b : Nat) (x : UInt8) (h : w.cell? ⟨b, 0, none⟩ = some (.int .u8 (x.toNat : Int))) : RdBytes w (some ⟨b, 0, none⟩) 1 [x] :=
  ⟨rfl, fun _ => ⟨b, 0, rfl, World.block_lt_of_cell? _ _ h, fun i y hy j v hj => by
    rcases i with _ | i
    · obtain rfl : x = y := by simpa using hy
      rcases j with _ | j
      · simp [byteEnc] at hj; subst hj
        exact h
      · simp [byteEnc] at hj
    · simp at hy⟩⟩
omit hs hσ in
theorem results_cell_cc {fn : Func} {p t : Tmp} {ty ty' : TypeId} (h : fn.results = #[.cell p ty, .cell t ty']) (tmps : Array Value) (P : Program) (w : World) :
    (results fn tmps).run P w = ((asAddr (tmps.getD p undef)).run P w).andThen fun a w₁ => ((loadVar ty a).run P w₁).andThen fun v w₂ => ((asAddr (tmps.getD t undef)).run P w₂).andThen fun b w₃ => ((loadVar ty' b).run P w₃).andThen fun u w₄ => .ok (.tuple #[v, u]) w₄ := by
  simp only [results, h]
  simp [Sem.run_bind, Result.andThen]
omit hs hσ in
theorem ri_base (k a e : Int) (x : Int) (ty ty2 ty3 ty4 : TypeId) {W0 : World} (hW : ((((w.alloc (.cells #[.string s, .int .i64 k, .int .i64 a, .int .i64 e] ty)).alloc (.cells #[.string ⟨#[]⟩, .int .i64 0, .int .i64 0, .int .i64 0] ty2)).alloc (.cells #[.int .i64 0, .int .i64 0, .int .i64 0, .int .i64 0] ty3)).alloc (.cells #[.int .u8 x] ty4)) = W0) :
    Below w.heap.size w W0 ∧ RvAt W0 w.heap.size s k a e ∧ RvAt W0 (w.heap.size + 1) ⟨#[]⟩ 0 0 0 ∧ ItAt W0 (w.heap.size + 1 + 1) ⟨0, 0, 0, 0⟩ ∧ W0.cell? ⟨w.heap.size + 1 + 1 + 1, 0, none⟩ = some (.int .u8 x) ∧ w.heap.size + 1 + 1 + 1 < W0.heap.size := by
  subst hW
  have h2 := rv_new2 w s k a e ty ty2
  generalize hV : (w.alloc (.cells #[.string s, .int .i64 k, .int .i64 a, .int .i64 e] ty)).alloc (.cells #[.string ⟨#[]⟩, .int .i64 0, .int .i64 0, .int .i64 0] ty2) = V at *
  have hz : V.heap.size = w.heap.size + 1 + 1 := by rw [← hV]; simp
  have hb : Below w.heap.size w V := by rw [← hV]; exact ((Below.refl _ _).alloc (Nat.le_refl _) _).alloc (by simp) _
  have hI := itAt_new V 0 0 0 0 ty3
  rw [hz] at hI
  have hb2 : Below V.heap.size V ((V.alloc (.cells #[.int .i64 0, .int .i64 0, .int .i64 0, .int .i64 0] ty3)).alloc (.cells #[.int .u8 x] ty4)) := ((Below.refl _ _).alloc (Nat.le_refl _) _).alloc (by simp) _
  refine ⟨bthen hb hb2 hb.size, Arr.below h2.1 (Arr.lt h2.1 (by decide)) hb2, Arr.below h2.2 (Arr.lt h2.2 (by decide)) hb2, ItAt.alloc hI _, ?_, by simp [hz]⟩
  rw [← hz]
  simp [go_sem]
omit hs hσ in
theorem ri_two (W : World) (k a e : Int) (i : It) (x : Int) (ty ty2 ty3 : TypeId) {W2 : World} (hW : ((W.alloc (.cells #[.string s, .int .i64 k, .int .i64 a, .int .i64 e] ty)).alloc (.cells #[.int .i64 i.k, .int .i64 i.f, .int .i64 i.t, .int .i64 i.s] ty2)).alloc (.cells #[.int .u8 x] ty3) = W2) :
    Below W.heap.size W W2 ∧ RvAt W2 W.heap.size s k a e ∧ ItAt W2 (W.heap.size + 1) i ∧ W2.cell? ⟨W.heap.size + 1 + 1, 0, none⟩ = some (.int .u8 x) ∧ W.heap.size + 1 + 1 < W2.heap.size := by
  subst hW
  have h1 := rvAt_new W s k a e ty
  have hI := itAt_new (W.alloc (.cells #[.string s, .int .i64 k, .int .i64 a, .int .i64 e] ty)) i.k i.f i.t i.s ty2
  refine ⟨(((Below.refl _ _).alloc (Nat.le_refl _) _).alloc (by simp) _).alloc (by simp; omega) _, ?_, ?_, ?_, by simp⟩
  · exact Arr.alloc (Arr.alloc h1 (Arr.lt h1 (by decide)) _) (Arr.lt (Arr.alloc h1 (Arr.lt h1 (by decide)) _) (by decide)) _
  · have := ItAt.alloc hI (.cells #[.int .u8 x] ty3)
    simpa using this
  · have := cell_new (w := (W.alloc (.cells #[.string s, .int .i64 k, .int .i64 a, .int .i64 e] ty)).alloc (.cells #[.int .i64 i.k, .int .i64 i.f, .int .i64 i.t, .int .i64 i.s] ty2)) (C := #[.int .u8 x]) (t := ty3) (o := 0) (v := .int .u8 x) rfl rfl
    simpa using this
omit hs hσ in
theorem ri_fold {W W' : World} {x : Nat} {S : ByteArray} {k0 a0 e0 j a e v : Int} {i0 : It} (HX : RvAt W x S k0 a0 e0) (HT : ItAt W (x + 1) i0)
    (hW : (((((W.setCell ⟨x, 0, none⟩ (.string s)).setCell ⟨x, 1, none⟩ (.int .i64 j)).setCell ⟨x, 2, none⟩ (.int .i64 a)).setCell ⟨x, 3, none⟩ (.int .i64 e)).setCell ⟨x + 1, 3, none⟩ (.int .i64 v)) = W') :
    RvAt W' x s j a e ∧ ItAt W' (x + 1) ⟨i0.k, i0.f, i0.t, v⟩ ∧ W'.heap.size = W.heap.size ∧ (∀ {b m g}, b ≠ x → b ≠ x + 1 → Arr W b m g → Arr W' b m g) ∧ ∀ B w, Below B w W → B ≤ x → Below B w W' := by
  subst hW
  refine ⟨?_, ?_, by simp, fun h1 h2 h => ?_, fun B w h hB => ?_⟩
  · refine Arr.other ?_ (by omega)
    have e1 := Arr.set (g' := fun q => if q = 0 then .string s else rvG S k0 a0 e0 q) HX 0 (by decide) (.string s) rfl (fun q _ h => if_neg h)
    have e2 := Arr.set (g' := fun q => if q = 0 then .string s else if q = 1 then .int .i64 j else rvG S k0 a0 e0 q) e1 1 (by decide) (.int .i64 j) rfl (fun q _ h => by simp only [if_neg h])
    have e3 := Arr.set (g' := fun q => if q = 0 then .string s else if q = 1 then .int .i64 j else if q = 2 then .int .i64 a else rvG S k0 a0 e0 q) e2 2 (by decide) (.int .i64 a) rfl (fun q _ h => by simp only [if_neg h])
    refine Arr.set (g' := rvG s j a e) e3 3 (by decide) (.int .i64 e) rfl (fun q hq h => ?_)
    obtain rfl | rfl | rfl | rfl : q = 0 ∨ q = 1 ∨ q = 2 ∨ q = 3 := by omega
    all_goals first | rfl | exact absurd rfl h
  · have h := Arr.other (b' := x) (i := 3) (v := .int .i64 e) (Arr.other (b' := x) (i := 2) (v := .int .i64 a) (Arr.other (b' := x) (i := 1) (v := .int .i64 j) (Arr.other (b' := x) (i := 0) (v := .string s) HT (by omega)) (by omega)) (by omega)) (by omega)
    refine Arr.set h 3 (by decide) (.int .i64 v) rfl (fun q hq hn => ?_)
    obtain rfl | rfl | rfl | rfl : q = 0 ∨ q = 1 ∨ q = 2 ∨ q = 3 := by omega
    all_goals first | rfl | exact absurd rfl hn
  · exact (((((h.other h1.symm).other h1.symm).other h1.symm).other h1.symm).other h2.symm)
  · exact ((((h.setCell hB _).setCell hB _).setCell hB _).setCell hB _).setCell (Nat.le_succ_of_le hB) _
set_option maxHeartbeats 4000000 in
theorem ritem_star_by (f : Nat) (hf : f < 5) (hst : (isP [42] σ).2 = true) (hsl : (isP [47] (isP [42] σ).1).2 = true) : Calls Tryd.prog 35 #[rvP s σ, .int .i64 (f : Int)] w (Ret (tupR s (rItemR s.size f σ).1 (itV (rItemR s.size f σ).2)) w) := by
  have HI0 := Lib.hid (fun W b (h : W.cell? ⟨b, 0, none⟩ = some (.int .u8 ((42 : UInt8).toNat : Int))) => is_rf s hs σ hσ W _ 1 1 42 (rdBytes_one' W b 42 h))
  have hS := ofR_is hσ [42]
  have HI1 := Lib.hid (fun W b (h : W.cell? ⟨b, 0, none⟩ = some (.int .u8 ((47 : UInt8).toNat : Int))) => is_rf s hs (isP [42] σ).1 hS W _ 1 1 47 (rdBytes_one' W b 47 h))
  have hB := ofR_is hS [47]
  have HSt := Lib.hid (fun W => rstep_any s hs (isP [47] (isP [42] σ).1).1 hB W)
  obtain ⟨k, hk, hl, ha⟩ := hσ.at_
  unfold rItemR
  rw [if_pos hst]
  rw [hst] at HI0
  generalize (isP [42] σ).1 = S at *
  unfold rByR
  rw [if_pos hsl]
  rw [hsl] at HI1
  dsimp only
  generalize (isP [47] S).1 = B at *
  obtain ⟨⟨C, n⟩, hC⟩ : ∃ q, q = rStepR s.size B := ⟨_, rfl⟩
  rw [← hC] at HSt ⊢
  dsimp only at HSt ⊢
  unfold tupR rvP rV itV at *
  rw [ha] at HI0 ⊢
  generalize atP s.size S = jS at *
  generalize atP s.size B = jB at *
  generalize atP s.size C = jC at *
  clear hσ hS hB hk hl ha hst hsl hC
  go_enter Tryd.func35, Tryd.ntmps35
  go_wp2_with fail
  generalize hW : World.alloc _ _ = W0
  obtain ⟨hb, hP, hQ, hI, hc, hz⟩ := ri_base s w k σ.a σ.e 42 50 50 34 5 hW
  clear hW
  refine (HI0.out W0 _ hc).mono ?_
  rintro e w1 ⟨rfl, hb1⟩
  have HP := Lib.hid (Arr.below hP (Arr.lt hP (by decide)) hb1)
  have HQ := Lib.hid (Arr.below hQ (Arr.lt hQ (by decide)) hb1)
  have HI := Lib.hid (Arr.below hI (Arr.lt hI (by decide)) hb1)
  have HB := Lib.hid (bthen hb hb1 hb.size)
  have hz1 : w.heap.size + 1 + 1 + 1 < w1.heap.size := Nat.lt_of_lt_of_le hz hb1.size
  clear hb hP hQ hI hc hz hb1 HI0
  go_wp2_with fail
  generalize hW : World.alloc _ _ = W2
  obtain ⟨hb, hX, hT, hc, hz⟩ := ri_two s w1 jS S.a S.e ⟨0, 0, 0, 1⟩ 47 50 34 5 hW
  clear hW
  refine (HI1.out W2 _ hc).mono ?_
  rintro e w2 ⟨rfl, hb1⟩
  have hb2 := bthen hb hb1 hb.size
  have HX := Lib.hid (Arr.below hX (Arr.lt hX (by decide)) hb1)
  have HT := Lib.hid (Arr.below hT (Arr.lt hT (by decide)) hb1)
  have hz2 : w1.heap.size + 1 + 1 < w2.heap.size := Nat.lt_of_lt_of_le hz hb1.size
  replace HP := Lib.hid (Arr.below HP.out (Arr.lt HP.out (by decide)) hb2)
  replace HQ := Lib.hid (Arr.below HQ.out (Arr.lt HQ.out (by decide)) hb2)
  replace HI := Lib.hid (Arr.below HI.out (Arr.lt HI.out (by decide)) hb2)
  replace HB := Lib.hid (bthen HB.out hb2 HB.out.size)
  clear HI1 hb hX hT hc hz hb1 hb2
  generalize w1.heap.size = nx at *
  obtain ⟨p0, p1, p2, p3, pf⟩ := RvAt.cells HP.out
  obtain ⟨q0, q1, q2, q3, qf⟩ := RvAt.cells HQ.out
  obtain ⟨i0, i1, i2, i3, if_⟩ := ItAt.cells HI.out
  obtain ⟨x0, x1, x2, x3, xf⟩ := RvAt.cells HX.out
  obtain ⟨t0, t1, t2, t3, tf⟩ := ItAt.cells HT.out
  have zP := Arr.lt HP.out (by decide)
  have zQ := Arr.lt HQ.out (by decide)
  have zI := Arr.lt HI.out (by decide)
  have zX := Arr.lt HX.out (by decide)
  have zT := Arr.lt HT.out (by decide)
  go_wp2_with fail
  refine (HSt.out _).mono ?_
  rintro e w3 ⟨rfl, hb3⟩
  have hbv := ((Below.refl _ _).alloc (Nat.le_refl _) _).trans (hb3.mono (by simp))
  clear p0 p1 p2 p3 pf q0 q1 q2 q3 qf i0 i1 i2 i3 if_ x0 x1 x2 x3 xf t0 t1 t2 t3 tf zP zQ zI zX zT
  replace HP := Lib.hid (Arr.below HP.out (Arr.lt HP.out (by decide)) hbv)
  replace HQ := Lib.hid (Arr.below HQ.out (Arr.lt HQ.out (by decide)) hbv)
  replace HI := Lib.hid (Arr.below HI.out (Arr.lt HI.out (by decide)) hbv)
  replace HX := Lib.hid (Arr.below HX.out (Arr.lt HX.out (by decide)) hbv)
  replace HT := Lib.hid (Arr.below HT.out (Arr.lt HT.out (by decide)) hbv)
  replace HB := Lib.hid (bthen HB.out hbv HB.out.size)
  clear hb3 hbv HSt
  obtain ⟨p0, p1, p2, p3, pf⟩ := RvAt.cells HP.out
  obtain ⟨q0, q1, q2, q3, qf⟩ := RvAt.cells HQ.out
  obtain ⟨i0, i1, i2, i3, if_⟩ := ItAt.cells HI.out
  obtain ⟨x0, x1, x2, x3, xf⟩ := RvAt.cells HX.out
  obtain ⟨t0, t1, t2, t3, tf⟩ := ItAt.cells HT.out
  have zP := Arr.lt HP.out (by decide)
  have zQ := Arr.lt HQ.out (by decide)
  have zI := Arr.lt HI.out (by decide)
  have zX := Arr.lt HX.out (by decide)
  have zT := Arr.lt HT.out (by decide)
  have hbB := HB.out
  go_wp2
  generalize hW : World.setCell _ _ _ = W5
  obtain ⟨hX5, hT5, hs5, hA5, hB5⟩ := ri_fold s HX.out HT.out hW
  clear hW
  clear p0 p1 p2 p3 pf q0 q1 q2 q3 qf i0 i1 i2 i3 if_ x0 x1 x2 x3 xf t0 t1 t2 t3 tf zP zQ zI zX zT
  replace HP := Lib.hid (hA5 (by omega) (by omega) HP.out)
  replace HQ := Lib.hid (hA5 (by omega) (by omega) HQ.out)
  replace HI := Lib.hid (hA5 (by omega) (by omega) HI.out)
  replace HX := Lib.hid hX5
  replace HT := Lib.hid hT5
  replace hbB := hB5 _ _ hbB (by omega)
  replace HB := Lib.hid hbB
  clear hX5 hT5 hs5 hA5 hB5
  obtain ⟨p0, p1, p2, p3, pf⟩ := RvAt.cells HP.out
  obtain ⟨q0, q1, q2, q3, qf⟩ := RvAt.cells HQ.out
  obtain ⟨i0, i1, i2, i3, if_⟩ := ItAt.cells HI.out
  obtain ⟨x0, x1, x2, x3, xf⟩ := RvAt.cells HX.out
  obtain ⟨t0, t1, t2, t3, tf⟩ := ItAt.cells HT.out
  have zP := Arr.lt HP.out (by decide)
  have zQ := Arr.lt HQ.out (by decide)
  have zI := Arr.lt HI.out (by decide)
  have zX := Arr.lt HX.out (by decide)
  have zT := Arr.lt HT.out (by decide)
  (try go_region_with (fail))
  all_goals (
    (try go_wp2)
    (try simp only [Exit.inBlock, Exit.then])
    refine bodyPost_ret (v := .tuple #[.agg #[.string s, .int .i64 (jC), .int .i64 (C.a), .int .i64 (C.e)], .agg #[.int .i64 (0), .int .i64 (0), .int .i64 (0), .int .i64 (n)]]) ?_ rfl ⟨rfl, by (repeat' (first | (with_reducible exact Below.refl _ _) | (with_reducible assumption) | (with_reducible refine below_drewN ?_ _) | (with_reducible refine Below.alloc ?_ ?_ _) | (with_reducible refine Below.drew ?_) | (with_reducible refine Below.setCell ?_ ?_ _) | go_size))⟩
    rw [results_cell_cc rfl]
    go_simp)
end
end Go.Proofs.YtpfcgjneeboamaaDoor
