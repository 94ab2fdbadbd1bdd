/- The plain law of lowering a line: its clause has just the instants that the line means. -/
import Derived.Test.YtochhmkdhdadhaaGreatDoorRClowA
import Derived.Test.YtochhmkdhdadhaaGreatDoorLCron3
import Derived.Test.YtochhmkdhdadhaaGreatDoorWVal2
namespace Go.Proofs.YtochhmkdhdadhaaGreatDoor
open Go.RowKit
set_option linter.unusedSimpArgs false
set_option linter.unusedVariables false

/-- The clause of a line. -/
def lineM (l : Nat → List It) (i : Nat) : Int :=
  if i = 0 then 1 else if i = 1 then maskL (refVal (l 0) 0 59) else if i = 2 then maskL (refVal (l 1) 0 23) else if i = 3 then maskL (refVal (l 3) 1 12) else if i = 4 then maskL (refVal (l 2) 1 31) else if i = 5 then spanM 1 31 else maskL (wkL (refVal (l 4) 0 7))
def lineC (l : Nat → List It) : Cl := { m := lineM l, or := eitherB l, oi := 0, ob := false, od := fun _ => 0, y := fullW, u := 0, s := 1, a := 0, f := 0, t := 12622780799 }
theorem one_mask : (1 : Int) = maskL [0] := by decide +kernel
theorem andW_full : eqW (andW fullW) fullW = true := by decide +kernel
theorem line_may (l : Nat → List It) : mayG (lineC l) fullC = true := by
  have h0 : noMore (1, spanM 0 59) = true := by rw [one_mask]; exact noMore_span (by intro x hx; rw [List.mem_singleton.1 hx]; omega)
  have h1 : noMore (maskL (refVal (l 0) 0 59), spanM 0 59) = true := noMore_span fun x hx => rval_bd hx
  have h2 : noMore (maskL (refVal (l 1) 0 23), spanM 0 23) = true := noMore_span fun x hx => rval_bd hx
  have h3 : noMore (maskL (refVal (l 3) 1 12), spanM 1 12) = true := noMore_span fun x hx => rval_bd hx
  have h4 : noMore (maskL (refVal (l 2) 1 31), spanM 1 31) = true := noMore_span fun x hx => rval_bd hx
  have h5 : noMore (spanM 1 31, spanM 1 31) = true := noMore_self _ _
  have h6 : noMore (maskL (wkL (refVal (l 4) 0 7)), spanM 1 7) = true := noMore_span fun x hx => by
    obtain ⟨n0, h | ⟨_, rfl⟩⟩ := mem_wkL.1 hx
    · have := rval_bd h; omega
    · omega
  have hp : (prsC (lineC l) fullC).all noMore = true := by
    show [((1 : Int), spanM 0 59), (maskL (refVal (l 0) 0 59), spanM 0 59), (maskL (refVal (l 1) 0 23), spanM 0 23), (maskL (refVal (l 3) 1 12), spanM 1 12), (maskL (refVal (l 2) 1 31), spanM 1 31), (spanM 1 31, spanM 1 31), (maskL (wkL (refVal (l 4) 0 7)), spanM 1 7)].all noMore = true
    simp only [List.all_cons, List.all_nil, h0, h1, h2, h3, h4, h5, h6, Bool.and_true]
  have ho : ordC (lineC l) = true := ord_none rfl rfl fun _ => rfl
  have hy : eqW (andW (lineC l).y) (lineC l).y = true := andW_full
  unfold mayG
  rw [hp, ho, hy]
  show (true && (true && (true && (!(unT 0).isEmpty && (decide ((1 : Int) ≤ 1) && inC 0))))) = true
  decide +kernel
theorem line_bits (l : Nat → List It) : BitsC (lineC l) := by
  refine ⟨fun k hk => ?_, fun k hk => (⟨by decide, by decide⟩ : M64 0), fun k hk => m64_S _ _⟩
  show M64 (lineM l k)
  unfold lineM
  repeat' split
  · exact ⟨by decide, by decide⟩
  all_goals first | exact m64_L _ | exact m64_S _ _

/-- Does a line mean an instant? -/
def meansL (l : Nat → List It) (t : Int) : Bool :=
  inC t && (decide (t % 86400 % 60 = 0) && (inB (l 0) 0 59 (t % 86400 / 60 % 60) && (inB (l 1) 0 23 (t % 86400 / 3600) && (inB (l 3) 1 12 (mD (t / 86400)) &&
  (if starB (l 2) || starB (l 4) then inB (l 2) 1 31 (dD (t / 86400)) && (inB (l 4) 0 7 (wdD (t / 86400)) || (decide (wdD (t / 86400) = 7) && inB (l 4) 0 7 0))
   else inB (l 2) 1 31 (dD (t / 86400)) || (inB (l 4) 0 7 (wdD (t / 86400)) || (decide (wdD (t / 86400) = 7) && inB (l 4) 0 7 0)))))))
theorem day_rest {c : Cl} {n : Int} (h : 0 ≤ n) (h1 : n < 146097) (hy : c.y = fullW) (he : c.m 5 = spanM 1 31) (ho : c.oi = 0) (hu : c.u = 0) (hs : c.s = 1) (ha : c.a = 0) :
    hasM (c.m 5) (lenC (yD n) (mD n) - dD n + 1) = true ∧ hasW c.y (yD n - 1970) = true ∧ nthC c n = true ∧ dayU c.u c.s c.a n = true := by
  obtain ⟨_, _, _, _, y0, y1⟩ := date_in h h1
  obtain ⟨_, m1, m2, d1, d2⟩ := date_jan h h1
  have hl := lenC_pos (y := yD n) m1 m2
  refine ⟨?_, ?_, ?_, ?_⟩
  · rw [he, hasM_spanM _ _ _ (by omega) (by omega)]
    simp; omega
  · rw [hy]; exact hasW_full (by omega) (by omega)
  · unfold nthC; rw [ho]; rfl
  · rw [hu, hs, ha]; exact dayU_yes (by decide +kernel) (by decide) (.inr rfl)
theorem line_has (l : Nat → List It) (t : Int) : hasC (lineC l) t = meansL l t := by
  unfold hasC meansL
  cases hi : inC t with
  | false => rfl
  | true =>
    obtain ⟨t0, t1⟩ := in_bd hi
    have h1 : decide (heldF (lineC l).f (lineC l).t ≤ t ∧ t ≤ heldU (lineC l).f (lineC l).t) = true := decide_eq_true ⟨t0, by show t ≤ 12622780799; omega⟩
    have h2 : onU (lineC l).u (lineC l).s (lineC l).a t = true := by
      show onU 0 1 0 t = true
      refine decide_eq_true ⟨by decide +kernel, decide_eq_true ⟨hi, by decide, by decide⟩, by decide, ?_⟩
      omega
    obtain ⟨e1, e2, e3, e4⟩ := day_rest (c := lineC l) (n := t / 86400) (by omega) (by omega) rfl rfl rfl rfl rfl rfl
    have e5 : todIn (t % 86400) ((lineC l).m 2) ((lineC l).m 1) ((lineC l).m 0) = (inB (l 1) 0 23 (t % 86400 / 3600) && (inB (l 0) 0 59 (t % 86400 / 60 % 60) && decide (t % 86400 % 60 = 0))) := by
      show todIn (t % 86400) (maskL (refVal (l 1) 0 23)) (maskL (refVal (l 0) 0 59)) 1 = _
      unfold todIn
      rw [hasM_val (by omega) (by omega), hasM_val (by omega) (by omega), one_mask, hasM_maskL]
      congr 2
      rw [decide_eq_decide, List.mem_singleton]
      omega
    obtain ⟨_, m1, m2, d1, d2⟩ := date_jan (n := t / 86400) (by omega) (by omega)
    have hl := lenC_pos (y := yD (t / 86400)) m1 m2
    have hw := wdD_bd (t / 86400)
    have e6 : hasM ((lineC l).m 4) (dD (t / 86400)) = inB (l 2) 1 31 (dD (t / 86400)) := hasM_val (by omega) (by omega)
    have e7 : hasM ((lineC l).m 3) (mD (t / 86400)) = inB (l 3) 1 12 (mD (t / 86400)) := hasM_val (by omega) (by omega)
    have e8 : hasM ((lineC l).m 6) (wdD (t / 86400)) = (inB (l 4) 0 7 (wdD (t / 86400)) || (decide (wdD (t / 86400) = 7) && inB (l 4) 0 7 0)) := by
      show hasM (maskL (wkL (refVal (l 4) 0 7))) (wdD (t / 86400)) = _
      rw [hasM_maskL, Bool.eq_iff_iff, decide_eq_true_eq, mem_wkL, Bool.or_eq_true, Bool.and_eq_true, decide_eq_true_eq, (refVal_spec 0 7 (l 4)).2, (refVal_spec 0 7 (l 4)).2]
      constructor
      · rintro ⟨_, _, _, h | ⟨h, h7⟩⟩
        · exact .inl h
        · exact .inr ⟨h7, h⟩
      · rintro (h | ⟨h7, h⟩)
        · exact ⟨by omega, by omega, by omega, .inl h⟩
        · exact ⟨by omega, by omega, by omega, .inr ⟨h, h7⟩⟩
    have e9 : (lineC l).or = (!starB (l 2) && !starB (l 4)) := rfl
    rw [line_may, h1, h2, e5]
    unfold dayC
    rw [line_may, dayP_def, e1, e2, e3, e4, e6, e7, e8, e9]
    generalize inB (l 2) 1 31 (dD (t / 86400)) = D
    generalize (inB (l 4) 0 7 (wdD (t / 86400)) || (decide (wdD (t / 86400) = 7) && inB (l 4) 0 7 0)) = K
    generalize inB (l 1) 0 23 (t % 86400 / 3600) = a
    generalize inB (l 0) 0 59 (t % 86400 / 60 % 60) = b
    generalize decide (t % 86400 % 60 = 0) = s
    generalize inB (l 3) 1 12 (mD (t / 86400)) = m
    cases starB (l 2) <;> cases starB (l 4) <;> cases D <;> cases K <;> cases a <;> cases b <;> cases s <;> cases m <;> rfl
end Go.Proofs.YtochhmkdhdadhaaGreatDoor
