/- What is read of the text of a rule may be; of what is wrong the place lies in the text: plain. -/
import Derived.Test.YtnelecjjbmjhaaaGreatDoorRRule
import Derived.Test.YtnelecjjbmjhaaaGreatDoorRGoes
namespace Go.Proofs.YtnelecjjbmjhaaaGreatDoor
open Go.RowKit
set_option linter.unusedSimpArgs false
set_option linter.unusedVariables false

/-- From σ to τ, which lies behind it: a place that lay in the text still does; where nothing is wrong behind, nothing was ahead, and P. -/
structure Gos (N : Nat) (σ τ : PS) (P : Prop) : Prop where
  len : τ.l.length ≤ σ.l.length
  ok : σ.l.length ≤ N → (σ.e = 0 ∨ 0 ≤ σ.a ∧ σ.a ≤ N) → (τ.e = 0 ∨ 0 ≤ τ.a ∧ τ.a ≤ N)
  z : τ.e = 0 → σ.e = 0 ∧ P
section
variable {N : Nat} {σ τ υ : PS} {P Q : Prop}
theorem Gos.trans (h : Gos N σ τ P) (g : Gos N τ υ Q) : Gos N σ υ (P ∧ Q) :=
  ⟨Nat.le_trans g.len h.len, fun y x => g.ok (Nat.le_trans h.len y) (h.ok y x), fun x => ⟨(h.z (g.z x).1).1, (h.z (g.z x).1).2, (g.z x).2⟩⟩
theorem Gos.mono (h : Gos N σ τ P) (g : P → Q) : Gos N σ τ Q := ⟨h.len, h.ok, fun x => ⟨(h.z x).1, g (h.z x).2⟩⟩
theorem Gos.refl (N : Nat) (σ : PS) : Gos N σ σ True := ⟨Nat.le_refl _, fun _ => id, fun x => ⟨x, trivial⟩⟩
theorem Gos.never (h : Gos N σ τ False) : Gos N σ τ Q := h.mono False.elim
theorem Gos.of (h : Goes N σ τ P) (g : τ.l.length ≤ σ.l.length) : Gos N σ τ P := ⟨g, fun _ => h.ok, h.z⟩
theorem fail_l (p q : Int) (σ : PS) : (failP p q σ).l = σ.l := by unfold failP; split <;> rfl
theorem gos_fail (p q : Int) (hq : q ≠ 0) (hp : 0 ≤ p ∧ p ≤ N) : Gos N σ (failP p q σ) False := .of (goes_fail p q hq hp) (by rw [fail_l]; exact Nat.le_refl _)
theorem gos_failAt (τ : PS) (q : Int) (hq : q ≠ 0) : Gos N σ (failP (atP N τ) q σ) False := gos_fail _ _ hq (at_le N τ)
theorem pIs_len {cs l r : List UInt8} (h : pIs cs l = some r) : l.length = r.length + 1 := by
  cases l with
  | nil => cases h
  | cons c l =>
    rw [pIs_cons] at h
    split at h
    · cases h; rfl
    · cases h
theorem is_len (cs : List UInt8) (σ : PS) : (isP cs σ).1.l.length ≤ σ.l.length ∧ ((isP cs σ).2 = true → (isP cs σ).1.l.length + 1 = σ.l.length) := by
  unfold isP
  split
  · split
    · rename_i h; have := pIs_len h; exact ⟨by dsimp only; omega, fun _ => by dsimp only; omega⟩
    · exact ⟨Nat.le_refl _, fun h => by cases h⟩
  · exact ⟨Nat.le_refl _, fun h => by cases h⟩
theorem gos_is (cs : List UInt8) : Gos N σ (isP cs σ).1 True := .of (goes_is cs) (is_len cs σ).1
theorem gos_lack : Gos N σ (lackP N σ) False := gos_failAt σ _ (pLack_ne _)
theorem gos_must (cs : List UInt8) : Gos N σ (mustP N cs σ).1 True := by
  unfold mustP
  split
  · exact gos_is cs
  · exact gos_lack.never
theorem drop_len (p : UInt8 → Bool) (l : List UInt8) : (l.dropWhile p).length ≤ l.length := by
  have := congrArg List.length (List.takeWhile_append_dropWhile (p := p) (l := l))
  rw [List.length_append] at this
  omega
theorem take_len (p : UInt8 → Bool) (l : List UInt8) : (l.takeWhile p).length ≤ l.length := by
  have := congrArg List.length (List.takeWhile_append_dropWhile (p := p) (l := l))
  rw [List.length_append] at this
  omega
theorem gos_some (p : UInt8 → Bool) : Gos N σ (someP p σ).1 True := by
  refine .of (goes_some p) ?_
  unfold someP
  split
  · exact drop_len _ _
  · exact Nat.le_refl _
theorem gos_num (most : Nat) : Gos N σ (numP N most σ).1 ((numP N most σ).2.2 = true ∧ 0 ≤ (numP N most σ).2.1 ∧ (numP N most σ).2.1 < 10 ^ most) := by
  refine .of (goes_num most) ?_
  unfold numP
  split
  · split
    · exact drop_len _ _
    · exact Nat.le_refl _
  · exact Nat.le_refl _
theorem gos_text (t : List UInt8) : Gos N σ (textP t σ).1 True := by
  refine .of (goes_text t) ?_
  unfold textP
  split
  · show (σ.l.drop _).length ≤ _; rw [List.length_drop]; omega
  · exact Nat.le_refl _
theorem ite_gos {c : Prop} [Decidable c] {x y : PS} {P : Prop} (h1 : c → Gos N σ x P) (h2 : ¬ c → Gos N σ y P) : Gos N σ (if c then x else y) P := by
  split
  · exact h1 (by assumption)
  · exact h2 (by assumption)
theorem gos_rmust (t : List UInt8) : Gos N σ (rmustP N t σ) True := by
  unfold rmustP
  refine ite_gos (fun _ => gos_text t) (fun _ => ((gos_text t).trans gos_lack).mono fun h => h.2.elim)
theorem wrongL_bd : ∀ (l : List UInt8) (k : Nat), k ≤ 15 → ((wrongL k l).2 ≠ 0 → (k : Int) ≤ (wrongL k l).1 ∧ (wrongL k l).1 ≤ (k : Int) + l.length) ∧ ((wrongL k l).2 = 0 → 15 ≤ k + l.length)
  | [], k, hk => by
    unfold wrongL
    by_cases h : k < 15
    · rw [if_pos h]
      exact ⟨fun _ => by simp, fun h => by cases h⟩
    · rw [if_neg h]
      exact ⟨fun h => absurd rfl h, fun _ => by omega⟩
  | c :: l, k, hk => by
    unfold wrongL
    by_cases h : 15 ≤ k
    · rw [if_pos h]
      exact ⟨fun h => absurd rfl h, fun _ => by omega⟩
    · rw [if_neg h]
      by_cases hs : stemB k c = true
      · rw [if_pos hs]
        have := wrongL_bd l (k + 1) (by omega)
        rw [List.length_cons]
        exact ⟨fun h => by have := this.1 h; omega, fun h => by have := this.2 h; omega⟩
      · rw [if_neg hs]
        rw [List.length_cons]
        exact ⟨fun _ => by dsimp only; omega, fun h => by cases h⟩
theorem momP_bd (l : List UInt8) : 0 ≤ (momP l).2.1 ∧ (momP l).2.1 ≤ l.length ∧ ((momP l).2.2 = 0 → (momP l).1 = momI (yMP l) (moMP l) (dMP l) (hMP l) (miMP l) (sMP l) ∧ momB (yMP l) (moMP l) (dMP l) (hMP l) (miMP l) (sMP l) = true ∧ l.length = 16) := by
  have hw := wrongL_bd l 0 (by omega)
  unfold momP
  by_cases h1 : (wrongL 0 l).2 ≠ 0
  · rw [if_pos h1]
    have := hw.1 h1
    exact ⟨by dsimp only; omega, by dsimp only; omega, fun h => absurd h h1⟩
  · rw [if_neg h1]
    have h15 := hw.2 (by simpa using h1)
    by_cases h2 : momB (yMP l) (moMP l) (dMP l) (hMP l) (miMP l) (sMP l) = false
    · rw [if_pos h2]
      exact ⟨by decide, by dsimp only; omega, fun h => by cases h⟩
    · rw [if_neg h2]
      by_cases h3 : l[15]? ≠ some 90
      · rw [if_pos h3]
        exact ⟨by decide, by dsimp only; omega, fun h => by cases h⟩
      · rw [if_neg h3]
        have h3' : l[15]? = some 90 := by simpa using h3
        obtain ⟨h16, _⟩ := List.getElem?_eq_some_iff.1 h3'
        by_cases h4 : 16 < l.length
        · rw [if_pos h4]
          exact ⟨by dsimp only; omega, by dsimp only; omega, fun h => by cases h⟩
        · rw [if_neg h4]
          exact ⟨by dsimp only; omega, by dsimp only; omega, fun _ => ⟨rfl, by simpa using h2, by omega⟩⟩
theorem gos_inst : Gos N σ (instP N σ).1 True := by
  unfold instP
  by_cases hd : doneP σ = true
  · rw [if_pos hd]; exact gos_lack.never
  · rw [if_neg hd]
    obtain ⟨b1, b2, _⟩ := momP_bd (σ.l.takeWhile goonB)
    have ht := take_len goonB σ.l
    generalize momP (σ.l.takeWhile goonB) = m at *
    refine Gos.mono (P := True ∧ True) (Gos.trans (τ := failP (atP N σ + m.2.1) m.2.2 σ) ?_ (gos_text _)) (fun _ => trivial)
    refine ⟨by rw [fail_l]; exact Nat.le_refl _, ?_, ?_⟩
    · intro hl hx
      unfold failP
      split
      · by_cases hq : m.2.2 = 0
        · exact .inl hq
        · refine .inr ?_
          dsimp only
          rw [if_neg hq]
          unfold atP
          omega
      · exact hx
    · intro h
      unfold failP at h
      by_cases he : σ.e = 0
      · exact ⟨he, trivial⟩
      · rw [if_neg he] at h; exact absurd h he
theorem gos_rnum (most : Nat) (lo hi : Int) : Gos N σ (rnumP N most lo hi σ).1 (lo ≤ (rnumP N most lo hi σ).2 ∧ (rnumP N most lo hi σ).2 ≤ hi ∧ 0 ≤ (rnumP N most lo hi σ).2 ∧ (rnumP N most lo hi σ).2 < 10 ^ most) := by
  unfold rnumP
  dsimp only
  split
  · exact ((gos_num most).trans (gos_failAt σ _ (by decide))).mono fun h => h.2.elim
  · rename_i h
    refine (gos_num most).mono fun h1 => ?_
    rw [h1.1] at h
    simp only [true_and, not_or] at h
    exact ⟨by omega, by omega, h1.2.1, h1.2.2⟩
theorem gos_sign (hi : Int) : Gos N σ (signP N hi σ).1 True := by
  unfold signP
  dsimp only
  split
  · exact ((gos_is [45]).trans (gos_rnum 2 1 hi)).mono fun _ => trivial
  · exact ((gos_is [45]).trans (gos_rnum 2 1 hi)).mono fun _ => trivial
theorem gos_one (ws : List (List UInt8)) : Gos N σ (oneP N ws σ).1 ((someP letterP σ).2 ≠ [] ∧ 0 ≤ (oneP N ws σ).2 ∧ (oneP N ws σ).2 = wIdx (someP letterP σ).2 ws) := by
  unfold oneP
  dsimp only
  split
  · exact ((gos_some letterP).trans gos_lack).mono fun h => h.2.elim
  · rename_i hne
    split
    · exact ((gos_some letterP).trans (gos_failAt σ _ (by decide))).mono fun h => h.2.elim
    · exact (gos_some letterP).mono fun _ => ⟨hne, by dsimp only; omega, rfl⟩
theorem gos_nth : Gos N σ (rnthP N σ).1 True := by
  unfold rnthP
  dsimp only
  split
  · exact ((gos_sign 53).trans (gos_one wdN)).mono fun _ => trivial
  · exact (gos_one wdN).mono fun _ => trivial
theorem gos_list {α : Type} (one : PS → PS × α) (hone : ∀ σ, Gos N σ (one σ).1 True) : ∀ (q : Nat) (σ : PS), Gos N σ (rlistP N one q σ).1 True
  | 0, σ => by
    unfold rlistP
    dsimp only
    split
    · exact (((hone σ).trans (gos_is [44])).trans (gos_failAt _ _ (by decide))).mono fun h => h.2.elim
    · exact ((hone σ).trans (gos_is [44])).mono fun _ => trivial
  | q + 1, σ => by
    unfold rlistP
    split
    · exact (((hone σ).trans (gos_is [44])).trans (gos_list one hone q _)).mono fun _ => trivial
    · exact ((hone σ).trans (gos_is [44])).mono fun _ => trivial
theorem gos_nums (lo hi : Int) : Gos N σ (numsP N lo hi σ).1 True := gos_list _ (fun _ => (gos_rnum 2 lo hi).mono fun _ => trivial) 63 σ
theorem gos_start : Gos N σ (startP N σ) True := by
  unfold startP
  split
  · exact ((gos_one wdN).trans (gos_failAt σ _ (by decide))).mono fun h => h.2.elim
  · exact (gos_one wdN).mono fun _ => trivial
/-- What holds of the numbers that are read. -/
def Num15 (r : RuV) : Prop := 1 ≤ r.iv ∧ r.iv < 1000000000000000 ∧ 0 ≤ r.ct ∧ r.ct < 1000000000000000
theorem gos_partK (k : Nat) (r : RuV) : Gos N σ (partK N k r σ).1 (Num15 r → Num15 (partK N k r σ).2) := by
  unfold partK
  repeat' split
  all_goals dsimp only
  · exact (gos_one unN).mono fun _ => id
  · refine (gos_rnum 15 1 999999999999999).mono fun h h2 => ⟨h.1, ?_, h2.2.2.1, h2.2.2.2⟩
    have := h.2.1
    show (rnumP N 15 1 999999999999999 σ).2 < 1000000000000000
    omega
  · refine (gos_rnum 15 1 999999999999999).mono fun h h2 => ⟨h2.1, h2.2.1, ?_, ?_⟩
    · exact h.2.2.1
    · have := h.2.1
      show (rnumP N 15 1 999999999999999 σ).2 < 1000000000000000
      omega
  · exact gos_inst.mono fun _ => id
  · exact (gos_nums 1 12).mono fun _ => id
  · exact (gos_list _ (fun _ => gos_sign 31) 63 σ).mono fun _ => id
  · exact (gos_list _ (fun _ => gos_nth) 63 σ).mono fun _ => id
  · exact (gos_nums 0 23).mono fun _ => id
  · exact (gos_nums 0 59).mono fun _ => id
  · exact (gos_nums 0 59).mono fun _ => id
  · exact gos_start.mono fun _ => id
theorem gos_part (S : RS) : Gos N S.σ (partP N S).σ ((someP letterP S.σ).2 ≠ [] ∧ (Num15 S.r → Num15 (partP N S).r)) := by
  unfold partP
  dsimp only
  split
  · exact ((gos_some letterP).trans gos_lack).mono fun h => h.2.elim
  · rename_i hne
    split
    · exact ((gos_some letterP).trans (gos_failAt _ _ (by decide))).mono fun h => h.2.elim
    · split
      · exact ((gos_some letterP).trans (gos_failAt _ _ (by decide))).mono fun h => h.2.elim
      · split
        · exact ((gos_some letterP).trans (gos_failAt _ _ (by decide))).mono fun h => h.2.elim
        · exact (((gos_some letterP).trans (gos_must [61])).trans (gos_partK _ _)).mono fun h => ⟨hne, h.2⟩
theorem gos_parts : ∀ (q : Nat) (S : RS), Gos N S.σ (partsP N q S).σ (Num15 S.r → Num15 (partsP N q S).r)
  | 0, S => ((gos_part S).trans (gos_is [59])).mono fun h => h.1.2
  | q + 1, S => by
    unfold partsP
    split
    · exact (((gos_part S).trans (gos_is [59])).trans (gos_parts q ⟨(isP [59] (partP N S).σ).1, (partP N S).r, (partP N S).T⟩)).mono fun h g => h.2 (h.1.1.2 g)
    · exact ((gos_part S).trans (gos_is [59])).mono fun h => h.1.2
theorem gos_head : Gos N σ (rheadP N σ).1 True := by
  unfold rheadP
  dsimp only
  have h2 : Gos N (rmustP N [68,84,83,84,65,82,84] σ) (if peekP (rmustP N [68,84,83,84,65,82,84] σ) = 59 then failP (atP N (rmustP N [68,84,83,84,65,82,84] σ)) 7 (rmustP N [68,84,83,84,65,82,84] σ) else rmustP N [68,84,83,84,65,82,84] σ) True :=
    ite_gos (fun _ => (gos_failAt _ _ (by decide)).never) (fun _ => Gos.refl _ _)
  exact (((((((gos_rmust _).trans h2).trans (gos_must [58])).trans gos_inst).trans (gos_must [10])).trans (gos_rmust _)).trans (gos_must [58])).mono fun _ => trivial
theorem gos_end : Gos N σ (endP N σ) (σ.l = []) := by
  unfold endP
  split
  · rename_i h
    refine ⟨Nat.le_refl _, fun _ => id, fun x => ⟨x, ?_⟩⟩
    unfold doneP at h
    rw [decide_eq_true_eq] at h
    exact h.resolve_left (fun h => h x)
  · exact (gos_failAt _ _ (by decide)).never
theorem gos_all (l : List UInt8) : Gos l.length (rpsNew l) (rallP l).σ (Num15 (rallP l).r ∧ paN[0] ∈ (rallP l).T ∧ (partsP l.length l.length ⟨(rheadP l.length (rpsNew l)).1, { ruOne with st := (rheadP l.length (rpsNew l)).2 }, []⟩).σ.l = []) := by
  unfold rallP
  dsimp only
  have h1 := (gos_head (N := l.length) (σ := rpsNew l)).trans (gos_parts l.length ⟨(rheadP l.length (rpsNew l)).1, { ruOne with st := (rheadP l.length (rpsNew l)).2 }, []⟩) |>.trans gos_end
  have hn : Num15 { ruOne with st := (rheadP l.length (rpsNew l)).2 } := by
    show (1 : Int) ≤ 1 ∧ (1 : Int) < 1000000000000000 ∧ (0 : Int) ≤ 0 ∧ (0 : Int) < 1000000000000000
    decide
  split
  · rename_i hm
    exact h1.mono fun h => ⟨h.1.2 hn, hm, h.2⟩
  · exact (h1.trans (gos_fail _ _ (by decide) ⟨by omega, by omega⟩)).mono fun h => h.2.elim
end
theorem rread_ok {l : List UInt8} {r : RuV} (h : rread l = .ok r) : (rallP l).σ.e = 0 ∧ r = (rallP l).r ∧ chkR r = 0 ∧ Num15 r ∧ l.length ≤ 8192 := by
  unfold rread at h
  dsimp only at h
  split at h
  · cases h
  · rename_i h1
    split at h
    · cases h
    · rename_i h2
      cases h
      have he : (rallP l).σ.e = 0 := by simpa using h1
      obtain ⟨h3, h4⟩ := (gos_all l).z he
      refine ⟨he, rfl, by simpa using h2, h4.1, ?_⟩
      unfold rpsNew at h3
      dsimp only at h3
      split at h3
      · cases h3
      · omega
theorem rread_err {l : List UInt8} {a e : Int} (h : rread l = .error (a, e)) : e ≠ 0 ∧ 0 ≤ a ∧ a ≤ (l.length : Int) := by
  unfold rread at h
  dsimp only at h
  split at h
  · rename_i h1
    cases h
    refine ⟨h1, ?_⟩
    have := (gos_all l).ok (Nat.le_refl _) (by unfold rpsNew; dsimp only; split <;> omega)
    exact this.resolve_left h1
  · split at h
    · rename_i h2
      cases h
      exact ⟨h2, by omega, by omega⟩
    · cases h
end Go.Proofs.YtnelecjjbmjhaaaGreatDoor
