/- A text with a blank and more behind is read as far as the blank as the text alone: plain. -/
import Derived.Test.YthkleinjddkhoaaRCalMay
namespace Go.Proofs.Ythkleinjddkhoaa
open Go.RowKit
set_option linter.unusedSimpArgs false
set_option linter.unusedVariables false

/-- What stands behind a text: nothing, or a blank and more. -/
def Tail (t : List UInt8) : Prop := t = [] ∨ ∃ u, t = 32 :: u
/-- Two readers stand alike, but for what stands behind: t. -/
structure Rel (t : List UInt8) (σ τ : PS) : Prop where
  e : σ.e = 0 ↔ τ.e = 0
  l : σ.e = 0 → τ.l = σ.l ++ t
section
variable {t : List UInt8} {σ τ : PS} {N M : Nat}
theorem tail_stop {p : UInt8 → Bool} (ht : Tail t) (hp : p 32 = false) (l : List UInt8) : (l ++ t).takeWhile p = l.takeWhile p ∧ (l ++ t).dropWhile p = l.dropWhile p ++ t := by
  induction l with
  | nil =>
    rcases ht with rfl | ⟨u, rfl⟩
    · simp
    · simp [List.takeWhile_cons, List.dropWhile_cons, hp]
  | cons c l ih =>
    rw [List.cons_append, List.takeWhile_cons, List.takeWhile_cons, List.dropWhile_cons, List.dropWhile_cons]
    split
    · exact ⟨by rw [ih.1], ih.2⟩
    · exact ⟨rfl, rfl⟩
theorem Rel.dead (h : Rel t σ τ) (he : σ.e ≠ 0) : τ.e ≠ 0 := fun x => he (h.e.2 x)
theorem rel_dead (h1 : σ.e ≠ 0) (h2 : τ.e ≠ 0) : Rel t σ τ := ⟨⟨fun x => absurd x h1, fun x => absurd x h2⟩, fun x => absurd x h1⟩
theorem fail_dead_e (p q : Int) (hq : q ≠ 0) (σ : PS) : (failP p q σ).e ≠ 0 := by
  unfold failP
  split
  · exact hq
  · assumption
theorem rel_fail (p q p' q' : Int) (hq : q ≠ 0) (hq' : q' ≠ 0) : Rel t (failP p q σ) (failP p' q' τ) := rel_dead (fail_dead_e _ _ hq _) (fail_dead_e _ _ hq' _)
theorem rel_is {cs : List UInt8} (ht : Tail t) (hcs : cs.elem 32 = false) (h : Rel t σ τ) : Rel t (isP cs σ).1 (isP cs τ).1 ∧ (isP cs σ).2 = (isP cs τ).2 := by
  unfold isP
  by_cases he : σ.e = 0
  · rw [if_pos he, if_pos (h.e.1 he), h.l he]
    have hp : pIs cs (σ.l ++ t) = (pIs cs σ.l).map (fun r => r ++ t) := by
      cases σ.l with
      | nil =>
        rcases ht with rfl | ⟨u, rfl⟩
        · rfl
        · simp only [List.nil_append, pIs, hcs]; rfl
      | cons c l =>
        simp only [List.cons_append, pIs]
        split <;> rfl
    rw [hp]
    cases pIs cs σ.l with
    | none => exact ⟨h, rfl⟩
    | some r => exact ⟨⟨Iff.rfl, fun _ => rfl⟩, rfl⟩
  · rw [if_neg he, if_neg (h.dead he)]
    exact ⟨h, rfl⟩
theorem peek_of_is {cs : List UInt8} (h : Rel t σ τ) (hy : (isP cs σ).2 = true) : peekP σ = peekP τ := by
  have he := (is_yes_e hy).1
  unfold peekP
  rw [if_pos he, if_pos (h.e.1 he), h.l he]
  unfold isP at hy
  rw [if_pos he] at hy
  cases hl : σ.l with
  | nil => rw [hl] at hy; cases hy
  | cons c l => rfl
theorem rel_must {cs : List UInt8} (ht : Tail t) (hcs : cs.elem 32 = false) (h : Rel t σ τ) : Rel t (mustP N cs σ).1 (mustP M cs τ).1 ∧ (mustP N cs σ).2 = (mustP M cs τ).2 := by
  obtain ⟨h1, h2⟩ := rel_is ht hcs h
  unfold mustP
  rw [← h2]
  cases hy : (isP cs σ).2 with
  | true => simp only [if_true]; exact ⟨h1, peek_of_is h hy⟩
  | false =>
    simp only [Bool.false_eq_true, if_false]
    unfold lackP
    exact ⟨rel_fail _ _ _ _ (pLack_ne _) (pLack_ne _), trivial⟩
theorem rel_some {p : UInt8 → Bool} (ht : Tail t) (hp : p 32 = false) (h : Rel t σ τ) : Rel t (someP p σ).1 (someP p τ).1 ∧ (someP p σ).2 = (someP p τ).2 := by
  unfold someP
  by_cases he : σ.e = 0
  · rw [if_pos he, if_pos (h.e.1 he), h.l he]
    obtain ⟨h1, h2⟩ := tail_stop ht hp σ.l
    rw [h1, h2]
    exact ⟨⟨Iff.rfl, fun _ => rfl⟩, rfl⟩
  · rw [if_neg he, if_neg (h.dead he)]; exact ⟨h, rfl⟩
theorem rel_num (m : Nat) (ht : Tail t) (h : Rel t σ τ) : Rel t (numP N m σ).1 (numP M m τ).1 ∧ (numP N m σ).2 = (numP M m τ).2 := by
  unfold numP
  by_cases he : σ.e = 0
  · rw [if_pos he, if_pos (h.e.1 he), h.l he]
    obtain ⟨h1, h2⟩ := tail_stop (p := digitP) ht (by decide) σ.l
    have hz : numE m (σ.l ++ t) = 0 ↔ numE m σ.l = 0 := by
      unfold numE
      rw [h1]
      by_cases h0 : σ.l.takeWhile digitP = []
      · rw [if_pos h0, if_pos h0]
        exact ⟨fun x => absurd x (pLack_ne _), fun x => absurd x (pLack_ne _)⟩
      · rw [if_neg h0, if_neg h0]
    by_cases h0 : numE m σ.l = 0
    · rw [if_pos h0, if_pos (hz.2 h0), h1, h2]
      exact ⟨⟨Iff.rfl, fun _ => rfl⟩, rfl⟩
    · rw [if_neg h0, if_neg (fun x => h0 (hz.1 x))]
      exact ⟨rel_dead h0 (fun x => h0 (hz.1 x)), rfl⟩
  · rw [if_neg he, if_neg (h.dead he)]; exact ⟨h, rfl⟩
theorem pre_tail {x : List UInt8} (ht : Tail t) (hx : x.elem 32 = false) (l : List UInt8) : x <+: l ++ t ↔ x <+: l := by
  constructor
  · intro h
    induction x generalizing l with
    | nil => exact List.nil_prefix
    | cons a x ih =>
      have ha : a ≠ 32 := by
        rintro rfl
        simp at hx
      have hx' : x.elem 32 = false := by
        simp at hx ⊢
        exact hx.2
      cases l with
      | nil =>
        rcases ht with rfl | ⟨u, rfl⟩
        · exact h
        · rw [List.nil_append, List.cons_prefix_cons] at h
          exact absurd h.1 ha
      | cons c l =>
        rw [List.cons_append, List.cons_prefix_cons] at h
        rw [List.cons_prefix_cons]
        exact ⟨h.1, ih hx' l h.2⟩
  · intro h; exact h.trans (List.prefix_append _ _)
theorem rel_text {x : List UInt8} (ht : Tail t) (hx : x.elem 32 = false) (h : Rel t σ τ) : Rel t (textP x σ).1 (textP x τ).1 ∧ (textP x σ).2 = (textP x τ).2 := by
  unfold textP
  by_cases he : σ.e = 0
  · have he' := h.e.1 he
    rw [h.l he]
    simp only [he, he', true_and, pre_tail ht hx]
    split
    · rename_i h1
      refine ⟨⟨Iff.rfl, fun _ => ?_⟩, rfl⟩
      exact List.drop_append_of_le_length h1.2.length_le
    · exact ⟨h, rfl⟩
  · have hd := h.dead he
    rw [if_neg (fun x => he x.1), if_neg (fun x => hd x.1)]
    exact ⟨h, rfl⟩
theorem rel_word (ht : Tail t) (h : Rel t σ τ) : wordP σ = wordP τ := by
  unfold wordP
  by_cases he : σ.e = 0
  · rw [if_pos he, if_pos (h.e.1 he), h.l he, (tail_stop ht (by decide) σ.l).1]
  · rw [if_neg he, if_neg (h.dead he)]
theorem rel_ite {c c' : Prop} [Decidable c] [Decidable c'] {x y x' y' : PS} (hc : c ↔ c') (h1 : c → Rel t x x') (h2 : ¬ c → Rel t y y') : Rel t (if c then x else y) (if c' then x' else y') := by
  by_cases h : c
  · rw [if_pos h, if_pos (hc.1 h)]; exact h1 h
  · rw [if_neg h, if_neg (fun x => h (hc.2 x))]; exact h2 h
theorem rel_knum (f : Int) (ht : Tail t) (h : Rel t σ τ) : Rel t (knumP N f σ).1 (knumP M f τ).1 ∧ (knumP N f σ).2 = (knumP M f τ).2 := by
  obtain ⟨h1, h2⟩ := rel_num (N := N) (M := M) (digs f) ht h
  unfold knumP
  dsimp only
  rw [← h2]
  split
  · exact ⟨rel_fail _ _ _ _ (by decide) (by decide), rfl⟩
  · exact ⟨h1, rfl⟩
theorem peek_dot (ht : Tail t) (h : Rel t σ τ) : peekP σ = 46 ↔ peekP τ = 46 := by
  unfold peekP
  by_cases he : σ.e = 0
  · rw [if_pos he, if_pos (h.e.1 he), h.l he]
    cases σ.l with
    | nil =>
      rcases ht with rfl | ⟨u, rfl⟩
      · exact Iff.rfl
      · simp [pPeek]
    | cons c l => exact Iff.rfl
  · rw [if_neg he, if_neg (h.dead he)]
theorem rel_sub (f : Int) (ht : Tail t) (h : Rel t σ τ) : Rel t (subP N f σ) (subP M f τ) := by
  unfold subP
  by_cases he : σ.e = 0
  · refine rel_ite ?_ (fun _ => rel_fail _ _ _ _ (by decide) (by decide)) (fun _ => h)
    rw [h.l he, pre_tail ht (by decide), peek_dot ht h]
  · have hd := h.dead he
    have p0 : peekP σ = 0 := by unfold peekP; rw [if_neg he]
    have p1 : peekP τ = 0 := by unfold peekP; rw [if_neg hd]
    rw [if_neg (fun x => by rw [p0] at x; exact absurd x.2.1 (by decide)), if_neg (fun x => by rw [p1] at x; exact absurd x.2.1 (by decide))]
    exact h
theorem rel_khead (f : Int) (ht : Tail t) (h : Rel t σ τ) : Rel t (kheadP N f σ).1 (kheadP M f τ).1 ∧ (kheadP N f σ).2 = (kheadP M f τ).2 := by
  obtain ⟨h1, h2⟩ := rel_knum (N := N) (M := M) f ht h
  have h3 := rel_sub (N := N) (M := M) f ht h1
  obtain ⟨h4, h5⟩ := rel_text (x := dots) ht (by decide) h3
  unfold kheadP
  dsimp only
  rw [← h5, ← h2]
  obtain ⟨h6, h7⟩ := rel_knum (N := N) (M := M) f ht h4
  rw [← h7]
  split
  · refine ⟨rel_sub f ht ?_, rfl⟩
    exact rel_ite Iff.rfl (fun _ => rel_fail _ _ _ _ (by decide) (by decide)) (fun _ => h6)
  · exact ⟨h4, rfl⟩
theorem rel_kitem (f : Int) (ht : Tail t) (h : Rel t σ τ) : Rel t (kitemP N f σ).1 (kitemP M f τ).1 ∧ (kitemP N f σ).2 = (kitemP M f τ).2 := by
  obtain ⟨h1, h2⟩ := rel_khead (N := N) (M := M) f ht h
  obtain ⟨h3, h4⟩ := rel_is (cs := [47]) ht (by decide) h1
  obtain ⟨h5, h6⟩ := rel_num (N := N) (M := M) 3 ht h3
  unfold kitemP
  dsimp only
  rw [← h4, ← h2, ← h6]
  split
  · exact ⟨rel_ite Iff.rfl (fun _ => rel_fail _ _ _ _ (by decide) (by decide)) (fun _ => h5), rfl⟩
  · exact ⟨h3, rfl⟩
theorem rel_klist {one one' : PS → PS × It} (ht : Tail t) (hone : ∀ σ τ, Rel t σ τ → Rel t (one σ).1 (one' τ).1 ∧ (one σ).2 = (one' τ).2) : ∀ (q : Nat) (σ τ : PS), Rel t σ τ → Rel t (klistP N one q σ).1 (klistP M one' q τ).1 ∧ (klistP N one q σ).2 = (klistP M one' q τ).2
  | 0, σ, τ, h => by
    obtain ⟨h1, h2⟩ := hone σ τ h
    obtain ⟨h3, h4⟩ := rel_is (cs := [44]) ht (by decide) h1
    unfold klistP
    rw [← h4, ← h2]
    exact ⟨rel_ite Iff.rfl (fun _ => rel_fail _ _ _ _ (by decide) (by decide)) (fun _ => h3), rfl⟩
  | q + 1, σ, τ, h => by
    obtain ⟨h1, h2⟩ := hone σ τ h
    obtain ⟨h3, h4⟩ := rel_is (cs := [44]) ht (by decide) h1
    obtain ⟨h5, h6⟩ := rel_klist ht hone q _ _ h3
    unfold klistP
    rw [← h4, ← h2]
    split
    · exact ⟨h5, by rw [h6]⟩
    · exact ⟨h3, rfl⟩
theorem rel_kfield (f : Int) (ht : Tail t) (h : Rel t σ τ) : Rel t (kfieldP N f σ).1 (kfieldP M f τ).1 ∧ (kfieldP N f σ).2 = (kfieldP M f τ).2 := by
  obtain ⟨h1, h2⟩ := rel_is (cs := [42]) ht (by decide) h
  obtain ⟨h3, h4⟩ := rel_klist (N := N) (M := M) ht (fun σ τ h => rel_kitem (N := N) (M := M) f ht h) (kMost f - 1) _ _ h1
  unfold kfieldP
  rw [← h2]
  split
  · exact ⟨h1, rfl⟩
  · exact ⟨h3, h4⟩
theorem rel_kdate {c : CalV} (ht : Tail t) (h : Rel t σ τ) : Rel t (kdateP N c σ).1 (kdateP M c τ).1 ∧ (kdateP N c σ).2 = (kdateP M c τ).2 := by
  have hw := rel_word ht h
  obtain ⟨y1, y2⟩ := rel_kfield (N := N) (M := M) 1 ht h
  obtain ⟨y3, _⟩ := rel_must (N := N) (M := M) (cs := [45]) ht (by decide) y1
  unfold kdateP
  dsimp only
  rw [← hw]
  split
  · obtain ⟨h1, h2⟩ := rel_kfield (N := N) (M := M) 2 ht y3
    obtain ⟨h3, h4⟩ := rel_must (N := N) (M := M) (cs := [45, 126]) ht (by decide) h1
    obtain ⟨h5, h6⟩ := rel_kfield (N := N) (M := M) 3 ht h3
    dsimp only
    exact ⟨h5, by rw [y2, h2, h4, h6]⟩
  · obtain ⟨h1, h2⟩ := rel_kfield (N := N) (M := M) 2 ht h
    obtain ⟨h3, h4⟩ := rel_must (N := N) (M := M) (cs := [45, 126]) ht (by decide) h1
    obtain ⟨h5, h6⟩ := rel_kfield (N := N) (M := M) 3 ht h3
    dsimp only
    exact ⟨h5, by rw [h2, h4, h6]⟩
theorem rel_ktime {c d : CalV} (ht : Tail t) (h : Rel t σ τ) : Rel t (ktimeP N c σ).1 (ktimeP M d τ).1 ∧ (ktimeP N c σ).2.hour = (ktimeP M d τ).2.hour ∧ (ktimeP N c σ).2.minute = (ktimeP M d τ).2.minute ∧ (c.second = d.second → (ktimeP N c σ).2.second = (ktimeP M d τ).2.second) := by
  obtain ⟨h1, h2⟩ := rel_kfield (N := N) (M := M) 4 ht h
  obtain ⟨h3, _⟩ := rel_must (N := N) (M := M) (cs := [58]) ht (by decide) h1
  obtain ⟨h4, h5⟩ := rel_kfield (N := N) (M := M) 5 ht h3
  obtain ⟨h6, h7⟩ := rel_is (cs := [58]) ht (by decide) h4
  obtain ⟨h8, h9⟩ := rel_kfield (N := N) (M := M) 6 ht h6
  unfold ktimeP
  dsimp only
  rw [← h7]
  split
  · exact ⟨h8, h2, h5, fun _ => h9⟩
  · exact ⟨h6, h2, h5, fun x => x⟩
end

theorem knick_low {l : List UInt8} (h : ∀ c ∈ l, c.toNat < 65) : knick l = [] := by
  have hn : knicks.find? (fun p => decide (lowerL l = p.1)) = none := by
    rw [List.find?_eq_none]
    intro p hp hq
    have hq' : lowerL l = p.1 := of_decide_eq_true hq
    have hx : ∃ x ∈ p.1, 97 ≤ x.toNat := by
      simp only [knicks, List.mem_cons, List.not_mem_nil, or_false] at hp
      rcases hp with rfl | rfl | rfl | rfl | rfl | rfl | rfl | rfl | rfl
      all_goals exact ⟨_, List.mem_cons_self, by decide⟩
    obtain ⟨x, hx, h97⟩ := hx
    rw [← hq'] at hx
    unfold lowerL at hx
    obtain ⟨c, hc, rfl⟩ := List.mem_map.1 hx
    have := h c hc
    unfold lowerB at h97
    rw [if_neg (by omega)] at h97
    omega
  unfold knick
  rw [hn]
theorem peek_low {l : List UInt8} {a : Int} (h : ∀ c ∈ l, c.toNat < 65) : ltrI (peekP ⟨l, a, 0⟩) = false := by
  unfold peekP
  rw [if_pos rfl]
  cases l with
  | nil => rfl
  | cons c l =>
    have := h c (by simp)
    show decide ((97 ≤ (c.toNat : Int) ∧ (c.toNat : Int) ≤ 122) ∨ (65 ≤ (c.toNat : Int) ∧ (c.toNat : Int) ≤ 90)) = false
    exact decide_eq_false (by omega)
theorem word_all {l : List UInt8} {a : Int} (h : ∀ c ∈ l, c ≠ 32) : wordP ⟨l, a, 0⟩ = l := by
  unfold wordP
  rw [if_pos rfl]
  show l.takeWhile _ = l
  induction l with
  | nil => rfl
  | cons c l ih =>
    rw [List.takeWhile_cons, if_pos (by simpa using h c (by simp)), ih (fun c hc => h c (List.mem_cons_of_mem _ hc))]
theorem stop_dead (N : Nat) (σ : PS) : (kstopP N σ).e ≠ 0 := by
  unfold kstopP
  split
  · exact fail_dead_e _ _ (by decide) _
  · split
    · exact fail_dead_e _ _ (by decide) _
    · exact fail_dead_e _ _ (by decide) _
theorem kwords_dead (N q : Nat) (date time : Bool) (c : CalV) (σ : PS) (h : σ.e ≠ 0) : (kwordsP N q date time c σ).1.e ≠ 0 := by
  cases q with
  | zero => exact stop_dead N σ
  | succ q =>
    unfold kwordsP
    have : peekP σ = 0 := by unfold peekP; rw [if_neg h]
    rw [if_pos (.inl this)]
    exact stop_dead N σ
/-- The bytes that are left of a text are of it. -/
def Sub (l : List UInt8) (σ : PS) : Prop := ∀ c ∈ σ.l, c ∈ l
section
variable {l : List UInt8} {σ : PS} {N : Nat}
theorem sub_fail (p q : Int) (h : Sub l σ) : Sub l (failP p q σ) := by
  unfold failP; split <;> exact h
theorem sub_is (cs : List UInt8) (h : Sub l σ) : Sub l (isP cs σ).1 := by
  unfold isP
  split
  · split
    · rename_i r hr
      obtain ⟨c, hc, _⟩ := pIs_some hr
      intro x hx
      exact h x (by rw [hc]; exact List.mem_cons_of_mem _ hx)
    · exact h
  · exact h
theorem sub_must (cs : List UInt8) (h : Sub l σ) : Sub l (mustP N cs σ).1 := by
  unfold mustP
  split
  · exact sub_is cs h
  · exact sub_fail _ _ h
theorem sub_num (m : Nat) (h : Sub l σ) : Sub l (numP N m σ).1 := by
  unfold numP
  split
  · split
    · intro x hx; exact h x ((List.dropWhile_suffix _).mem hx)
    · exact h
  · exact h
theorem sub_text (x : List UInt8) (h : Sub l σ) : Sub l (textP x σ).1 := by
  unfold textP
  split
  · intro y hy; exact h y (List.mem_of_mem_drop hy)
  · exact h
theorem sub_ite {c : Prop} [Decidable c] {x y : PS} (h1 : Sub l x) (h2 : Sub l y) : Sub l (if c then x else y) := by split <;> assumption
theorem sub_knum (f : Int) (h : Sub l σ) : Sub l (knumP N f σ).1 := by
  unfold knumP
  dsimp only
  split
  · exact sub_fail _ _ (sub_num _ h)
  · exact sub_num _ h
theorem sub_sub (f : Int) (h : Sub l σ) : Sub l (subP N f σ) := sub_ite (sub_fail _ _ h) h
theorem sub_kitem (f : Int) (h : Sub l σ) : Sub l (kitemP N f σ).1 := by
  have h1 : Sub l (kheadP N f σ).1 := by
    unfold kheadP
    dsimp only
    have h2 := sub_text dots (sub_sub (N := N) f (sub_knum (N := N) f h))
    split
    · exact sub_sub _ (sub_ite (sub_fail _ _ (sub_knum f h2)) (sub_knum f h2))
    · exact h2
  unfold kitemP
  dsimp only
  split
  · exact sub_ite (sub_fail _ _ (sub_num _ (sub_is _ h1))) (sub_num _ (sub_is _ h1))
  · exact sub_is _ h1
theorem sub_klist {one : PS → PS × It} (hone : ∀ σ, Sub l σ → Sub l (one σ).1) : ∀ (q : Nat) (σ : PS), Sub l σ → Sub l (klistP N one q σ).1
  | 0, σ, h => by
    unfold klistP
    exact sub_ite (sub_fail _ _ (sub_is _ (hone σ h))) (sub_is _ (hone σ h))
  | q + 1, σ, h => by
    unfold klistP
    split
    · exact sub_klist hone q _ (sub_is _ (hone σ h))
    · exact sub_is _ (hone σ h)
theorem sub_kfield (f : Int) (h : Sub l σ) : Sub l (kfieldP N f σ).1 := by
  unfold kfieldP
  split
  · exact sub_is _ h
  · exact sub_klist (fun σ h => sub_kitem f h) _ _ (sub_is _ h)
theorem sub_kdate {c : CalV} (h : Sub l σ) : Sub l (kdateP N c σ).1 := by
  unfold kdateP
  dsimp only
  refine sub_kfield _ (sub_must _ (sub_kfield _ ?_))
  split
  · exact sub_must _ (sub_kfield _ h)
  · exact h
theorem sub_ktime {c : CalV} (h : Sub l σ) : Sub l (ktimeP N c σ).1 := by
  unfold ktimeP
  dsimp only
  split
  · exact sub_kfield _ (sub_is _ (sub_kfield _ (sub_must _ (sub_kfield _ h))))
  · exact sub_is _ (sub_kfield _ (sub_must _ (sub_kfield _ h)))
end
/-- A blank that must be there is not. -/
theorem blank_none {σ : PS} {N : Nat} (h : ∀ c ∈ σ.l, c ≠ 32) : (mustP N [32] σ).1.e ≠ 0 := by
  have hno : (isP [32] σ).2 = false := by
    unfold isP
    split
    · cases hl : σ.l with
      | nil => rfl
      | cons c l =>
        have := h c (by rw [hl]; simp)
        have hn : [32].elem c = false := by simpa using this
        simp only [pIs, hn]; rfl
    · rfl
  unfold mustP
  rw [hno]
  exact fail_dead_e _ _ (pLack_ne _) _
def sFirst : List UInt8 := [48, 48, 58, 48, 48, 58, 48, 48]
/-- What is read of two texts is the same event, or of both it is none. -/
def Alike (x y : Except (Int × Int) CalV) : Prop := (∃ c, x = .ok c ∧ y = .ok c) ∨ ∃ e f, x = .error e ∧ y = .error f
/-- What comes of a reading. -/
def outK (r : PS × CalV) : Except (Int × Int) CalV := if r.1.e = 0 then .ok (kfill r.2) else .error (r.1.a, r.1.e)
theorem alike_of {r q : PS × CalV} (h : r.1.e = 0 ↔ q.1.e = 0) (hc : r.1.e = 0 → kfill r.2 = kfill q.2) : Alike (outK r) (outK q) := by
  unfold outK
  by_cases he : r.1.e = 0
  · rw [if_pos he, if_pos (h.1 he), hc he]; exact .inl ⟨_, rfl, rfl⟩
  · rw [if_neg he, if_neg (fun z => he (h.2 z))]; exact .inr ⟨_, _, rfl, rfl⟩
theorem alike_bad {r q : PS × CalV} (h : r.1.e ≠ 0) (g : q.1.e ≠ 0) : Alike (outK r) (outK q) := alike_of ⟨fun x => absurd x h, fun x => absurd x g⟩ (fun x => absurd x h)
theorem kread_plain {l : List UInt8} (h : knick l = []) (h8 : l.length ≤ 8192) : kread l = outK (kallP l.length ⟨l, 0, 0⟩) := by
  have h9 : kpsNew l = ⟨l, 0, 0⟩ := by
    unfold kpsNew
    rw [if_neg (show ¬ 8192 < l.length by omega), if_neg (show ¬ 8192 < l.length by omega)]
  unfold kread outK
  rw [if_pos h]
  dsimp only
  rw [h9]
theorem kall_low {l : List UInt8} (N : Nat) (h : ∀ c ∈ l, c.toNat < 65) : kallP N ⟨l, 0, 0⟩ = kwordsP N 2 false false calNil ⟨l, 0, 0⟩ := by
  unfold kallP
  rw [peek_low h, if_neg (by decide)]
theorem kwords_stop {N q : Nat} {date time : Bool} {c : CalV} {σ : PS} (h : peekP σ = 0) : kwordsP N (q + 1) date time c σ = (kstopP N σ, c) := by
  rw [kwordsP, if_pos (.inl h)]
theorem kwords_date {N q : Nat} {c : CalV} {σ : PS} (h : peekP σ ≠ 0) (hl : ltrI (peekP σ) = false) (hd : dashed (wordP σ) = true) : kwordsP N (q + 1) false false c σ =
    if (knextP N (kdateP N c σ).1).2 then kwordsP N q true false (kdateP N c σ).2 (knextP N (kdateP N c σ).1).1 else ((knextP N (kdateP N c σ).1).1, (kdateP N c σ).2) := by
  rw [kwordsP, if_neg, if_pos hd]
  rintro (x | x | x | x)
  · exact h x
  · rw [hl] at x; cases x
  · cases x
  · cases x.1
theorem kwords_time {N q : Nat} {date : Bool} {c : CalV} {σ : PS} (h : peekP σ ≠ 0) (hl : ltrI (peekP σ) = false) (hd : dashed (wordP σ) = false) : kwordsP N (q + 1) date false c σ =
    if (knextP N (ktimeP N c σ).1).2 then kwordsP N q date true (ktimeP N c σ).2 (knextP N (ktimeP N c σ).1).1 else ((knextP N (ktimeP N c σ).1).1, (ktimeP N c σ).2) := by
  rw [kwordsP, if_neg, if_neg (by rw [hd]; decide)]
  rintro (x | x | x | x)
  · exact h x
  · rw [hl] at x; cases x
  · cases x
  · rw [hd] at x; cases x.2
theorem next_done {N : Nat} {σ : PS} (h : σ.e ≠ 0 ∨ σ.l = []) : knextP N σ = (σ, false) := by unfold knextP doneP; rw [decide_eq_true h]; rfl
theorem next_must {N : Nat} {σ : PS} (h : σ.e = 0) (hl : σ.l ≠ []) : knextP N σ = ((mustP N [32] σ).1, true) := by unfold knextP doneP; rw [decide_eq_false (fun x => x.elim (fun x => x h) hl)]; rfl
def calNoon (c : CalV) : CalV := { c with hour := [⟨1, 0, 0, 0⟩], minute := [⟨1, 0, 0, 0⟩], second := [⟨1, 0, 0, 0⟩] }
theorem time_zero (N : Nat) (c : CalV) (a : Int) : ktimeP N c ⟨sFirst, a, 0⟩ = (⟨[], a, 0⟩, calNoon c) := by
  kernel_rfl
theorem fills_date {l : List UInt8} (h32 : ∀ c ∈ l, c ≠ 32) (h65 : ∀ c ∈ l, c.toNat < 65) (hd : 45 ∈ l) (h8 : l.length ≤ 3000) : Alike (kread l) (kread (l ++ 32 :: sFirst)) := by
  have h65' : ∀ c ∈ l ++ 32 :: sFirst, c.toNat < 65 := by
    intro c hc
    rcases List.mem_append.1 hc with h | h
    · exact h65 c h
    · exact (show ∀ c ∈ 32 :: sFirst, c.toNat < 65 by decide) c h
  have hlen : sFirst.length = 8 := rfl
  rw [kread_plain (knick_low h65) (by omega), kread_plain (knick_low h65') (by simp; omega)]
  generalize (l ++ 32 :: sFirst).length = M
  generalize l.length = N
  have ht : Tail (32 :: sFirst) := .inr ⟨_, rfl⟩
  have h0 : Rel (32 :: sFirst) ⟨l, 0, 0⟩ ⟨l ++ 32 :: sFirst, 0, 0⟩ := ⟨Iff.rfl, fun _ => rfl⟩
  have hw : wordP ⟨l, 0, 0⟩ = l := word_all h32
  have hw' := rel_word ht h0
  have hdash : dashed l = true := by
    unfold dashed
    rw [List.any_eq_true]
    exact ⟨45, hd, by decide⟩
  have hpk : peekP ⟨l, 0, 0⟩ = peekP ⟨l ++ 32 :: sFirst, 0, 0⟩ := by
    unfold peekP
    rw [if_pos rfl, if_pos rfl]
    cases l with
    | nil => cases hd
    | cons c l => rfl
  rw [kall_low N h65, kall_low M h65']
  by_cases hz : peekP ⟨l, 0, 0⟩ = 0
  · rw [kwords_stop hz, kwords_stop (hpk ▸ hz)]
    exact alike_bad (stop_dead _ _) (stop_dead _ _)
  · rw [kwords_date hz (peek_low h65) (by rw [hw]; exact hdash), kwords_date (hpk ▸ hz) (peek_low h65') (by rw [← hw', hw]; exact hdash)]
    obtain ⟨h1, h2⟩ := rel_kdate (N := N) (M := M) (c := calNil) ht h0
    have hs := sub_kdate (N := N) (c := calNil) (l := l) (σ := ⟨l, 0, 0⟩) (fun c hc => hc)
    have hcal : (kdateP N calNil ⟨l, 0, 0⟩).2.hour = [] ∧ (kdateP N calNil ⟨l, 0, 0⟩).2.minute = [] ∧ (kdateP N calNil ⟨l, 0, 0⟩).2.second = [] := by
      unfold kdateP
      dsimp only
      split <;> exact ⟨rfl, rfl, rfl⟩
    generalize kdateP N calNil ⟨l, 0, 0⟩ = d at *
    generalize kdateP M calNil ⟨l ++ 32 :: sFirst, 0, 0⟩ = d' at *
    obtain ⟨x, c⟩ := d
    obtain ⟨y, c'⟩ := d'
    dsimp only at *
    subst h2
    by_cases he : x.e = 0
    · have he' := h1.e.1 he
      have hl := h1.l he
      by_cases hx : x.l = []
      · rw [next_done (N := N) (.inr hx), if_neg Bool.false_ne_true]
        have hl2 : y.l = 32 :: sFirst := by rw [hl, hx]; rfl
        obtain ⟨yl, ya, ye⟩ := y
        dsimp only at he' hl2
        subst he' hl2
        have hn2 : knextP M ⟨32 :: sFirst, ya, 0⟩ = (⟨sFirst, ya, 0⟩, true) := rfl
        have hk : kwordsP M 1 true false c ⟨sFirst, ya, 0⟩ = (⟨[], ya, 0⟩, calNoon c) := by
          have hp3 : peekP ⟨sFirst, ya, 0⟩ = 48 := rfl
          have hw3 : wordP ⟨sFirst, ya, 0⟩ = sFirst := rfl
          rw [kwords_time (by rw [hp3]; decide) (by rw [hp3]; decide) (by rw [hw3]; decide), time_zero, next_done (.inr rfl)]
          rfl
        rw [hn2, if_pos rfl, hk]
        refine alike_of ⟨fun _ => rfl, fun _ => he⟩ (fun _ => ?_)
        unfold kfill calNoon
        dsimp only
        rw [hcal.1, hcal.2.1, hcal.2.2]
        rfl
      · have hb1 : (mustP N [32] x).1.e ≠ 0 := blank_none (fun c hc => h32 c (hs c hc))
        have hb2 : (mustP M [32] y).1.e ≠ 0 := by
          unfold mustP
          have : (isP [32] y).2 = false := by
            unfold isP
            rw [if_pos he', hl]
            cases hxl : x.l with
            | nil => exact absurd hxl hx
            | cons c0 l0 =>
              have hc0 := h32 c0 (hs c0 (by rw [hxl]; simp))
              have hn : [32].elem c0 = false := by simpa using hc0
              rw [List.cons_append, pIs_cons, hn]; rfl
          rw [this]
          exact fail_dead_e _ _ (pLack_ne _) _
        rw [next_must he hx, next_must he' (by rw [hl]; simp [hx]), if_pos rfl, if_pos rfl]
        exact alike_bad (kwords_dead N 1 true false c _ hb1) (kwords_dead M 1 true false c _ hb2)
    · have he' := h1.dead he
      rw [next_done (.inl he), next_done (.inl he'), if_neg Bool.false_ne_true, if_neg Bool.false_ne_true]
      exact alike_bad he he'
def sDates : List UInt8 := [42, 45, 42, 45, 42, 32]
def calDates : CalV := ⟨[], [⟨0, 0, 0, 1⟩], [⟨0, 0, 0, 1⟩], [⟨0, 0, 0, 1⟩], false, [], [], []⟩
theorem date_star (N : Nat) (l : List UInt8) : kdateP N calNil ⟨sDates ++ l, 0, 0⟩ = (⟨32 :: l, 0, 0⟩, calDates) := by
  have hw : wordP ⟨sDates ++ l, 0, 0⟩ = [42, 45, 42, 45, 42] := rfl
  unfold kdateP
  rw [hw, if_pos (by decide)]
  rfl
theorem fills_time {l : List UInt8} (h32 : ∀ c ∈ l, c ≠ 32) (h65 : ∀ c ∈ l, c.toNat < 65) (hd : 45 ∉ l) (h8 : l.length ≤ 3000) : Alike (kread l) (kread (sDates ++ l)) := by
  have h65' : ∀ c ∈ sDates ++ l, c.toNat < 65 := by
    intro c hc
    rcases List.mem_append.1 hc with h | h
    · exact (show ∀ c ∈ sDates, c.toNat < 65 by decide) c h
    · exact h65 c h
  have hlen : sDates.length = 6 := rfl
  rw [kread_plain (knick_low h65) (by omega), kread_plain (knick_low h65') (by simp; omega)]
  generalize (sDates ++ l).length = M
  generalize l.length = N
  have ht : Tail [] := .inl rfl
  have h0 : Rel [] ⟨l, 0, 0⟩ ⟨l, 0, 0⟩ := ⟨Iff.rfl, fun _ => by simp⟩
  have hw : wordP ⟨l, 0, 0⟩ = l := word_all h32
  have hdash : dashed l = false := by
    unfold dashed
    rw [List.any_eq_false]
    intro c hc
    have h1 : c ≠ 45 := fun e => hd (e ▸ hc)
    have h2 : c ≠ 126 := by
      rintro rfl
      exact absurd (h65 _ hc) (by decide)
    simp [h1, h2]
  have hw2 : wordP ⟨sDates ++ l, 0, 0⟩ = [42, 45, 42, 45, 42] := rfl
  have hp2 : peekP ⟨sDates ++ l, 0, 0⟩ = 42 := rfl
  have hn2 : knextP M ⟨32 :: l, 0, 0⟩ = (⟨l, 0, 0⟩, true) := rfl
  rw [kall_low N h65, kall_low M h65', kwords_date (σ := ⟨sDates ++ l, 0, 0⟩) (by rw [hp2]; decide) (by rw [hp2]; decide) (by rw [hw2]; decide), date_star, hn2, if_pos rfl]
  by_cases hz : peekP ⟨l, 0, 0⟩ = 0
  · rw [kwords_stop hz, kwords_stop hz]
    exact alike_bad (stop_dead _ _) (stop_dead _ _)
  · rw [kwords_time hz (peek_low h65) (by rw [hw]; exact hdash), kwords_time hz (peek_low h65) (by rw [hw]; exact hdash)]
    obtain ⟨h1, h2, h3, h4⟩ := rel_ktime (N := N) (M := M) (c := calNil) (d := calDates) ht h0
    have hs := sub_ktime (N := N) (c := calNil) (l := l) (σ := ⟨l, 0, 0⟩) (fun c hc => hc)
    have hsame : ∀ (K : Nat) (c : CalV) (σ : PS), (ktimeP K c σ).2.week = c.week ∧ (ktimeP K c σ).2.year = c.year ∧ (ktimeP K c σ).2.month = c.month ∧ (ktimeP K c σ).2.day = c.day ∧ (ktimeP K c σ).2.back = c.back := by
      intro K c σ
      unfold ktimeP
      dsimp only
      split <;> exact ⟨rfl, rfl, rfl, rfl, rfl⟩
    have s1 := hsame N calNil ⟨l, 0, 0⟩
    have s2 := hsame M calDates ⟨l, 0, 0⟩
    have h4 := h4 rfl
    generalize ktimeP N calNil ⟨l, 0, 0⟩ = d at *
    generalize ktimeP M calDates ⟨l, 0, 0⟩ = d' at *
    obtain ⟨x, c⟩ := d
    obtain ⟨y, c'⟩ := d'
    dsimp only at *
    have hfill : kfill c = kfill c' := by
      unfold kfill
      rw [h2, h3, h4, s1.1, s1.2.1, s1.2.2.1, s1.2.2.2.1, s1.2.2.2.2, s2.1, s2.2.1, s2.2.2.1, s2.2.2.2.1, s2.2.2.2.2]
      rfl
    by_cases he : x.e = 0
    · have he' := h1.e.1 he
      have hl : y.l = x.l := by rw [h1.l he, List.append_nil]
      by_cases hx : x.l = []
      · rw [next_done (.inr hx), next_done (.inr (hl.trans hx)), if_neg Bool.false_ne_true, if_neg Bool.false_ne_true]
        exact alike_of h1.e (fun _ => hfill)
      · have hb1 : (mustP N [32] x).1.e ≠ 0 := blank_none (fun c hc => h32 c (hs c hc))
        have hb2 : (mustP M [32] y).1.e ≠ 0 := blank_none (fun c hc => h32 c (hs c (hl ▸ hc)))
        rw [next_must he hx, next_must he' (by rw [hl]; exact hx), if_pos rfl, if_pos rfl]
        exact alike_bad (kwords_dead N 1 false true c _ hb1) (kwords_dead M 0 true true c' _ hb2)
    · have he' := h1.dead he
      rw [next_done (.inl he), next_done (.inl he'), if_neg Bool.false_ne_true, if_neg Bool.false_ne_true]
      exact alike_bad he he'
end Go.Proofs.Ythkleinjddkhoaa
