/- Blanks ahead, between and behind mean nothing: plain. -/
import Derived.Test.YtgliminiiciflaaDoorRBack
namespace Go.Proofs.YtgliminiiciflaaDoor
open Go.RowKit
set_option linter.unusedSimpArgs false
set_option linter.unusedVariables false

/-- A text with k tabs more behind each blank. -/
def widen (k : Nat) (l : List UInt8) : List UInt8 := l.flatMap fun c => if blankP c then c :: List.replicate k 9 else [c]
theorem widen_cons (k : Nat) (c : UInt8) (l : List UInt8) : widen k (c :: l) = (if blankP c then c :: List.replicate k 9 else [c]) ++ widen k l := by simp [widen]
section
variable {k : Nat} {post : List UInt8}
/-- The text, widened, and blanks behind. -/
def wid (k : Nat) (post l : List UInt8) : List UInt8 := widen k l ++ post
theorem wid_cons_no {c : UInt8} {l : List UInt8} (h : blankP c = false) : wid k post (c :: l) = c :: wid k post l := by simp [wid, widen_cons, h]
theorem wid_cons_yes {c : UInt8} {l : List UInt8} (h : blankP c = true) : wid k post (c :: l) = c :: (List.replicate k 9 ++ wid k post l) := by simp [wid, widen_cons, h]
/-- Blanks are none of these. -/
def NoBl (p : UInt8 → Bool) : Prop := ∀ c, blankP c = true → p c = false
theorem wid_run {p : UInt8 → Bool} (hp : NoBl p) (hpost : ∀ c ∈ post, blankP c = true) (l : List UInt8) : (wid k post l).takeWhile p = l.takeWhile p ∧ (wid k post l).dropWhile p = wid k post (l.dropWhile p) ∧ headB p (wid k post l) = headB p l := by
  induction l with
  | nil =>
    cases hq : post with
    | nil => simp [wid, widen, headB]
    | cons c m =>
      have := hp c (hpost c (by rw [hq]; simp))
      simp [wid, widen, headB, this]
  | cons c l ih =>
    by_cases h : blankP c = true
    · have h2 := hp c h
      rw [wid_cons_yes h]
      simp [h2, headB, wid_cons_yes h]
    · rw [Bool.not_eq_true] at h
      rw [wid_cons_no h]
      cases h2 : p c with
      | true => simp [h2, headB, ih.1, ih.2.1]
      | false => simp [h2, headB, wid_cons_no h]
theorem wid_is {cs : List UInt8} (hcs : ∀ c, blankP c = true → cs.elem c = false) (hpost : ∀ c ∈ post, blankP c = true) (l : List UInt8) : pIs cs (wid k post l) = (pIs cs l).map (wid k post) := by
  cases l with
  | nil =>
    cases hq : post with
    | nil => simp [wid, widen, pIs]
    | cons c m =>
      have := hcs c (hpost c (by rw [hq]; simp))
      simp only [wid, widen, List.flatMap_nil, List.nil_append, pIs, this]
      rfl
  | cons c l =>
    by_cases h : blankP c = true
    · have h2 := hcs c h
      rw [wid_cons_yes h]
      simp only [pIs, h2]
      rfl
    · rw [Bool.not_eq_true] at h
      rw [wid_cons_no h]
      cases h2 : cs.elem c with
      | true => simp only [pIs, h2, if_true]; rfl
      | false => simp only [pIs, h2]; rfl
/-- The same is read of both, and what is left of the one is what is left of the other, widened; or something is wrong with both. -/
def Sim {α : Type} (k : Nat) (post : List UInt8) (p p' : PR α) : Prop := match p, p' with
  | .ok (x, r), .ok (y, r') => x = y ∧ r' = wid k post r
  | .error _, .error _ => True
  | _, _ => False
theorem Sim.ok {α : Type} (x : α) (r : List UInt8) : Sim k post (.ok (x, r)) (.ok (x, wid k post r)) := ⟨rfl, rfl⟩
theorem Sim.err {α : Type} (e e' : Nat × Int) : Sim (α := α) k post (.error e) (.error e') := trivial
theorem Sim.cases {α : Type} {p p' : PR α} (h : Sim k post p p') : (∃ x r, p = .ok (x, r) ∧ p' = .ok (x, wid k post r)) ∨ ∃ e e', p = .error e ∧ p' = .error e' := by
  unfold Sim at h
  split at h
  · obtain ⟨rfl, rfl⟩ := h; exact .inl ⟨_, _, rfl, rfl⟩
  · exact .inr ⟨_, _, rfl, rfl⟩
  · exact h.elim
theorem nobl_digit : NoBl digitP := by
  intro c h
  simp only [blankP, decide_eq_true_eq] at h
  rcases h with rfl | rfl <;> rfl
theorem nobl_letter : NoBl letterP := by
  intro c h
  simp only [blankP, decide_eq_true_eq] at h
  rcases h with rfl | rfl <;> rfl
theorem nobl_one (d : UInt8) (hd : blankP d = false) : ∀ c, blankP c = true → [d].elem c = false := by
  intro c h
  have : c ≠ d := by rintro rfl; rw [h] at hd; cases hd
  simpa using this
variable (hpost : ∀ c ∈ post, blankP c = true)
include hpost
theorem wid_num (most : Nat) (l : List UInt8) : Sim k post (pNum most l) (pNum most (wid k post l)) := by
  obtain ⟨h1, h2, h3⟩ := wid_run (k := k) nobl_digit hpost l
  unfold pNum
  rw [h1, h2]
  split
  · exact .err _ _
  · split
    · exact .err _ _
    · exact .ok _ _
theorem wid_cNum (f : Nat) (l : List UInt8) : Sim k post (cNum f l) (cNum f (wid k post l)) := by
  obtain ⟨h1, h2, h3⟩ := wid_run (k := k) nobl_letter hpost l
  unfold cNum
  rw [h1, h2, h3]
  split
  · split
    · exact .err _ _
    · exact .ok _ _
  · rcases (wid_num (k := k) hpost 2 l).cases with ⟨x, r, e, e'⟩ | ⟨x, y, e, e'⟩
    · rw [e, e']
      dsimp only
      split
      · exact .err _ _
      · exact .ok _ _
    · rw [e, e']; exact .err _ _
theorem wid_cStep (l : List UInt8) : Sim k post (cStep l) (cStep (wid k post l)) := by
  unfold cStep
  rcases (wid_num (k := k) hpost 3 l).cases with ⟨x, r, e, e'⟩ | ⟨x, y, e, e'⟩
  · rw [e, e']
    dsimp only
    split
    · exact .err _ _
    · exact .ok _ _
  · rw [e, e']; exact .err _ _
theorem wid_cBy (i : It) (l : List UInt8) : Sim k post (cBy i l) (cBy i (wid k post l)) := by
  unfold cBy
  rw [wid_is (nobl_one 47 rfl) hpost]
  cases h : pIs [47] l with
  | none => exact .ok _ _
  | some l2 =>
    dsimp only [Option.map_some]
    rcases (wid_cStep (k := k) hpost l2).cases with ⟨x, r, e, e'⟩ | ⟨x, y, e, e'⟩
    · rw [e, e']; exact .ok _ _
    · rw [e, e']; exact .err _ _
theorem wid_cItem (f : Nat) (l : List UInt8) : Sim k post (cItem f l) (cItem f (wid k post l)) := by
  unfold cItem
  rw [wid_is (nobl_one 42 rfl) hpost]
  cases h : pIs [42] l with
  | some l1 => exact wid_cBy hpost _ l1
  | none =>
    dsimp only [Option.map_none]
    rcases (wid_cNum (k := k) hpost f l).cases with ⟨x, r, e, e'⟩ | ⟨x, y, e, e'⟩
    · rw [e, e']
      dsimp only
      rw [wid_is (nobl_one 45 rfl) hpost]
      cases h : pIs [45] r with
      | none => exact .ok _ _
      | some l2 =>
        dsimp only [Option.map_some]
        rcases (wid_cNum (k := k) hpost f l2).cases with ⟨x2, r2, e2, e2'⟩ | ⟨x2, y2, e2, e2'⟩
        · rw [e2, e2']
          dsimp only
          split
          · exact .err _ _
          · exact wid_cBy hpost _ r2
        · rw [e2, e2']; exact .err _ _
    · rw [e, e']; exact .err _ _
theorem wid_cItems (f q : Nat) (l : List UInt8) : Sim k post (cItems f q l) (cItems f q (wid k post l)) := by
  induction q generalizing l with
  | zero =>
    unfold cItems
    rcases (wid_cItem (k := k) hpost f l).cases with ⟨x, r, e, e'⟩ | ⟨x, y, e, e'⟩
    · rw [e, e']
      dsimp only
      rw [wid_is (nobl_one 44 rfl) hpost]
      cases h : pIs [44] r with
      | none => exact .ok _ _
      | some l2 => exact .err _ _
    · rw [e, e']; exact .err _ _
  | succ q ih =>
    unfold cItems
    rcases (wid_cItem (k := k) hpost f l).cases with ⟨x, r, e, e'⟩ | ⟨x, y, e, e'⟩
    · rw [e, e']
      dsimp only
      rw [wid_is (nobl_one 44 rfl) hpost]
      cases h : pIs [44] r with
      | none => exact .ok _ _
      | some l2 =>
        dsimp only [Option.map_some]
        rcases (ih l2).cases with ⟨x2, r2, e2, e2'⟩ | ⟨x2, y2, e2, e2'⟩
        · rw [e2, e2']; exact .ok _ _
        · rw [e2, e2']; exact .err _ _
    · rw [e, e']; exact .err _ _
theorem wid_blank (l : List UInt8) : (wid k post l).dropWhile blankP = if l.dropWhile blankP = [] then [] else wid k post (l.dropWhile blankP) := by
  have hall : ∀ m : List UInt8, (∀ c ∈ m, blankP c = true) → m.dropWhile blankP = [] := by
    intro m hm
    induction m with
    | nil => rfl
    | cons c m ih => rw [List.dropWhile_cons, if_pos (hm c (by simp))]; exact ih (fun c hc => hm c (List.mem_cons_of_mem _ hc))
  induction l with
  | nil => simp [wid, widen, hall post hpost]
  | cons c l ih =>
    by_cases h : blankP c = true
    · have htab : ∀ n, (List.replicate n (9 : UInt8) ++ wid k post l).dropWhile blankP = (wid k post l).dropWhile blankP := by
        intro n
        induction n with
        | zero => simp
        | succ n ihn =>
          rw [List.replicate_succ, List.cons_append, List.dropWhile_cons, if_pos (by decide)]; exact ihn
      rw [wid_cons_yes h, List.dropWhile_cons, if_pos h, htab, ih, List.dropWhile_cons, if_pos h]
    · rw [Bool.not_eq_true] at h
      have hn : ¬ blankP c = true := by rw [h]; simp
      rw [wid_cons_no h, List.dropWhile_cons, if_neg hn, List.dropWhile_cons, if_neg hn, if_neg (by simp), wid_cons_no h]
omit hpost in
theorem cItem_nil (f : Nat) : ∃ e, cItem f [] = .error e := by
  unfold cItem cNum
  refine ⟨(0, 2), ?_⟩
  simp [pIs, headB, pNum, pLack]
omit hpost in
theorem cFields_nil (q f : Nat) : ∃ e, cFields (q + 1) f [] = .error e := by
  unfold cFields cItems
  obtain ⟨e, h⟩ := cItem_nil f
  rw [h]
  exact ⟨_, rfl⟩
theorem wid_cFields : ∀ (q f : Nat) (l : List UInt8), Sim k post (cFields q f l) (cFields q f (wid k post l))
  | 0, f, l => .ok _ _
  | q + 1, f, l => by
    unfold cFields
    rcases (wid_cItems (k := k) hpost f 63 l).cases with ⟨x, r, e, e'⟩ | ⟨x, y, e, e'⟩
    · rw [e, e']
      dsimp only
      by_cases hq : q = 0
      · rw [if_pos hq, if_pos hq]; exact .ok _ _
      · rw [if_neg hq, if_neg hq]
        obtain ⟨p, rfl⟩ : ∃ p, q = p + 1 := ⟨q - 1, by omega⟩
        have hb := wid_blank (k := k) hpost r
        unfold cBetween
        rw [hb]
        by_cases h0 : r.dropWhile blankP = []
        · rw [if_pos h0, h0]
          obtain ⟨e1, h1⟩ := cFields_nil p (f + 1)
          by_cases h2 : r.takeWhile blankP = [] <;> by_cases h3 : (wid k post r).takeWhile blankP = [] <;> simp only [h2, h3, if_true, if_false, h1] <;> exact .err _ _
        · rw [if_neg h0]
          have htk : (wid k post r).takeWhile blankP = [] ↔ r.takeWhile blankP = [] := by
            cases r with
            | nil => simp at h0
            | cons c m =>
              by_cases h : blankP c = true
              · rw [wid_cons_yes h]; simp [h]
              · rw [Bool.not_eq_true] at h
                rw [wid_cons_no h]; simp [h]
          by_cases h2 : r.takeWhile blankP = []
          · rw [if_pos h2, if_pos (htk.2 h2)]; exact .err _ _
          · rw [if_neg h2, if_neg (fun h => h2 (htk.1 h))]
            dsimp only
            rcases (wid_cFields (p + 1) (f + 1) (r.dropWhile blankP)).cases with ⟨x2, r2, e2, e2'⟩ | ⟨x2, y2, e2, e2'⟩
            · rw [e2, e2']; exact .ok _ _
            · rw [e2, e2']; exact .err _ _
    · rw [e, e']; exact .err _ _
/-- The same is read of both, or something is wrong with both. -/
theorem wid_cTail (l : List UInt8) : (∃ x, cTail l = .ok (x, []) ∧ cTail (wid k post l) = .ok (x, [])) ∨ ∃ e e', cTail l = .error e ∧ cTail (wid k post l) = .error e' := by
  unfold cTail
  rcases (wid_cFields (k := k) hpost 5 0 l).cases with ⟨x, r, e, e'⟩ | ⟨x, y, e, e'⟩
  · rw [e, e']
    dsimp only
    rw [wid_blank (k := k) hpost]
    by_cases h0 : r.dropWhile blankP = []
    · rw [if_pos h0, h0]; exact .inl ⟨x, rfl, rfl⟩
    · rw [if_neg h0, if_neg h0, if_neg]
      · exact .inr ⟨_, _, rfl, rfl⟩
      · cases hr : r.dropWhile blankP with
        | nil => exact absurd hr h0
        | cons c m =>
          by_cases h : blankP c = true
          · rw [wid_cons_yes h]; simp
          · rw [Bool.not_eq_true] at h
            rw [wid_cons_no h]; simp
  · rw [e, e']; exact .inr ⟨_, _, rfl, rfl⟩
theorem cRead_wid (pre l : List UInt8) (hpre : ∀ c ∈ pre, blankP c = true) (hl : l.length ≤ 8192) (ht : (pre ++ wid k post l).length ≤ 8192) :
    (∃ x, cRead l = .ok (x, []) ∧ cRead (pre ++ wid k post l) = .ok (x, [])) ∨ ∃ e e', cRead l = .error e ∧ cRead (pre ++ wid k post l) = .error e' := by
  have hd : (pre ++ wid k post l).dropWhile blankP = (wid k post l).dropWhile blankP := by
    clear ht
    induction pre with
    | nil => rfl
    | cons c m ih =>
      rw [List.cons_append, List.dropWhile_cons, if_pos (hpre c (by simp))]
      exact ih (fun c hc => hpre c (List.mem_cons_of_mem _ hc))
  unfold cRead
  rw [if_neg (show ¬ 8192 < l.length by omega), if_neg (show ¬ 8192 < (pre ++ wid k post l).length by omega), hd, wid_blank (k := k) hpost]
  by_cases h0 : l.dropWhile blankP = []
  · rw [if_pos h0, h0]
    have : cTail [] = .error (0, 2) := by
      unfold cTail
      obtain ⟨e, h⟩ := cFields_nil 4 0
      have h2 : cFields 5 0 [] = .error (0, 2) := by
        unfold cFields cItems cItem cNum
        simp [pIs, headB, pNum, pLack]
      rw [h2]
    rw [if_neg (show ¬ headB (· == (64 : UInt8)) [] = true by decide), this]
    exact .inr ⟨_, _, rfl, rfl⟩
  · rw [if_neg h0]
    have hq : NoBl (· == (64 : UInt8)) := by
      intro c h
      simp only [blankP, decide_eq_true_eq] at h
      rcases h with rfl | rfl <;> rfl
    rw [(wid_run (k := k) hq hpost (l.dropWhile blankP)).2.2]
    by_cases h64 : headB (· == (64 : UInt8)) (l.dropWhile blankP) = true
    · rw [if_pos h64, if_pos h64]; exact .inr ⟨_, _, rfl, rfl⟩
    · rw [if_neg h64, if_neg h64]; exact wid_cTail hpost _
end
end Go.Proofs.YtgliminiiciflaaDoor
