/- What is read of a text is read of the text with more behind a semicolon: plain. -/
import Derived.Test.YtnelecjjbmjhaaaGreatRRuleMay
namespace Go.Proofs.YtnelecjjbmjhaaaGreat
open Go.RowKit
set_option linter.unusedSimpArgs false
set_option linter.unusedVariables false

/-- The reader with more text behind. -/
def ext (m : List UInt8) (σ : PS) : PS := ⟨σ.l ++ 59 :: m, σ.a, σ.e⟩
section
variable {N N' : Nat} {σ : PS} {m : List UInt8}
theorem ext_e : (ext m σ).e = σ.e := rfl
theorem is_ext {cs : List UInt8} (h : cs.elem 59 = false) : isP cs (ext m σ) = (ext m (isP cs σ).1, (isP cs σ).2) := by
  unfold isP
  show (if σ.e = 0 then _ else _) = _
  by_cases he : σ.e = 0
  · rw [if_pos he, if_pos he]
    show (match pIs cs (σ.l ++ 59 :: m) with | some r => _ | none => _) = _
    cases hl : σ.l with
    | nil =>
      rw [List.nil_append, pIs_cons, if_neg (by simp only [h]; decide)]
      rfl
    | cons c l =>
      rw [List.cons_append, pIs_cons, pIs_cons]
      by_cases hc : cs.elem c = true
      · rw [if_pos hc, if_pos hc]; rfl
      · rw [if_neg hc, if_neg hc]
  · rw [if_neg he, if_neg he]
theorem peek_ext (h : σ.l ≠ []) : peekP (ext m σ) = peekP σ := by
  unfold peekP
  show (if σ.e = 0 then pPeek (σ.l ++ 59 :: m) else 0) = _
  cases hl : σ.l with
  | nil => exact absurd hl h
  | cons c l => rfl
theorem lack_ne : σ.e = 0 → (lackP N σ).e ≠ 0 := by
  intro h
  unfold lackP failP
  rw [if_pos h]
  exact pLack_ne _
theorem lack_e : (lackP N σ).e ≠ 0 := by
  by_cases h : σ.e = 0
  · exact lack_ne h
  · unfold lackP failP; rw [if_neg h]; exact h
theorem fail_e {p q : Int} (hq : q ≠ 0) : (failP p q σ).e ≠ 0 := by
  unfold failP
  split
  · exact hq
  · assumption
theorem must_ext {cs : List UInt8} (h : cs.elem 59 = false) (h0 : (mustP N cs σ).1.e = 0) : mustP N' cs (ext m σ) = (ext m (mustP N cs σ).1, (mustP N cs σ).2) := by
  unfold mustP at *
  rw [is_ext h]
  dsimp only
  by_cases hi : (isP cs σ).2 = true
  · rw [if_pos hi, if_pos hi]
    have hl : σ.l ≠ [] := by
      intro e
      have := (is_len cs σ).2 hi
      rw [e] at this
      simp at this
    rw [peek_ext hl]
  · rw [if_neg hi] at h0
    exact absurd h0 lack_e
theorem while_ext {p : UInt8 → Bool} (h : p 59 = false) (l : List UInt8) : (l ++ 59 :: m).takeWhile p = l.takeWhile p ∧ (l ++ 59 :: m).dropWhile p = l.dropWhile p ++ 59 :: m := by
  induction l with
  | nil => simp [h]
  | cons c l ih =>
    rw [List.cons_append, List.takeWhile_cons, List.takeWhile_cons, List.dropWhile_cons, List.dropWhile_cons]
    cases hc : p c with
    | true => simp only [if_true]; exact ⟨by rw [ih.1], ih.2⟩
    | false => simp
theorem some_ext {p : UInt8 → Bool} (h : p 59 = false) : someP p (ext m σ) = (ext m (someP p σ).1, (someP p σ).2) := by
  unfold someP
  show (if σ.e = 0 then _ else _) = _
  split
  · show (((⟨(σ.l ++ 59 :: m).dropWhile p, σ.a, 0⟩ : PS)), (σ.l ++ 59 :: m).takeWhile p) = _
    rw [(while_ext h σ.l).1, (while_ext h σ.l).2]
    rfl
  · rfl
theorem num_ext {most : Nat} (h0 : (numP N most σ).1.e = 0) : numP N' most (ext m σ) = (ext m (numP N most σ).1, (numP N most σ).2) := by
  have hd : digitP 59 = false := by decide
  unfold numP at *
  show (if σ.e = 0 then _ else _) = _
  by_cases he : σ.e = 0
  · rw [if_pos he] at h0 ⊢
    rw [if_pos he]
    obtain ⟨w1, w2⟩ := while_ext (m := m) hd σ.l
    by_cases hz : numE most σ.l = 0
    · have hz' : numE most (σ.l ++ 59 :: m) = 0 := by
        obtain ⟨g1, g2⟩ := numE_zero hz
        unfold numE
        rw [w1, if_neg g1, if_neg (by omega)]
      rw [if_pos hz]
      show (if numE most (σ.l ++ 59 :: m) = 0 then ((⟨(σ.l ++ 59 :: m).dropWhile digitP, σ.a, 0⟩ : PS), numOf ((σ.l ++ 59 :: m).takeWhile digitP), true) else _) = _
      rw [if_pos hz', w1, w2]
      rfl
    · rw [if_neg hz] at h0
      exact absurd h0 hz
  · rw [if_neg he] at h0
    exact absurd h0 he
theorem rmust_ext {t : List UInt8} (ht : t ≠ []) (h0 : (rmustP N t σ).e = 0) : rmustP N' t (ext m σ) = ext m (rmustP N t σ) := by
  unfold rmustP at *
  by_cases hi : (textP t σ).2 = true
  · rw [if_pos hi] at *
    unfold textP at hi ⊢
    split at hi
    · rename_i hc
      obtain ⟨h1, h2, r, hr⟩ := hc
      have h3 : t <+: (ext m σ).l := ⟨r ++ 59 :: m, by show _ = σ.l ++ _; rw [← hr, List.append_assoc]⟩
      rw [if_pos (show (ext m σ).e = 0 ∧ t ≠ [] ∧ t <+: (ext m σ).l from ⟨h1, h2, h3⟩), if_pos rfl, if_pos ⟨h1, h2, ⟨r, hr⟩⟩]
      show (⟨(σ.l ++ 59 :: m).drop t.length, σ.a, 0⟩ : PS) = _
      show _ = (⟨(σ.l.drop t.length) ++ 59 :: m, σ.a, 0⟩ : PS)
      rw [← hr, List.append_assoc, List.drop_left, List.drop_left]
    · cases hi
  · rw [if_neg hi] at h0
    exact absurd h0 lack_e
theorem inst_ext (h0 : (instP N σ).1.e = 0) : instP N' (ext m σ) = (ext m (instP N σ).1, (instP N σ).2) := by
  have hs : goonB 59 = false := by decide
  unfold instP at *
  by_cases hd : doneP σ = true
  · rw [if_pos hd] at h0
    exact absurd h0 lack_e
  · rw [if_neg hd] at h0 ⊢
    have hd' : ¬ doneP (ext m σ) = true := by
      unfold doneP at *
      simp only [decide_eq_true_eq, not_or] at *
      exact ⟨hd.1, by show ¬ (σ.l ++ 59 :: m = []); simp⟩
    rw [if_neg hd']
    have he : σ.e = 0 := by
      unfold doneP at hd
      simp only [decide_eq_true_eq, not_or] at hd
      simpa using hd.1
    obtain ⟨w1, w2⟩ := while_ext (m := m) hs σ.l
    have e1 : (ext m σ).l.takeWhile goonB = σ.l.takeWhile goonB := w1
    rw [e1]
    generalize hT : σ.l.takeWhile goonB = T at *
    generalize hM : momP T = M at *
    have hq : M.2.2 = 0 := by
      false_or_by_contra
      rename_i hq
      refine fail_e (σ := σ) (p := atP N σ + M.2.1) hq ?_
      exact ((gos_text (N := N) T).z h0).1
    have f1 : ∀ p, failP p M.2.2 σ = σ := by
      intro p
      unfold failP
      rw [if_pos he, if_pos hq, hq]
      exact ps_eta he
    have f2 : ∀ p, failP p M.2.2 (ext m σ) = ext m σ := by
      intro p
      unfold failP
      rw [if_pos (show (ext m σ).e = 0 from he), if_pos hq, hq]
      exact ps_eta (σ := ext m σ) he
    rw [f1, f2]
    congr 1
    unfold textP
    by_cases hn : T ≠ []
    · have hp : T <+: σ.l := by rw [← hT]; exact List.takeWhile_prefix _
      have hp' : T <+: (ext m σ).l := hp.trans ⟨59 :: m, rfl⟩
      rw [if_pos (show σ.e = 0 ∧ T ≠ [] ∧ T <+: σ.l from ⟨he, hn, hp⟩), if_pos (show (ext m σ).e = 0 ∧ T ≠ [] ∧ T <+: (ext m σ).l from ⟨he, hn, hp'⟩)]
      obtain ⟨r, hr⟩ := hp
      show (⟨(σ.l ++ 59 :: m).drop T.length, σ.a, 0⟩ : PS) = (⟨(σ.l.drop T.length) ++ 59 :: m, σ.a, 0⟩ : PS)
      rw [← hr, List.append_assoc, List.drop_left, List.drop_left]
    · rw [if_neg (show ¬ (σ.e = 0 ∧ T ≠ [] ∧ T <+: σ.l) from fun h => hn h.2.1), if_neg (show ¬ ((ext m σ).e = 0 ∧ T ≠ [] ∧ T <+: (ext m σ).l) from fun h => hn h.2.1)]
theorem rnum_ext {most : Nat} {lo hi : Int} (h0 : (rnumP N most lo hi σ).1.e = 0) : rnumP N' most lo hi (ext m σ) = (ext m (rnumP N most lo hi σ).1, (rnumP N most lo hi σ).2) := by
  unfold rnumP at *
  dsimp only at *
  by_cases hc : (numP N most σ).2.2 = true ∧ ((numP N most σ).2.1 < lo ∨ hi < (numP N most σ).2.1)
  · rw [if_pos hc] at h0
    exact absurd h0 (fail_e (by decide))
  · rw [if_neg hc] at h0 ⊢
    rw [num_ext h0]
    dsimp only
    rw [if_neg hc]
theorem sign_ext {hi : Int} (h0 : (signP N hi σ).1.e = 0) : signP N' hi (ext m σ) = (ext m (signP N hi σ).1, (signP N hi σ).2) := by
  unfold signP at *
  dsimp only at *
  rw [is_ext (by decide)]
  dsimp only
  by_cases hc : (isP [45] σ).2 = true
  · rw [if_pos hc] at *
    rw [rnum_ext h0, if_pos hc]
  · rw [if_neg hc] at *
    rw [rnum_ext h0, if_neg hc]
theorem one_ext {ws : List (List UInt8)} (h0 : (oneP N ws σ).1.e = 0) : oneP N' ws (ext m σ) = (ext m (oneP N ws σ).1, (oneP N ws σ).2) := by
  unfold oneP at *
  dsimp only at *
  rw [some_ext (by decide)]
  dsimp only
  by_cases hc : (someP letterP σ).2 = []
  · rw [if_pos hc] at h0
    exact absurd h0 lack_e
  · rw [if_neg hc] at h0
    rw [if_neg hc]
    by_cases hi : wIdx (someP letterP σ).2 ws < 0
    · rw [if_pos hi] at h0
      exact absurd h0 (fail_e (by decide))
    · rw [if_neg hi]
      simp only [if_neg hc, if_neg hi]
theorem nth_ext (h0 : (rnthP N σ).1.e = 0) : rnthP N' (ext m σ) = (ext m (rnthP N σ).1, (rnthP N σ).2) := by
  have hl : σ.l ≠ [] := by
    intro e
    unfold rnthP at h0
    dsimp only at h0
    by_cases hs : signedB (peekP σ) = true
    · exfalso
      have : peekP σ = 0 := by
        unfold peekP
        split
        · rw [e]; rfl
        · rfl
      rw [this] at hs
      exact absurd hs (by decide)
    · rw [if_neg hs] at h0
      have := ((gos_one (N := N) (σ := σ) wdN).z h0)
      refine this.2.1 ?_
      unfold someP
      split
      · rw [e]; rfl
      · rfl
  unfold rnthP at *
  dsimp only at *
  rw [peek_ext hl]
  by_cases hs : signedB (peekP σ) = true
  · rw [if_pos hs] at h0 ⊢
    rw [if_pos hs]
    have h1 := ((gos_one (N := N) (σ := (signP N 53 σ).1) wdN).z h0).1
    rw [sign_ext h1]
    dsimp only
    rw [one_ext h0]
  · rw [if_neg hs] at h0 ⊢
    rw [if_neg hs]
    dsimp only
    rw [one_ext h0]
theorem list_ext {α : Type} {one one' : PS → PS × α} (hg : ∀ σ, Gos N σ (one σ).1 True) (hone : ∀ σ, (one σ).1.e = 0 → one' (ext m σ) = (ext m (one σ).1, (one σ).2)) : ∀ (q : Nat) (σ : PS), (rlistP N one q σ).1.e = 0 → rlistP N' one' q (ext m σ) = (ext m (rlistP N one q σ).1, (rlistP N one q σ).2)
  | 0, σ, h0 => by
    unfold rlistP at *
    by_cases hc : (isP [44] (one σ).1).2 = true
    · simp only [if_pos hc] at h0
      exact absurd h0 (fail_e (by decide))
    · simp only [if_neg hc] at h0 ⊢
      have h1 := ((gos_is (N := N) (σ := (one σ).1) [44]).z h0).1
      rw [hone σ h1]
      dsimp only
      rw [is_ext (by decide)]
      dsimp only
      rw [if_neg hc]
  | q + 1, σ, h0 => by
    unfold rlistP at *
    by_cases hc : (isP [44] (one σ).1).2 = true
    · rw [if_pos hc] at h0 ⊢
      have h2 := ((gos_list one hg q (isP [44] (one σ).1).1).z h0).1
      have h1 := ((gos_is (N := N) (σ := (one σ).1) [44]).z h2).1
      rw [hone σ h1]
      dsimp only
      rw [is_ext (by decide)]
      dsimp only
      rw [if_pos hc, list_ext hg hone q _ h0]
    · rw [if_neg hc] at h0 ⊢
      have h1 := ((gos_is (N := N) (σ := (one σ).1) [44]).z h0).1
      rw [hone σ h1]
      dsimp only
      rw [is_ext (by decide)]
      dsimp only
      rw [if_neg hc]
theorem nums_ext {lo hi : Int} (h0 : (numsP N lo hi σ).1.e = 0) : numsP N' lo hi (ext m σ) = (ext m (numsP N lo hi σ).1, (numsP N lo hi σ).2) :=
  list_ext (fun _ => (gos_rnum 2 lo hi).mono fun _ => trivial) (fun _ h => rnum_ext h) 63 σ h0
theorem start_ext (h0 : (startP N σ).e = 0) : startP N' (ext m σ) = ext m (startP N σ) := by
  unfold startP at *
  by_cases hc : 0 < (oneP N wdN σ).2
  · rw [if_pos hc] at h0
    exact absurd h0 (fail_e (by decide))
  · rw [if_neg hc] at h0 ⊢
    rw [one_ext h0]
    dsimp only
    rw [if_neg hc]
theorem partK_ext (k : Nat) (r : RuV) (h0 : (partK N k r σ).1.e = 0) : partK N' k r (ext m σ) = (ext m (partK N k r σ).1, (partK N k r σ).2) := by
  unfold partK at *
  by_cases k0 : k = 0
  · simp only [if_pos k0] at *; rw [one_ext h0]
  simp only [if_neg k0] at *
  by_cases k1 : k = 1
  · simp only [if_pos k1] at *; rw [rnum_ext h0]
  simp only [if_neg k1] at *
  by_cases k2 : k = 2
  · simp only [if_pos k2] at *; rw [rnum_ext h0]
  simp only [if_neg k2] at *
  by_cases k3 : k = 3
  · simp only [if_pos k3] at *; rw [inst_ext h0]
  simp only [if_neg k3] at *
  by_cases k4 : k = 4
  · simp only [if_pos k4] at *; rw [nums_ext h0]
  simp only [if_neg k4] at *
  by_cases k5 : k = 5
  · simp only [if_pos k5] at *; rw [list_ext (fun _ => gos_sign 31) (fun _ h => sign_ext h) 63 σ h0]
  simp only [if_neg k5] at *
  by_cases k6 : k = 6
  · simp only [if_pos k6] at *; rw [list_ext (fun _ => gos_nth) (fun _ h => nth_ext h) 63 σ h0]
  simp only [if_neg k6] at *
  by_cases k7 : k = 7
  · simp only [if_pos k7] at *; rw [nums_ext h0]
  simp only [if_neg k7] at *
  by_cases k8 : k = 8
  · simp only [if_pos k8] at *; rw [nums_ext h0]
  simp only [if_neg k8] at *
  by_cases k9 : k = 9
  · simp only [if_pos k9] at *; rw [nums_ext h0]
  simp only [if_neg k9] at *
  rw [start_ext h0]
theorem part_ext {S : RS} (h0 : (partP N S).σ.e = 0) : partP N' ⟨ext m S.σ, S.r, S.T⟩ = ⟨ext m (partP N S).σ, (partP N S).r, (partP N S).T⟩ := by
  unfold partP at *
  dsimp only at *
  rw [some_ext (by decide)]
  dsimp only
  by_cases c0 : (someP letterP S.σ).2 = []
  · rw [if_pos c0] at h0; exact absurd h0 lack_e
  simp only [if_neg c0] at *
  by_cases c1 : (someP letterP S.σ).2 ∈ paLeft
  · rw [if_pos c1] at h0; exact absurd h0 (fail_e (by decide))
  simp only [if_neg c1] at *
  by_cases c2 : wIdx (someP letterP S.σ).2 paN < 0
  · rw [if_pos c2] at h0; exact absurd h0 (fail_e (by decide))
  simp only [if_neg c2] at *
  by_cases c3 : (someP letterP S.σ).2 ∈ S.T
  · rw [if_pos c3] at h0; exact absurd h0 (fail_e (by decide))
  simp only [if_neg c3] at *
  have h1 := ((gos_partK (N := N) (σ := (mustP N [61] (someP letterP S.σ).1).1) (wIdx (someP letterP S.σ).2 paN).toNat S.r).z h0).1
  rw [must_ext (by decide) h1]
  dsimp only
  rw [partK_ext _ _ h0]
/-- The parts of a text that is read whole, with more behind: what is more is read as parts. -/
theorem parts_ext : ∀ (q : Nat) (S : RS), S.σ.l.length ≤ q → (partsP N q S).σ.e = 0 → (partsP N q S).σ.l = [] → ∀ q', q < q' → ∃ q'' a, q' ≤ q'' + q + 1 ∧ partsP N' q' ⟨ext m S.σ, S.r, S.T⟩ = partsP N' q'' ⟨⟨m, a, 0⟩, (partsP N q S).r, (partsP N q S).T⟩
  | q, S, hq, h0, hl, q', hq' => by
    have hw : ∀ hp : (partP N S).σ.e = 0, S.σ.l.length ≠ 0 := by
      intro hp e
      have := ((gos_part (N := N) S).z hp).2.1
      apply this
      have e' := List.length_eq_zero_iff.1 e
      unfold someP
      split
      · rw [e']; rfl
      · rfl
    obtain ⟨p, rfl⟩ : ∃ p, q' = p + 1 := ⟨q' - 1, by omega⟩
    -- the last round
    have last : (isP [59] (partP N S).σ).2 = false → (isP [59] (partP N S).σ).1.e = 0 → (isP [59] (partP N S).σ).1.l = [] → ∃ a, partsP N' (p + 1) ⟨ext m S.σ, S.r, S.T⟩ = partsP N' p ⟨⟨m, a, 0⟩, (partP N S).r, (partP N S).T⟩ := by
      intro hi he hn
      have hp := ((gos_is (N := N) (σ := (partP N S).σ) [59]).z he).1
      have hS : (isP [59] (partP N S).σ).1 = (partP N S).σ := by
        unfold isP at hi ⊢
        rw [if_pos hp] at hi ⊢
        cases hx : pIs [59] (partP N S).σ.l with
        | none => rfl
        | some r => rw [hx] at hi; cases hi
      rw [hS] at hn
      have hi2 : isP [59] (ext m (partP N S).σ) = (⟨m, (partP N S).σ.a, 0⟩, true) := by
        unfold isP
        rw [if_pos (show (ext m (partP N S).σ).e = 0 from hp)]
        show (match pIs [59] ((partP N S).σ.l ++ 59 :: m) with | some r => _ | none => _) = _
        rw [hn, List.nil_append, pIs_cons, if_pos (by decide)]
        rfl
      refine ⟨(partP N S).σ.a, ?_⟩
      rw [partsP, part_ext hp]
      dsimp only
      rw [hi2]
      dsimp only
      rw [if_pos rfl]
    cases q with
    | zero =>
      have hp := ((gos_is (N := N) (σ := (partP N S).σ) [59]).z h0).1
      have := hw hp
      omega
    | succ q =>
      have E : partsP N (q + 1) S = if (isP [59] (partP N S).σ).2 = true then partsP N q ⟨(isP [59] (partP N S).σ).1, (partP N S).r, (partP N S).T⟩ else ⟨(isP [59] (partP N S).σ).1, (partP N S).r, (partP N S).T⟩ := rfl
      rw [E] at h0 hl ⊢
      by_cases hi : (isP [59] (partP N S).σ).2 = true
      · rw [if_pos hi] at h0 hl ⊢
        have h2 := ((gos_parts (N := N) q ⟨(isP [59] (partP N S).σ).1, (partP N S).r, (partP N S).T⟩).z h0).1
        have hp := ((gos_is (N := N) (σ := (partP N S).σ) [59]).z h2).1
        have l1 := (is_len [59] (partP N S).σ).2 hi
        have l2 := (gos_part (N := N) S).len
        obtain ⟨q'', a, g1, g2⟩ := parts_ext q ⟨(isP [59] (partP N S).σ).1, (partP N S).r, (partP N S).T⟩ (by dsimp only; omega) h0 hl p (by omega)
        refine ⟨q'', a, by omega, ?_⟩
        rw [← g2]
        have hi2 : isP [59] (ext m (partP N S).σ) = (ext m (isP [59] (partP N S).σ).1, true) := by
          unfold isP at hi ⊢
          rw [if_pos hp] at hi
          rw [if_pos (show (ext m (partP N S).σ).e = 0 from hp), if_pos hp]
          cases hc : (partP N S).σ.l with
          | nil => rw [hc] at hi; cases hi
          | cons c l =>
            rw [hc, pIs_cons] at hi
            have hcc : ([59] : List UInt8).elem c = true := by
              false_or_by_contra
              rename_i hcc
              rw [if_neg hcc] at hi
              cases hi
            show (match pIs [59] ((partP N S).σ.l ++ 59 :: m) with | some r => _ | none => _) = _
            rw [hc, List.cons_append, pIs_cons, pIs_cons, if_pos hcc, if_pos hcc]
            rfl
        have E' : partsP N' (p + 1) ⟨ext m S.σ, S.r, S.T⟩ = if (isP [59] (partP N' ⟨ext m S.σ, S.r, S.T⟩).σ).2 = true then partsP N' p ⟨(isP [59] (partP N' ⟨ext m S.σ, S.r, S.T⟩).σ).1, (partP N' ⟨ext m S.σ, S.r, S.T⟩).r, (partP N' ⟨ext m S.σ, S.r, S.T⟩).T⟩ else ⟨(isP [59] (partP N' ⟨ext m S.σ, S.r, S.T⟩).σ).1, (partP N' ⟨ext m S.σ, S.r, S.T⟩).r, (partP N' ⟨ext m S.σ, S.r, S.T⟩).T⟩ := rfl
        rw [E', part_ext hp]
        dsimp only
        rw [hi2]
        dsimp only
        rw [if_pos rfl]
      · rw [if_neg hi] at h0 hl ⊢
        obtain ⟨a, ha⟩ := last (by simpa using hi) h0 hl
        exact ⟨p, a, by omega, ha⟩
theorem head_ext (h0 : (rheadP N σ).1.e = 0) : rheadP N' (ext m σ) = (ext m (rheadP N σ).1, (rheadP N σ).2) := by
  unfold rheadP at *
  dsimp only at *
  have e7 := ((gos_must (N := N) (σ := rmustP N [82,82,85,76,69] (mustP N [10] (instP N (mustP N [58] (if peekP (rmustP N [68,84,83,84,65,82,84] σ) = 59 then failP (atP N (rmustP N [68,84,83,84,65,82,84] σ)) 7 (rmustP N [68,84,83,84,65,82,84] σ) else rmustP N [68,84,83,84,65,82,84] σ)).1).1).1) [58]).z h0).1
  have e6 := ((gos_rmust (N := N) (σ := (mustP N [10] (instP N (mustP N [58] (if peekP (rmustP N [68,84,83,84,65,82,84] σ) = 59 then failP (atP N (rmustP N [68,84,83,84,65,82,84] σ)) 7 (rmustP N [68,84,83,84,65,82,84] σ) else rmustP N [68,84,83,84,65,82,84] σ)).1).1).1) [82,82,85,76,69]).z e7).1
  have e5 := ((gos_must (N := N) (σ := (instP N (mustP N [58] (if peekP (rmustP N [68,84,83,84,65,82,84] σ) = 59 then failP (atP N (rmustP N [68,84,83,84,65,82,84] σ)) 7 (rmustP N [68,84,83,84,65,82,84] σ) else rmustP N [68,84,83,84,65,82,84] σ)).1).1) [10]).z e6).1
  have e4 := ((gos_inst (N := N) (σ := (mustP N [58] (if peekP (rmustP N [68,84,83,84,65,82,84] σ) = 59 then failP (atP N (rmustP N [68,84,83,84,65,82,84] σ)) 7 (rmustP N [68,84,83,84,65,82,84] σ) else rmustP N [68,84,83,84,65,82,84] σ)).1)).z e5).1
  by_cases hp : peekP (rmustP N [68,84,83,84,65,82,84] σ) = 59
  · rw [if_pos hp] at e4
    have := ((gos_must (N := N) (σ := failP (atP N (rmustP N [68,84,83,84,65,82,84] σ)) 7 (rmustP N [68,84,83,84,65,82,84] σ)) [58]).z e4).1
    exact absurd this (fail_e (by decide))
  · simp only [if_neg hp] at *
    have e1 := ((gos_must (N := N) (σ := rmustP N [68,84,83,84,65,82,84] σ) [58]).z e4).1
    have hl : (rmustP N [68,84,83,84,65,82,84] σ).l ≠ [] := by
      intro e
      unfold mustP at e4
      split at e4
      · rename_i hi
        have := (is_len [58] (rmustP N [68,84,83,84,65,82,84] σ)).2 hi
        rw [e] at this
        simp at this
      · exact absurd e4 lack_e
    rw [rmust_ext (by decide) e1, peek_ext hl]
    simp only [if_neg hp]
    rw [must_ext (by decide) e4]
    dsimp only
    rw [inst_ext e5]
    dsimp only
    rw [must_ext (by decide) e6]
    dsimp only
    rw [rmust_ext (by decide) e7, must_ext (by decide) h0]
end
/-- The name of the part of the week's start. -/
def wkst : List UInt8 := [87,75,83,84]
def wkX (u : UInt8) (v : UInt8) : List UInt8 := wkst ++ [61, u, v]
/-- A text that is read, with WKST behind. -/
theorem read_more {l : List UInt8} {r : RuV} (h : rread l = .ok r) (h8 : l.length ≤ 3000) (u v : UInt8) : ∃ q a, rread (l ++ 59 :: wkX u v) = (fun S : RS => let e := endP (l.length + 8) S.σ; let σ := if paN[0] ∈ S.T then e else failP ((l.length + 8 : Nat) : Int) 11 e; if σ.e ≠ 0 then .error (σ.a, σ.e) else if chkR S.r ≠ 0 then .error (((l.length + 8 : Nat) : Int), chkR S.r) else .ok S.r) (partsP (l.length + 8) q ⟨⟨wkX u v, a, 0⟩, r, (rallP l).T⟩) ∧ paN[0] ∈ (rallP l).T ∧ chkR r = 0 := by
  obtain ⟨h0, rfl, hk, _, _⟩ := rread_ok h
  obtain ⟨g0, _, gF, gl⟩ := (gos_all l).z h0
  have hN : (l ++ 59 :: wkX u v).length = l.length + 8 := by rw [List.length_append]; rfl
  unfold rread rallP
  dsimp only
  rw [hN]
  unfold rallP at h0 gF
  dsimp only at h0 gF
  rw [if_pos gF] at h0
  have h1 := ((gos_end (N := l.length) (σ := (partsP l.length l.length ⟨(rheadP l.length (rpsNew l)).1, { ruOne with st := (rheadP l.length (rpsNew l)).2 }, []⟩).σ)).z h0).1
  have h2 := ((gos_parts (N := l.length) l.length ⟨(rheadP l.length (rpsNew l)).1, { ruOne with st := (rheadP l.length (rpsNew l)).2 }, []⟩).z h1).1
  have hnew : rpsNew (l ++ 59 :: wkX u v) = ext (wkX u v) (rpsNew l) := by
    unfold rpsNew ext
    rw [hN, if_neg (by omega), if_neg (by omega), if_neg (by omega), if_neg (by omega)]
  have hh : rheadP (l.length + 8) (ext (wkX u v) (rpsNew l)) = (ext (wkX u v) (rheadP l.length (rpsNew l)).1, (rheadP l.length (rpsNew l)).2) := head_ext h2
  rw [hnew, hh]
  dsimp only
  have hlen := (gos_head (N := l.length) (σ := rpsNew l)).len
  obtain ⟨q, a, _, hp⟩ := parts_ext (N := l.length) (N' := l.length + 8) (m := wkX u v) l.length ⟨(rheadP l.length (rpsNew l)).1, { ruOne with st := (rheadP l.length (rpsNew l)).2 }, []⟩ hlen h1 gl (l.length + 8) (by omega)
  refine ⟨q, a, ?_, gF, hk⟩
  rw [hp]
end Go.Proofs.YtnelecjjbmjhaaaGreat
