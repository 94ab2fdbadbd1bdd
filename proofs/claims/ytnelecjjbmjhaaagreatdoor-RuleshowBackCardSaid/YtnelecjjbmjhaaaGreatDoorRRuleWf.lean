/- Of a rule that may be: its numbers, its text's length: plain. -/
import Derived.Test.YtnelecjjbmjhaaaGreatDoorRRuleMay
import Derived.Test.YtnelecjjbmjhaaaGreatDoorRAt
import Derived.Test.YtnelecjjbmjhaaaGreatDoorWRuI
/- There and back: what is written of a rule is read as that rule: plain. -/
namespace Go.Proofs.YtnelecjjbmjhaaaGreatDoor
open Go.RowKit
set_option linter.unusedSimpArgs false
set_option linter.unusedVariables false

theorem fault_all {r : RuV} (h : chkR r = 0) : ∀ j, j < 7 → faultR r j = 0 := by
  intro j
  induction j using Nat.strongRecOn with
  | _ j ih =>
    intro hj
    false_or_by_contra
    rename_i h1
    have := chkR_at hj (fun i hi => ih i hi (by omega)) h1
    rw [h] at this
    exact h1 this.symm
theorem num_snoc (l : List UInt8) (c : UInt8) : numOf (l ++ [c]) = 10 * numOf l + ((c.toNat : Int) - 48) := by simp [numOf, List.foldl_append]
theorem dig_toNat (n : Int) : (UInt8.ofNat (48 + (n % 10).toNat)).toNat = 48 + (n % 10).toNat := by
  have : (n % 10).toNat < 10 := by omega
  simp; omega
theorem digs_digit (m : Nat) : ∀ n : Int, ∀ c ∈ digsL m n, digitP c = true := by
  induction m with
  | zero => intro n c hc; cases hc
  | succ m ih =>
    intro n c hc
    rcases List.mem_append.1 hc with hc | hc
    · exact ih _ c hc
    · rw [List.mem_singleton] at hc
      subst hc
      unfold digitP
      rw [dig_toNat, decide_eq_true_eq]
      omega
theorem digs_num (m : Nat) : ∀ n : Int, 0 ≤ n → n < 10 ^ m → numOf (digsL m n) = n := by
  induction m with
  | zero => intro n h0 h1; simp at h1; have : n = 0 := by omega
            subst this; rfl
  | succ m ih =>
    intro n h0 h1
    rw [digsL, num_snoc, dig_toNat, ih (n / 10) (by omega) (by rw [Int.pow_succ] at h1; omega)]
    omega
/-- The instant's text, byte by byte. -/
theorem mom_text {a0 a1 a2 a3 b0 b1 c0 c1 e0 e1 f0 f1 g0 g1 : UInt8} (h : ∀ c ∈ [a0, a1, a2, a3, b0, b1, c0, c1, e0, e1, f0, f1, g0, g1], digitP c = true) : wrongL 0 [a0, a1, a2, a3, b0, b1, c0, c1, 84, e0, e1, f0, f1, g0, g1, 90] = (0, 0) := by
  simp only [List.mem_cons, List.not_mem_nil, or_false, forall_eq_or_imp, forall_eq] at h
  obtain ⟨h1, h2, h3, h4, h5, h6, h7, h8, h9, h10, h11, h12, h13, h14⟩ := h
  simp [wrongL, stemB, h1, h2, h3, h4, h5, h6, h7, h8, h9, h10, h11, h12, h13, h14]
theorem list2 {l : List UInt8} (h : l.length = 2) : ∃ a b, l = [a, b] := by
  match l, h with
  | [a, b], _ => exact ⟨a, b, rfl⟩
theorem list4 {l : List UInt8} (h : l.length = 4) : ∃ a b c d, l = [a, b, c, d] := by
  match l, h with
  | [a, b, c, d], _ => exact ⟨a, b, c, d, rfl⟩
theorem civ_back {n : Int} (h : 0 ≤ n) (h1 : n < 146097) : numC (yD n) (mD n) (dD n) = n := by
  obtain ⟨o0, o1⟩ := offD_bd h
  obtain ⟨y0, y1, y2, y3⟩ := yrs_at o0 o1
  obtain ⟨l0, l1, l2⟩ := lft_bd o0 o1
  obtain ⟨m0, m1, m2, m3, m4, m5⟩ := mm_bd l1 l2
  have hm : (mD n + 9) % 12 = mm (offD n) := by
    show (mon (offD n) + 9) % 12 = _
    unfold mon
    omega
  have hy : (if mD n ≤ 2 then yD n - 1 else yD n) = eraD n * 400 + yrs (offD n) := by
    unfold yD
    split <;> omega
  unfold numC
  rw [hy, hm]
  have e1 : (eraD n * 400 + yrs (offD n)) / 400 = eraD n := by omega
  have e2 : (eraD n * 400 + yrs (offD n)) % 400 = yrs (offD n) := by omega
  rw [e1, e2]
  have hd : (153 * mm (offD n) + 2) / 5 + dD n - 1 = lft (offD n) := by
    show (153 * mm (offD n) + 2) / 5 + dd (offD n) - 1 = _
    unfold dd
    omega
  rw [hd]
  have hl : lft (offD n) = offD n - (yrs (offD n) * 365 + yrs (offD n) / 4 - yrs (offD n) / 100) := rfl
  have he : eraD n = (n + 719468) / 146097 := rfl
  have ho : offD n = (n + 719468) % 146097 := rfl
  rw [hl]
  generalize yrs (offD n) = y at *
  omega
theorem basic_form {t : Int} (h : inC t = true) : ∃ a0 a1 a2 a3 b0 b1 c0 c1 e0 e1 f0 f1 g0 g1 : UInt8, basicT t = [a0, a1, a2, a3, b0, b1, c0, c1, 84, e0, e1, f0, f1, g0, g1, 90] ∧
    (∀ c ∈ [a0, a1, a2, a3, b0, b1, c0, c1, e0, e1, f0, f1, g0, g1], digitP c = true) ∧
    numOf [a0, a1, a2, a3] = yD (t / 86400) ∧ numOf [b0, b1] = mD (t / 86400) ∧ numOf [c0, c1] = dD (t / 86400) ∧ numOf [e0, e1] = t % 86400 / 3600 ∧ numOf [f0, f1] = t % 86400 / 60 % 60 ∧ numOf [g0, g1] = t % 86400 % 60 := by
  have hin := h
  unfold inC at hin
  rw [decide_eq_true_eq] at hin
  obtain ⟨p1, p2, p3⟩ := date_may (n := t / 86400) (by omega) (by omega)
  obtain ⟨_, q1, q2, q3, q4⟩ := date_jan (n := t / 86400) (by omega) (by omega)
  obtain ⟨_, q5⟩ := lenC_pos (y := yD (t / 86400)) q1 q2
  have hA := digs_num 4 (yD (t / 86400)) (by omega) (by omega)
  have hB := digs_num 2 (mD (t / 86400)) (by omega) (by omega)
  have hC := digs_num 2 (dD (t / 86400)) (by omega) (by omega)
  have hE := digs_num 2 (t % 86400 / 3600) (by omega) (by omega)
  have hF := digs_num 2 (t % 86400 / 60 % 60) (by omega) (by omega)
  have hG := digs_num 2 (t % 86400 % 60) (by omega) (by omega)
  have hA' := digs_digit 4 (yD (t / 86400))
  have hB' := digs_digit 2 (mD (t / 86400))
  have hC' := digs_digit 2 (dD (t / 86400))
  have hE' := digs_digit 2 (t % 86400 / 3600)
  have hF' := digs_digit 2 (t % 86400 / 60 % 60)
  have hG' := digs_digit 2 (t % 86400 % 60)
  have hT : basicT t = (((((digsL 4 (yD (t / 86400)) ++ []) ++ (digsL 2 (mD (t / 86400)) ++ [])) ++ (digsL 2 (dD (t / 86400)) ++ [84])) ++ (digsL 2 (t % 86400 / 3600) ++ [])) ++ (digsL 2 (t % 86400 / 60 % 60) ++ [])) ++ (digsL 2 (t % 86400 % 60) ++ [90]) := by
    unfold basicT
    rw [if_pos h]
    rfl
  obtain ⟨a0, a1, a2, a3, eA⟩ := list4 (digsL_len 4 (yD (t / 86400)))
  obtain ⟨b0, b1, eB⟩ := list2 (digsL_len 2 (mD (t / 86400)))
  obtain ⟨c0, c1, eC⟩ := list2 (digsL_len 2 (dD (t / 86400)))
  obtain ⟨e0, e1, eE⟩ := list2 (digsL_len 2 (t % 86400 / 3600))
  obtain ⟨f0, f1, eF⟩ := list2 (digsL_len 2 (t % 86400 / 60 % 60))
  obtain ⟨g0, g1, eG⟩ := list2 (digsL_len 2 (t % 86400 % 60))
  rw [eA] at hA hA' hT
  rw [eB] at hB hB' hT
  rw [eC] at hC hC' hT
  rw [eE] at hE hE' hT
  rw [eF] at hF hF' hT
  rw [eG] at hG hG' hT
  refine ⟨a0, a1, a2, a3, b0, b1, c0, c1, e0, e1, f0, f1, g0, g1, hT, ?_, hA, hB, hC, hE, hF, hG⟩
  simp only [List.mem_cons, List.not_mem_nil, or_false, forall_eq_or_imp, forall_eq] at *
  exact ⟨hA'.1, hA'.2.1, hA'.2.2.1, hA'.2.2.2, hB'.1, hB'.2, hC'.1, hC'.2, hE'.1, hE'.2, hF'.1, hF'.2, hG'.1, hG'.2⟩
theorem mom_back {t : Int} (h : inC t = true) : momP (basicT t) = (t, 16, 0) := by
  obtain ⟨a0, a1, a2, a3, b0, b1, c0, c1, e0, e1, f0, f1, g0, g1, hT, hd, hA, hB, hC, hE, hF, hG⟩ := basic_form h
  have hin := h
  unfold inC at hin
  rw [decide_eq_true_eq] at hin
  obtain ⟨p1, p2, p3⟩ := date_may (n := t / 86400) (by omega) (by omega)
  have hc := civ_back (n := t / 86400) (by omega) (by omega)
  rw [hT]
  have hw := mom_text hd
  have k1 : yMP [a0, a1, a2, a3, b0, b1, c0, c1, 84, e0, e1, f0, f1, g0, g1, 90] = yD (t / 86400) := hA
  have k2 : moMP [a0, a1, a2, a3, b0, b1, c0, c1, 84, e0, e1, f0, f1, g0, g1, 90] = mD (t / 86400) := hB
  have k3 : dMP [a0, a1, a2, a3, b0, b1, c0, c1, 84, e0, e1, f0, f1, g0, g1, 90] = dD (t / 86400) := hC
  have k4 : hMP [a0, a1, a2, a3, b0, b1, c0, c1, 84, e0, e1, f0, f1, g0, g1, 90] = t % 86400 / 3600 := hE
  have k5 : miMP [a0, a1, a2, a3, b0, b1, c0, c1, 84, e0, e1, f0, f1, g0, g1, 90] = t % 86400 / 60 % 60 := hF
  have k6 : sMP [a0, a1, a2, a3, b0, b1, c0, c1, 84, e0, e1, f0, f1, g0, g1, 90] = t % 86400 % 60 := hG
  have hB : momB (yD (t / 86400)) (mD (t / 86400)) (dD (t / 86400)) (t % 86400 / 3600) (t % 86400 / 60 % 60) (t % 86400 % 60) = true := by
    unfold momB todC
    rw [p1, hc]
    simp only [Bool.true_and, Bool.and_eq_true, decide_eq_true_eq]
    omega
  unfold momP
  rw [hw, k1, k2, k3, k4, k5, k6, hB]
  dsimp only
  rw [if_neg (by decide), if_neg (by decide), if_neg (by simp), if_neg (by simp)]
  unfold momI
  rw [hc]
  congr 1
  omega
/-- What stands behind a part: nothing, or a semicolon. -/
def Sem (l : List UInt8) : Prop := l = [] ∨ ∃ m, l = 59 :: m
section
variable {N : Nat} {a : Int} {l : List UInt8}
theorem Sem.head (h : Sem l) {p : UInt8 → Bool} (hp : p 59 = false) : headB p l = false := by
  rcases h with rfl | ⟨m, rfl⟩
  · rfl
  · exact hp
theorem basic_goon {t : Int} (h : inC t = true) : ∀ c ∈ basicT t, goonB c = true := by
  obtain ⟨a0, a1, a2, a3, b0, b1, c0, c1, e0, e1, f0, f1, g0, g1, hT, hd, _⟩ := basic_form h
  have hg : ∀ c, digitP c = true → goonB c = true := by
    intro c hc
    unfold digitP at hc
    rw [decide_eq_true_eq] at hc
    unfold goonB
    rw [decide_eq_true_eq]
    exact ⟨by rintro rfl; exact absurd hc (by decide), by rintro rfl; exact absurd hc (by decide)⟩
  rw [hT]
  simp only [List.mem_cons, List.not_mem_nil, or_false, forall_eq_or_imp, forall_eq] at *
  obtain ⟨h1, h2, h3, h4, h5, h6, h7, h8, h9, h10, h11, h12, h13, h14⟩ := hd
  exact ⟨hg _ h1, hg _ h2, hg _ h3, hg _ h4, hg _ h5, hg _ h6, hg _ h7, hg _ h8, by decide, hg _ h9, hg _ h10, hg _ h11, hg _ h12, hg _ h13, hg _ h14, by decide⟩
theorem basic_ne {t : Int} (h : inC t = true) : basicT t ≠ [] := by
  obtain ⟨a0, a1, a2, a3, b0, b1, c0, c1, e0, e1, f0, f1, g0, g1, hT, _⟩ := basic_form h
  rw [hT]
  simp
theorem inst_back {t : Int} (h : inC t = true) (hl : headB goonB l = false) : instP N (at0 (basicT t ++ l) a) = (at0 l a, t) := by
  obtain ⟨t1, _⟩ := take_app (basic_goon h) hl
  have hne := basic_ne h
  unfold instP
  have hd : ¬ doneP (at0 (basicT t ++ l) a) = true := by
    unfold doneP
    simp [hne]
  rw [if_neg hd]
  dsimp only
  rw [t1, mom_back h]
  dsimp only
  have hf : ∀ p, failP p 0 (at0 (basicT t ++ l) a) = at0 (basicT t ++ l) a := by
    intro p; unfold failP; simp
  rw [hf]
  unfold textP
  rw [if_pos ⟨rfl, hne, ⟨l, rfl⟩⟩]
  dsimp only
  rw [List.drop_left]
theorem rnum_back {most : Nat} {lo hi n : Int} (h1 : 1 ≤ most) (h : lo ≤ n ∧ n ≤ hi) (h0 : 0 ≤ n) (hm : n < 10 ^ most) (hl : headB digitP l = false) : rnumP N most lo hi (at0 (Lib.itoa n ++ l) a) = (at0 l a, n) := by
  obtain ⟨u, rfl⟩ := Int.eq_ofNat_of_zero_le h0
  unfold rnumP
  rw [num_itoa h1 (by exact_mod_cast hm) hl]
  dsimp only
  rw [if_neg (by omega)]
theorem sign_back {hi n : Int} (h : n ≠ 0) (h1 : -hi ≤ n ∧ n ≤ hi) (h2 : hi < 100) (hl : headB digitP l = false) : signP N hi (at0 (Lib.itoa n ++ l) a) = (at0 l a, n) := by
  unfold signP
  by_cases hn : n < 0
  · have e : Lib.itoa n = 45 :: Lib.itoa (-n) := by
      unfold Lib.itoa
      rw [if_pos hn, if_neg (by omega)]
      congr 2
      omega
    rw [e, List.cons_append, is_at]
    dsimp only
    rw [if_pos rfl, rnum_back (by decide) ⟨by omega, by omega⟩ (by omega) (by simp; omega) hl]
    dsimp only
    rw [Int.neg_neg]
  · have hx : headB (· == 45) (Lib.itoa n ++ l) = false := by
      obtain ⟨u, rfl⟩ := Int.eq_ofNat_of_zero_le (show 0 ≤ n by omega)
      rw [itoa_nat]
      exact dec_head u l _ (fun c hc => by
        unfold digitP at hc
        rw [decide_eq_true_eq] at hc
        rw [beq_eq_false_iff_ne]
        rintro rfl
        exact absurd hc (by decide))
    rw [is_not hx]
    dsimp only
    rw [if_neg (by decide), rnum_back (by decide) ⟨by omega, by omega⟩ (by omega) (by simp; omega) hl]
theorem one_back {ws : List (List UInt8)} {w : List UInt8} {k : Nat} (hw : wIdx w ws = k) (hne : w ≠ []) (hlt : ∀ c ∈ w, letterP c = true) (hl : headB letterP l = false) : oneP N ws (at0 (w ++ l) a) = (at0 l a, (k : Int)) := by
  obtain ⟨t1, t2⟩ := take_app hlt hl
  have hs : someP letterP (at0 (w ++ l) a) = (at0 l a, w) := by
    unfold someP
    rw [if_pos rfl]
    simp only [t1, t2]
  unfold oneP
  rw [hs]
  dsimp only
  rw [if_neg hne, hw, if_neg (by omega)]
theorem un_word {u : Int} (h : 0 ≤ u ∧ u < 7) : ∃ k : Nat, u = (k : Int) ∧ wIdx (unT u) unN = k ∧ unT u ≠ [] ∧ ∀ c ∈ unT u, letterP c = true := by
  obtain ⟨k, rfl⟩ := Int.eq_ofNat_of_zero_le h.1
  refine ⟨k, rfl, ?_⟩
  obtain rfl | rfl | rfl | rfl | rfl | rfl | rfl : k = 0 ∨ k = 1 ∨ k = 2 ∨ k = 3 ∨ k = 4 ∨ k = 5 ∨ k = 6 := by omega
  all_goals exact ⟨by decide, by decide, by decide⟩
theorem dy_word {k : Nat} (h : k < 7) : wIdx (dyNm k) wdN = k ∧ dyNm k ≠ [] ∧ ∀ c ∈ dyNm k, letterP c = true := by
  obtain rfl | rfl | rfl | rfl | rfl | rfl | rfl : k = 0 ∨ k = 1 ∨ k = 2 ∨ k = 3 ∨ k = 4 ∨ k = 5 ∨ k = 6 := by omega
  all_goals exact ⟨by decide, by decide, by decide⟩
theorem nth_back {p : Int × Int} (h1 : -53 ≤ p.1 ∧ p.1 ≤ 53) (h2 : 1 ≤ p.2 ∧ p.2 ≤ 7) (hl : headB letterP l = false) : rnthP N (at0 (nthT p ++ l) a) = (at0 l a, p) := by
  obtain ⟨n, d⟩ := p
  dsimp only at h1 h2
  obtain ⟨k, hk, rfl⟩ : ∃ k : Nat, k < 7 ∧ d = (k : Int) + 1 := ⟨d.toNat - 1, by omega, by omega⟩
  obtain ⟨w1, w2, w3⟩ := dy_word hk
  have e0 : ((k : Int) + 1).toNat - 1 = k := by omega
  have e1 : nthT (n, (k : Int) + 1) = if n = 0 then dyNm k else Lib.itoa n ++ dyNm k := by
    unfold nthT
    dsimp only
    rw [if_neg (by omega), e0]
  rw [e1]
  unfold rnthP
  dsimp only
  by_cases hn : n = 0
  · subst hn
    rw [if_pos rfl]
    have hs : ¬ signedB (peekP (at0 (dyNm k ++ l) a)) = true := by
      obtain ⟨c, r, hc, hlt⟩ : ∃ c r, dyNm k = c :: r ∧ letterP c = true := by
        cases hq : dyNm k with
        | nil => exact absurd hq w2
        | cons c r => exact ⟨c, r, rfl, w3 c (by rw [hq]; simp)⟩
      rw [hc]
      show ¬ signedB ((c.toNat : Int)) = true
      unfold letterP at hlt
      unfold signedB
      rw [decide_eq_true_eq] at hlt ⊢
      omega
    rw [if_neg hs]
    dsimp only
    rw [one_back w1 w2 w3 hl]
  · rw [if_neg hn, List.append_assoc]
    have hs : signedB (peekP (at0 (Lib.itoa n ++ (dyNm k ++ l)) a)) = true := by
      by_cases hneg : n < 0
      · have e : Lib.itoa n = 45 :: Lib.decDigits n.natAbs := by unfold Lib.itoa; rw [if_pos hneg]
        rw [e]
        exact (by decide : signedB 45 = true)
      · obtain ⟨u, rfl⟩ := Int.eq_ofNat_of_zero_le (show 0 ≤ n by omega)
        rw [itoa_nat]
        obtain ⟨d1, d2, d3, d4⟩ := dec_digits u
        cases hq : Lib.decDigits u with
        | nil => exact absurd hq d3
        | cons c r =>
          have hc := d1 c (by rw [hq]; simp)
          unfold digitP at hc
          rw [decide_eq_true_eq] at hc
          show signedB ((c.toNat : Int)) = true
          unfold signedB
          rw [decide_eq_true_eq]
          omega
    rw [if_pos hs]
    have hd : headB digitP (dyNm k ++ l) = false := by
      unfold dyNm
      repeat' split
      all_goals rfl
    rw [sign_back hn h1 (by decide) hd]
    dsimp only
    rw [one_back w1 w2 w3 hl]
theorem join2 (f : List UInt8) (g : List UInt8) (r : List (List UInt8)) : Lib.join (f :: g :: r) [44] = f ++ 44 :: Lib.join (g :: r) [44] := by
  rw [Lib.join_cons, Lib.join_cons]
  simp [Lib.joinTail]
theorem rlist_back {α : Type} (txt : α → List UInt8) (one : PS → PS × α) (S : List UInt8 → Prop) (h44 : ∀ m, S (44 :: m)) : ∀ (is : List α) (q : Nat) (l : List UInt8), is ≠ [] → is.length ≤ q + 1 → (∀ i ∈ is, ∀ m, S m → one (at0 (txt i ++ m) a) = (at0 m a, i)) → S l → headB (· == 44) l = false → rlistP N one q (at0 (Lib.join (is.map txt) [44] ++ l) a) = (at0 l a, is)
  | [], _, _, h, _, _, _, _ => absurd rfl h
  | [i], q, l, _, hq, hi, hl, hn => by
    have e : Lib.join ([i].map txt) [44] ++ l = txt i ++ l := by
      rw [List.map_cons, List.map_nil, Lib.join_cons]
      simp [Lib.joinTail]
    have h1 := hi i (by simp) l hl
    rw [e]
    cases q with
    | zero => unfold rlistP; rw [h1]; dsimp only; rw [is_not hn]; dsimp only; rw [if_neg (by decide)]
    | succ q => unfold rlistP; rw [h1]; dsimp only; rw [is_not hn]; dsimp only; rw [if_neg (by decide)]
  | i :: j :: is, q, l, _, hq, hi, hl, hn => by
    have e : Lib.join ((i :: j :: is).map txt) [44] ++ l = txt i ++ 44 :: (Lib.join ((j :: is).map txt) [44] ++ l) := by
      rw [List.map_cons, List.map_cons, join2, List.append_assoc, List.cons_append, ← List.map_cons]
    obtain ⟨q, rfl⟩ : ∃ p, q = p + 1 := ⟨q - 1, by simp at hq; omega⟩
    have h1 := hi i (by simp) _ (h44 (Lib.join ((j :: is).map txt) [44] ++ l))
    rw [e]
    unfold rlistP
    rw [h1]
    dsimp only
    rw [is_at]
    dsimp only
    rw [if_pos rfl, rlist_back txt one S h44 (j :: is) q l (by simp) (by simp at hq ⊢; omega) (fun x hx => hi x (List.mem_cons_of_mem _ hx)) hl hn]
def NoDig (l : List UInt8) : Prop := headB digitP l = false
theorem nums_back {lo hi : Int} (h0 : 0 ≤ lo) (h9 : hi < 100) {is : List Int} (hne : is ≠ []) (h : listE is lo hi = 0) (hl : Sem l) : numsP N lo hi (at0 (Lib.join (is.map Lib.itoa) [44] ++ l) a) = (at0 l a, is) := by
  unfold listE at h
  split at h
  · cases h
  · split at h
    · cases h
    · rename_i h1 h2
      have hall : ∀ i ∈ is, lo ≤ i ∧ i ≤ hi := by
        intro i hi'
        have : ¬ outC lo hi i = true := fun e => h2 (List.any_eq_true.2 ⟨i, hi', e⟩)
        unfold outC at this
        rw [decide_eq_true_eq] at this
        omega
      exact rlist_back Lib.itoa _ NoDig (fun m => by rfl) is 63 l hne (by omega) (fun i hi' m hm => rnum_back (by decide) (hall i hi') (by have := hall i hi'; omega) (by have := hall i hi'; simp; omega) hm) (hl.head (by decide)) (hl.head (by decide))
theorem days_back' {r : RuV} (hne : r.da ≠ []) (h : daysE r = 0) (hl : Sem l) : rlistP N (signP N 31) 63 (at0 (Lib.join (r.da.map Lib.itoa) [44] ++ l) a) = (at0 l a, r.da) := by
  unfold daysE at h
  split at h
  · rename_i h1; exact absurd h h1
  · rename_i h1
    split at h
    · cases h
    · rename_i h2
      have h1 : listE r.da (-31) 31 = 0 := by simpa using h1
      unfold listE at h1
      split at h1
      · cases h1
      · split at h1
        · cases h1
        · rename_i h3 h4
          have hall : ∀ i ∈ r.da, i ≠ 0 ∧ -31 ≤ i ∧ i ≤ 31 := by
            intro i hi'
            have g1 : ¬ outC (-31) 31 i = true := fun e => h4 (List.any_eq_true.2 ⟨i, hi', e⟩)
            have g2 : ¬ decide (i = 0) = true := fun e => h2 (List.any_eq_true.2 ⟨i, hi', e⟩)
            unfold outC at g1
            rw [decide_eq_true_eq] at g1 g2
            omega
          exact rlist_back Lib.itoa _ NoDig (fun m => by rfl) r.da 63 l hne (by omega) (fun i hi' m hm => sign_back (hall i hi').1 (hall i hi').2 (by decide) hm) (hl.head (by decide)) (hl.head (by decide))
def NoLet (l : List UInt8) : Prop := headB letterP l = false
theorem weeks_back {r : RuV} (hne : r.wk ≠ []) (h : weeksE r = 0) (hl : Sem l) : rlistP N (rnthP N) 63 (at0 (Lib.join (r.wk.map nthT) [44] ++ l) a) = (at0 l a, r.wk) := by
  unfold weeksE at h
  split at h
  · cases h
  · split at h
    · cases h
    · rename_i h1 h2
      have hall : ∀ i ∈ r.wk, (-53 ≤ i.1 ∧ i.1 ≤ 53) ∧ (1 ≤ i.2 ∧ i.2 ≤ 7) := by
        intro i hi'
        have g1 : ¬ outC (-53) 53 i.1 = true := fun e => h2 (.inl (List.any_eq_true.2 ⟨i.1, List.mem_map.2 ⟨i, hi', rfl⟩, e⟩))
        have g2 : ¬ badDay i = true := fun e => h2 (.inr (List.any_eq_true.2 ⟨i, hi', e⟩))
        unfold outC at g1
        unfold badDay at g2
        rw [decide_eq_true_eq] at g1 g2
        omega
      exact rlist_back nthT _ NoLet (fun m => by rfl) r.wk 63 l hne (by omega) (fun i hi' m hm => nth_back (hall i hi').1 (hall i hi').2 hm) (hl.head (by decide)) (hl.head (by decide))
/-- What comes behind a part: more parts, or the end. -/
def contP (N q : Nat) (S : RS) : RS := if (isP [59] S.σ).2 = true then partsP N q ⟨(isP [59] S.σ).1, S.r, S.T⟩ else ⟨(isP [59] S.σ).1, S.r, S.T⟩
theorem parts_cont (q : Nat) (S : RS) : partsP N (q + 1) S = contP N q (partP N S) := rfl
theorem cont_end (q : Nat) (r : RuV) (T : List (List UInt8)) : contP N q ⟨at0 [] a, r, T⟩ = ⟨at0 [] a, r, T⟩ := by
  unfold contP
  rw [is_not (by rfl)]
  dsimp only
  rw [if_neg (by decide)]
theorem paN_letters : ∀ w ∈ paN, w ≠ [] ∧ w ∉ paLeft ∧ ∀ c ∈ w, letterP c = true := by decide
theorem paN_idx : ∀ k, k < 11 → wIdx (paN.getD k []) paN = (k : Int) := by
  intro k hk
  obtain rfl | rfl | rfl | rfl | rfl | rfl | rfl | rfl | rfl | rfl | rfl : k = 0 ∨ k = 1 ∨ k = 2 ∨ k = 3 ∨ k = 4 ∨ k = 5 ∨ k = 6 ∨ k = 7 ∨ k = 8 ∨ k = 9 ∨ k = 10 := by omega
  all_goals decide
/-- The parts that are there are among the first k. -/
def Among (k : Nat) (T : List (List UInt8)) : Prop := ∀ w ∈ T, ∃ j, j < k ∧ w = paN.getD j []
theorem Among.mono {k : Nat} {T : List (List UInt8)} (h : Among k T) : Among (k + 1) T := fun w hw => by
  obtain ⟨j, hj, e⟩ := h w hw
  exact ⟨j, by omega, e⟩
theorem Among.cons {k : Nat} {T : List (List UInt8)} (h : Among k T) : Among (k + 1) (paN.getD k [] :: T) := fun w hw => by
  rcases List.mem_cons.1 hw with rfl | hw
  · exact ⟨k, by omega, rfl⟩
  · exact h.mono w hw
theorem part_back {k : Nat} (hk : k < 11) {v : List UInt8} {r r' : RuV} {T : List (List UInt8)} (hT : Among k T) (hv : partK N k r (at0 (v ++ l) a) = (at0 l a, r')) : partP N ⟨at0 (paN.getD k [] ++ 61 :: (v ++ l)) a, r, T⟩ = ⟨at0 l a, r', paN.getD k [] :: T⟩ := by
  have hmem : paN.getD k [] ∈ paN := by
    rw [List.getD_eq_getElem?_getD, List.getElem?_eq_getElem (show k < paN.length from hk)]
    exact List.getElem_mem _
  obtain ⟨w1, w2, w3⟩ := paN_letters _ hmem
  have wi := paN_idx k hk
  have hn : paN.getD k [] ∉ T := by
    intro hin
    obtain ⟨j, hj, e⟩ := hT _ hin
    have := paN_idx j (by omega)
    rw [← e, wi] at this
    omega
  generalize paN.getD k [] = w at *
  obtain ⟨t1, t2⟩ := take_app (l := 61 :: (v ++ l)) w3 (by rfl)
  have hs : someP letterP (at0 (w ++ 61 :: (v ++ l)) a) = (at0 (61 :: (v ++ l)) a, w) := by
    unfold someP
    rw [if_pos rfl]
    simp only [t1, t2]
  unfold partP
  dsimp only
  rw [hs]
  dsimp only
  rw [if_neg w1, if_neg w2, wi, if_neg (by omega), if_neg hn, must_at (by decide)]
  dsimp only
  rw [show ((k : Nat) : Int).toNat = k by omega, hv]
/-- A part that is there, or isn't. -/
def optT (b : Bool) (k : Nat) (v : List UInt8) : List UInt8 := if b = true then 59 :: (paN.getD k [] ++ 61 :: v) else []
theorem opt_sem (b : Bool) (k : Nat) (v l : List UInt8) (h : Sem l) : Sem (optT b k v ++ l) := by
  unfold optT
  split
  · exact .inr ⟨_, rfl⟩
  · exact h
theorem cont_opt {b : Bool} {k q : Nat} (hk : k < 11) {v : List UInt8} {r r' : RuV} {T : List (List UInt8)} (hT : Among k T) (hv : b = true → partK N k r (at0 (v ++ l) a) = (at0 l a, r')) (hr : b = false → r' = r) :
    ∃ q' T', q ≤ q' ∧ Among (k + 1) T' ∧ (∀ w ∈ T, w ∈ T') ∧ contP N (q + 1) ⟨at0 (optT b k v ++ l) a, r, T⟩ = contP N q' ⟨at0 l a, r', T'⟩ := by
  cases b with
  | false =>
    rw [hr rfl]
    exact ⟨q + 1, T, by omega, hT.mono, fun _ h => h, rfl⟩
  | true =>
    refine ⟨q, paN.getD k [] :: T, Nat.le_refl _, hT.cons, fun _ h => List.mem_cons_of_mem _ h, ?_⟩
    have e : optT true k v ++ l = 59 :: (paN.getD k [] ++ 61 :: (v ++ l)) := by
      unfold optT
      rw [if_pos rfl]
      simp
    rw [e]
    conv => lhs; unfold contP
    rw [is_at]
    dsimp only
    rw [if_pos rfl, parts_cont, part_back hk hT (hv rfl)]
/-- A rule's first k parts. -/
def upR (r : RuV) (k : Nat) : RuV := ⟨r.st, if 0 < k then r.fr else 0, if 1 < k then r.iv else 1, if 2 < k then r.ct else 0, if 3 < k then r.un else -1, if 4 < k then r.mo else [], if 5 < k then r.da else [], if 6 < k then r.wk else [], if 7 < k then r.ho else [], if 8 < k then r.mi else [], if 9 < k then r.se else []⟩
theorem upR_all (r : RuV) : upR r 10 = r := rfl
/-- Is a rule's part written, and how? -/
def paB (r : RuV) (k : Nat) : Bool := if k = 1 then decide (r.iv ≠ 1) else if k = 2 then decide (r.ct ≠ 0) else if k = 3 then decide (r.un ≠ -1) else if k = 4 then decide (r.mo ≠ []) else if k = 5 then decide (r.da ≠ []) else if k = 6 then decide (r.wk ≠ []) else if k = 7 then decide (r.ho ≠ []) else if k = 8 then decide (r.mi ≠ []) else decide (r.se ≠ [])
def paV (r : RuV) (k : Nat) : List UInt8 := if k = 1 then Lib.itoa r.iv else if k = 2 then Lib.itoa r.ct else if k = 3 then basicT r.un else if k = 4 then Lib.join (r.mo.map Lib.itoa) [44] else if k = 5 then Lib.join (r.da.map Lib.itoa) [44] else if k = 6 then Lib.join (r.wk.map nthT) [44] else if k = 7 then Lib.join (r.ho.map Lib.itoa) [44] else if k = 8 then Lib.join (r.mi.map Lib.itoa) [44] else Lib.join (r.se.map Lib.itoa) [44]
theorem unl_opt {nm tx : List UInt8} {n q : Int} {k : Nat} (h : nm = 59 :: (paN.getD k [] ++ [61])) : unlT nm n q tx = optT (decide (n ≠ q)) k tx := by
  unfold unlT optT
  by_cases e : n = q
  · rw [if_pos e, if_neg (by simpa using e)]
  · rw [if_neg e, if_pos (by simpa using e), h]
    simp
theorem part_opt {α : Type} {nm : List UInt8} {xs : List α} {f : α → List UInt8} {k : Nat} [DecidableEq α] (h : nm = 59 :: (paN.getD k [] ++ [61])) : partT nm (xs.map f) = optT (decide (xs ≠ [])) k (Lib.join (xs.map f) [44]) := by
  unfold partT optT
  by_cases e : xs = []
  · rw [if_pos (by rw [e]; rfl), if_neg (by simpa using e)]
  · rw [if_neg (by simpa using e), if_pos (by simpa using e), h]
    simp
/-- The text of a rule behind its first part. -/
def restT (r : RuV) (k : Nat) : List UInt8 := (List.range' k (10 - k)).flatMap (fun j => optT (paB r j) j (paV r j))
theorem restT_step (r : RuV) {k : Nat} (hk : k < 10) : restT r k = optT (paB r k) k (paV r k) ++ restT r (k + 1) := by
  unfold restT
  rw [show 10 - k = (10 - (k + 1)) + 1 by omega, List.range'_succ, List.flatMap_cons]
theorem restT_end (r : RuV) : restT r 10 = [] := rfl
theorem restT_sem (r : RuV) : ∀ q k, k + q = 10 → Sem (restT r k)
  | 0, k, h => by obtain rfl : k = 10 := by omega
                  exact .inl rfl
  | q + 1, k, h => by
    rw [restT_step r (by omega)]
    exact opt_sem _ _ _ _ (restT_sem r q (k + 1) (by omega))
theorem ruT_form (r : RuV) : ruT r = [68, 84, 83, 84, 65, 82, 84] ++ 58 :: (basicT r.st ++ 10 :: ([82, 82, 85, 76, 69] ++ 58 :: (paN.getD 0 [] ++ 61 :: (unT r.fr ++ restT r 1)))) := by
  rw [restT_step r (by decide), restT_step r (by decide), restT_step r (by decide), restT_step r (by decide), restT_step r (by decide), restT_step r (by decide), restT_step r (by decide), restT_step r (by decide), restT_step r (by decide), restT_end]
  unfold ruT
  rw [unl_opt (nm := [59, 73, 78, 84, 69, 82, 86, 65, 76, 61]) (k := 1) rfl, unl_opt (nm := [59, 67, 79, 85, 78, 84, 61]) (k := 2) rfl, unl_opt (nm := [59, 85, 78, 84, 73, 76, 61]) (k := 3) rfl, part_opt (nm := [59, 66, 89, 77, 79, 78, 84, 72, 61]) (k := 4) rfl, part_opt (nm := [59, 66, 89, 77, 79, 78, 84, 72, 68, 65, 89, 61]) (k := 5) rfl, part_opt (nm := [59, 66, 89, 68, 65, 89, 61]) (k := 6) rfl, part_opt (nm := [59, 66, 89, 72, 79, 85, 82, 61]) (k := 7) rfl, part_opt (nm := [59, 66, 89, 77, 73, 78, 85, 84, 69, 61]) (k := 8) rfl, part_opt (nm := [59, 66, 89, 83, 69, 67, 79, 78, 68, 61]) (k := 9) rfl]
  simp only [List.append_assoc, List.cons_append, List.nil_append, List.append_nil]
  rfl
theorem partK_back {r : RuV} (hc : chkR r = 0) (h15 : Num15 r) {k : Nat} (h1 : 1 ≤ k) (hk : k < 10) (hb : paB r k = true) (hl : Sem l) : partK N k (upR r k) (at0 (paV r k ++ l) a) = (at0 l a, upR r (k + 1)) := by
  have hf := fault_all hc
  have hH : headE r = 0 := hf 0 (by decide)
  have hd : headB digitP l = false := hl.head (by decide)
  obtain ⟨i1, i2, c1, c2⟩ := h15
  obtain rfl | rfl | rfl | rfl | rfl | rfl | rfl | rfl | rfl : k = 1 ∨ k = 2 ∨ k = 3 ∨ k = 4 ∨ k = 5 ∨ k = 6 ∨ k = 7 ∨ k = 8 ∨ k = 9 := by omega
  · have e := rnum_back (N := N) (a := a) (l := l) (most := 15) (lo := 1) (hi := 999999999999999) (n := r.iv) (by decide) ⟨by omega, by omega⟩ (by omega) (by simp; omega) hd
    show ((rnumP N 15 1 999999999999999 (at0 (Lib.itoa r.iv ++ l) a)).1, ({ upR r 1 with iv := (rnumP N 15 1 999999999999999 (at0 (Lib.itoa r.iv ++ l) a)).2 } : RuV)) = _
    rw [e]; rfl
  · have hne : r.ct ≠ 0 := by have hb : decide (r.ct ≠ 0) = true := hb; exact of_decide_eq_true hb
    have e := rnum_back (N := N) (a := a) (l := l) (most := 15) (lo := 1) (hi := 999999999999999) (n := r.ct) (by decide) ⟨by omega, by omega⟩ (by omega) (by simp; omega) hd
    show ((rnumP N 15 1 999999999999999 (at0 (Lib.itoa r.ct ++ l) a)).1, ({ upR r 2 with ct := (rnumP N 15 1 999999999999999 (at0 (Lib.itoa r.ct ++ l) a)).2 } : RuV)) = _
    rw [e]; rfl
  · have hne : r.un ≠ -1 := by have hb : decide (r.un ≠ -1) = true := hb; exact of_decide_eq_true hb
    have hin : inC r.un = true := by
      unfold headE at hH
      split at hH
      · cases hH
      · split at hH
        · cases hH
        · rename_i h5
          cases hq : inC r.un with
          | true => rfl
          | false => exact absurd ⟨hne, hq⟩ h5
    have e := inst_back (N := N) (a := a) (l := l) hin (hl.head (by decide))
    show ((instP N (at0 (basicT r.un ++ l) a)).1, ({ upR r 3 with un := (instP N (at0 (basicT r.un ++ l) a)).2 } : RuV)) = _
    rw [e]; rfl
  · have hne : r.mo ≠ [] := by have hb : decide (r.mo ≠ []) = true := hb; exact of_decide_eq_true hb
    have e := nums_back (N := N) (a := a) (l := l) (lo := 1) (hi := 12) (by decide) (by decide) hne (hf 1 (by decide)) hl
    show ((numsP N 1 12 (at0 (Lib.join (r.mo.map Lib.itoa) [44] ++ l) a)).1, ({ upR r 4 with mo := (numsP N 1 12 (at0 (Lib.join (r.mo.map Lib.itoa) [44] ++ l) a)).2 } : RuV)) = _
    rw [e]; rfl
  · have hne : r.da ≠ [] := by have hb : decide (r.da ≠ []) = true := hb; exact of_decide_eq_true hb
    have e := days_back' (N := N) (a := a) (l := l) hne (hf 2 (by decide)) hl
    show ((rlistP N (signP N 31) 63 (at0 (Lib.join (r.da.map Lib.itoa) [44] ++ l) a)).1, ({ upR r 5 with da := (rlistP N (signP N 31) 63 (at0 (Lib.join (r.da.map Lib.itoa) [44] ++ l) a)).2 } : RuV)) = _
    rw [e]; rfl
  · have hne : r.wk ≠ [] := by have hb : decide (r.wk ≠ []) = true := hb; exact of_decide_eq_true hb
    have e := weeks_back (N := N) (a := a) (l := l) hne (hf 3 (by decide)) hl
    show ((rlistP N (rnthP N) 63 (at0 (Lib.join (r.wk.map nthT) [44] ++ l) a)).1, ({ upR r 6 with wk := (rlistP N (rnthP N) 63 (at0 (Lib.join (r.wk.map nthT) [44] ++ l) a)).2 } : RuV)) = _
    rw [e]; rfl
  · have hne : r.ho ≠ [] := by have hb : decide (r.ho ≠ []) = true := hb; exact of_decide_eq_true hb
    have e := nums_back (N := N) (a := a) (l := l) (lo := 0) (hi := 23) (by decide) (by decide) hne (hf 4 (by decide)) hl
    show ((numsP N 0 23 (at0 (Lib.join (r.ho.map Lib.itoa) [44] ++ l) a)).1, ({ upR r 7 with ho := (numsP N 0 23 (at0 (Lib.join (r.ho.map Lib.itoa) [44] ++ l) a)).2 } : RuV)) = _
    rw [e]; rfl
  · have hne : r.mi ≠ [] := by have hb : decide (r.mi ≠ []) = true := hb; exact of_decide_eq_true hb
    have e := nums_back (N := N) (a := a) (l := l) (lo := 0) (hi := 59) (by decide) (by decide) hne (hf 5 (by decide)) hl
    show ((numsP N 0 59 (at0 (Lib.join (r.mi.map Lib.itoa) [44] ++ l) a)).1, ({ upR r 8 with mi := (numsP N 0 59 (at0 (Lib.join (r.mi.map Lib.itoa) [44] ++ l) a)).2 } : RuV)) = _
    rw [e]; rfl
  · have hne : r.se ≠ [] := by have hb : decide (r.se ≠ []) = true := hb; exact of_decide_eq_true hb
    have e := nums_back (N := N) (a := a) (l := l) (lo := 0) (hi := 59) (by decide) (by decide) hne (hf 6 (by decide)) hl
    show ((numsP N 0 59 (at0 (Lib.join (r.se.map Lib.itoa) [44] ++ l) a)).1, ({ upR r 9 with se := (numsP N 0 59 (at0 (Lib.join (r.se.map Lib.itoa) [44] ++ l) a)).2 } : RuV)) = _
    rw [e]; rfl
theorem upR_same {r : RuV} {k : Nat} (h1 : 1 ≤ k) (hk : k < 10) (hb : paB r k = false) : upR r (k + 1) = upR r k := by
  obtain rfl | rfl | rfl | rfl | rfl | rfl | rfl | rfl | rfl : k = 1 ∨ k = 2 ∨ k = 3 ∨ k = 4 ∨ k = 5 ∨ k = 6 ∨ k = 7 ∨ k = 8 ∨ k = 9 := by omega
  all_goals
    have hb' := of_decide_eq_false hb
    rw [Decidable.not_not] at hb'
    unfold upR
    simp [hb']
theorem rest_back {r : RuV} (hc : chkR r = 0) (h15 : Num15 r) : ∀ (p k q : Nat) (T : List (List UInt8)), k + p = 10 → 1 ≤ k → p ≤ q → Among k T → paN.getD 0 [] ∈ T → ∃ T', paN.getD 0 [] ∈ T' ∧ contP N q ⟨at0 (restT r k) a, upR r k, T⟩ = ⟨at0 [] a, r, T'⟩
  | 0, k, q, T, h, h1, hq, hT, hF => by
    obtain rfl : k = 10 := by omega
    exact ⟨T, hF, by rw [restT_end, cont_end, upR_all]⟩
  | p + 1, k, q, T, h, h1, hq, hT, hF => by
    obtain ⟨q, rfl⟩ : ∃ m, q = m + 1 := ⟨q - 1, by omega⟩
    rw [restT_step r (by omega)]
    have hS := restT_sem r p (k + 1) (by omega)
    obtain ⟨q', T', g1, g2, g3, g4⟩ := cont_opt (N := N) (a := a) (l := restT r (k + 1)) (b := paB r k) (q := q) (v := paV r k) (r := upR r k) (r' := upR r (k + 1)) (by omega) hT (fun hb => partK_back hc h15 h1 (by omega) hb hS) (fun hb => upR_same h1 (by omega) hb)
    rw [g4]
    exact rest_back hc h15 p (k + 1) q' T' (by omega) (by omega) (by omega) g2 (g3 _ hF)
theorem rmust_at {t : List UInt8} (ht : t ≠ []) (l : List UInt8) : rmustP N t (at0 (t ++ l) a) = at0 l a := by
  have e : textP t (at0 (t ++ l) a) = (at0 l a, true) := by
    unfold textP
    rw [if_pos ⟨rfl, ht, ⟨l, rfl⟩⟩]
    dsimp only
    rw [List.drop_left]
  unfold rmustP
  rw [e]
  rfl
end
/-- There and back. -/
theorem rread_back {r : RuV} (hc : chkR r = 0) (h15 : Num15 r) (hl : (ruT r).length ≤ 8192) : rread (ruT r) = .ok r := by
  have hf := fault_all hc
  have hH : headE r = 0 := hf 0 (by decide)
  have hst : inC r.st = true ∧ 0 ≤ r.fr ∧ r.fr < 7 := by
    unfold headE at hH
    split at hH
    · cases hH
    · rename_i h4
      refine ⟨?_, ?_⟩
      · cases hq : inC r.st with
        | true => rfl
        | false => exact absurd (.inl hq) h4
      · false_or_by_contra
        rename_i h5
        exact h4 (.inr (.inl (unT_ne.2 h5)))
  obtain ⟨kf, ek, w1, w2, w3⟩ := un_word hst.2
  have hS := restT_sem r 9 1 (by omega)
  have hN : 100 ≤ 100 := Nat.le_refl _
  have h30 : 30 ≤ (ruT r).length := by
    obtain ⟨a0, a1, a2, a3, b0, b1, c0, c1, e0, e1, f0, f1, g0, g1, hT, _⟩ := basic_form hst.1
    rw [ruT_form, hT]
    simp [paN]
  generalize hL : (ruT r).length = L at *
  have hhead : rheadP L (at0 (ruT r) 0) = (at0 (paN.getD 0 [] ++ 61 :: (unT r.fr ++ restT r 1)) 0, r.st) := by
    rw [ruT_form]
    unfold rheadP
    dsimp only
    rw [rmust_at (by decide)]
    have hp : ¬ peekP (at0 (58 :: (basicT r.st ++ 10 :: ([82, 82, 85, 76, 69] ++ 58 :: (paN.getD 0 [] ++ 61 :: (unT r.fr ++ restT r 1))))) 0) = 59 := by
      show ¬ ((58 : UInt8).toNat : Int) = 59
      decide
    rw [if_neg hp, must_at (by decide)]
    dsimp only
    rw [inst_back hst.1 (by rfl)]
    dsimp only
    rw [must_at (by decide)]
    dsimp only
    rw [rmust_at (by decide), must_at (by decide)]
  have hone : partK L 0 { ruOne with st := r.st } (at0 (unT r.fr ++ restT r 1) 0) = (at0 (restT r 1) 0, upR r 1) := by
    have e := one_back (N := L) (a := 0) (l := restT r 1) w1 w2 w3 (hS.head (by decide))
    show ((oneP L unN (at0 (unT r.fr ++ restT r 1) 0)).1, ({ ({ ruOne with st := r.st } : RuV) with fr := (oneP L unN (at0 (unT r.fr ++ restT r 1) 0)).2 } : RuV)) = _
    rw [e, ← ek]
    rfl
  have hpart := part_back (N := L) (a := 0) (l := restT r 1) (k := 0) (by decide) (T := []) (fun w hw => by cases hw) hone
  obtain ⟨T', g1, g2⟩ := rest_back (N := L) (a := 0) hc h15 9 1 (L - 1) [paN.getD 0 []] (by omega) (by omega) (by omega) (fun w hw => ⟨0, by omega, by simpa using hw⟩) (by simp)
  have hparts : partsP L L ⟨at0 (paN.getD 0 [] ++ 61 :: (unT r.fr ++ restT r 1)) 0, { ruOne with st := r.st }, []⟩ = ⟨at0 [] 0, r, T'⟩ := by
    have e : partsP L L = partsP L ((L - 1) + 1) := by rw [show L - 1 + 1 = L by omega]
    rw [e, parts_cont, hpart, g2]
  have hnew : rpsNew (ruT r) = at0 (ruT r) 0 := by
    unfold rpsNew
    rw [hL, if_neg (by omega), if_neg (by omega)]
  have hall : rallP (ruT r) = ⟨at0 [] 0, r, T'⟩ := by
    unfold rallP
    dsimp only
    rw [hnew, hL, hhead]
    dsimp only
    rw [hparts]
    dsimp only
    have he : endP L (at0 [] 0) = at0 [] 0 := by
      unfold endP
      rw [if_pos (by decide)]
    rw [if_pos (show paN[0] ∈ T' from g1), he]
  unfold rread
  rw [hall]
  dsimp only
  rw [if_neg (by decide), if_neg (by simpa using hc)]
end Go.Proofs.YtnelecjjbmjhaaaGreatDoor

namespace Go.Proofs.YtnelecjjbmjhaaaGreatDoor
open Go.RowKit
set_option linter.unusedSimpArgs false
set_option linter.unusedVariables false

theorem listE_in {l : List Int} {lo hi : Int} (h : listE l lo hi = 0) : l.length ≤ 64 ∧ ∀ x ∈ l, lo ≤ x ∧ x ≤ hi := by
  unfold listE at h
  split at h
  · cases h
  · split at h
    · cases h
    · rename_i h1 h2
      refine ⟨by omega, fun i hi' => ?_⟩
      have : ¬ outC lo hi i = true := fun e => h2 (List.any_eq_true.2 ⟨i, hi', e⟩)
      unfold outC at this
      rw [decide_eq_true_eq] at this
      omega
theorem chk_lens {r : RuV} (hc : chkR r = 0) : RuWf r ∧ r.mo.length ≤ 64 ∧ r.da.length ≤ 64 ∧ r.wk.length ≤ 64 ∧ r.ho.length ≤ 64 ∧ r.mi.length ≤ 64 ∧ r.se.length ≤ 64 := by
  have hf := fault_all hc
  have h0 : headE r = 0 := hf 0 (by decide)
  obtain ⟨l1, m1⟩ := listE_in (show listE r.mo 1 12 = 0 from hf 1 (by decide))
  have h2 : daysE r = 0 := hf 2 (by decide)
  have h3 : weeksE r = 0 := hf 3 (by decide)
  obtain ⟨l4, m4⟩ := listE_in (show listE r.ho 0 23 = 0 from hf 4 (by decide))
  obtain ⟨l5, m5⟩ := listE_in (show listE r.mi 0 59 = 0 from hf 5 (by decide))
  obtain ⟨l6, m6⟩ := listE_in (show listE r.se 0 59 = 0 from hf 6 (by decide))
  obtain ⟨l2, m2⟩ : r.da.length ≤ 64 ∧ ∀ x ∈ r.da, -31 ≤ x ∧ x ≤ 31 := by
    unfold daysE at h2
    split at h2
    · rename_i h; exact absurd h2 h
    · rename_i h; exact listE_in (by simpa using h)
  obtain ⟨l3, m3⟩ : r.wk.length ≤ 64 ∧ ∀ x ∈ r.wk, -53 ≤ x.1 ∧ x.1 ≤ 53 := by
    unfold weeksE at h3
    split at h3
    · cases h3
    · split at h3
      · cases h3
      · rename_i h1 h2'
        refine ⟨by omega, fun i hi' => ?_⟩
        have g1 : ¬ outC (-53) 53 i.1 = true := fun e => h2' (.inl (List.any_eq_true.2 ⟨i.1, List.mem_map.2 ⟨i, hi', rfl⟩, e⟩))
        unfold outC at g1
        rw [decide_eq_true_eq] at g1
        omega
  have hin : ∀ t, inC t = true → In64 t := fun t ht => by
    unfold inC at ht
    rw [decide_eq_true_eq] at ht
    constructor <;> omega
  unfold headE at h0
  by_cases h4 : inC r.st = false ∨ unT r.fr = [] ∨ r.iv < 1 ∨ 1000000000000000 < r.iv ∨ r.ct < 0 ∨ 1000000000000000 < r.ct
  · rw [if_pos h4] at h0; cases h0
  · rw [if_neg h4] at h0
    by_cases h5 : r.un ≠ -1 ∧ inC r.un = false
    · rw [if_pos h5] at h0; cases h0
    · have hst : inC r.st = true := by
        cases hq : inC r.st with
        | true => rfl
        | false => exact absurd (.inl hq) h4
      have hfr : 0 ≤ r.fr ∧ r.fr < 7 := by
        false_or_by_contra
        rename_i h6
        exact h4 (.inr (.inl (unT_ne.2 h6)))
      have hun : In64 r.un := by
        by_cases e : r.un = -1
        · rw [e]; constructor <;> decide
        · exact hin _ (by
            cases hq : inC r.un with
            | true => rfl
            | false => exact absurd ⟨e, hq⟩ h5)
      refine ⟨⟨hin _ hst, by constructor <;> omega, by constructor <;> omega, by constructor <;> omega, hun, fun x hx => ?_, fun x hx => ?_, fun x hx => ?_, fun x hx => ?_, fun x hx => ?_, fun x hx => ?_⟩, l1, l2, l3, l4, l5, l6⟩
      · have := m1 x hx; constructor <;> omega
      · have := m2 x hx; constructor <;> omega
      · have := m3 x hx; constructor <;> omega
      · have := m4 x hx; constructor <;> omega
      · have := m5 x hx; constructor <;> omega
      · have := m6 x hx; constructor <;> omega
theorem ruT_len {r : RuV} (hc : chkR r = 0) : (ruT r).length ≤ 1000000 := by
  obtain ⟨wf, l1, l2, l3, l4, l5, l6⟩ := chk_lens hc
  have hi : ∀ l : List Int, (∀ x ∈ l, In64 x) → ∀ x ∈ l.map Lib.itoa, x.length ≤ 60 := fun l hl x hx => by
    obtain ⟨y, hy, rfl⟩ := List.mem_map.1 hx
    have := itoa_le (hl y hy)
    omega
  have hw : ∀ x ∈ r.wk.map nthT, x.length ≤ 60 := fun x hx => by
    obtain ⟨y, hy, rfl⟩ := List.mem_map.1 hx
    have := nthT_len (wf.wk y hy)
    omega
  have u1 := unlT_len (nm := [59, 73, 78, 84, 69, 82, 86, 65, 76, 61]) (tx := Lib.itoa r.iv) (n := r.iv) (q := 1) (by decide) (by have := itoa_le wf.iv; omega)
  have u2 := unlT_len (nm := [59, 67, 79, 85, 78, 84, 61]) (tx := Lib.itoa r.ct) (n := r.ct) (q := 0) (by decide) (by have := itoa_le wf.ct; omega)
  have u3 := unlT_len (nm := [59, 85, 78, 84, 73, 76, 61]) (tx := basicT r.un) (n := r.un) (q := -1) (by decide) (basicT_len _)
  have p1 := partT_len (nm := [59, 66, 89, 77, 79, 78, 84, 72, 61]) (xs := r.mo.map Lib.itoa) (by decide) (hi _ wf.mo) (by rw [List.length_map]; omega)
  have p2 := partT_len (nm := [59, 66, 89, 77, 79, 78, 84, 72, 68, 65, 89, 61]) (xs := r.da.map Lib.itoa) (by decide) (hi _ wf.da) (by rw [List.length_map]; omega)
  have p3 := partT_len (nm := [59, 66, 89, 68, 65, 89, 61]) (xs := r.wk.map nthT) (by decide) hw (by rw [List.length_map]; omega)
  have p4 := partT_len (nm := [59, 66, 89, 72, 79, 85, 82, 61]) (xs := r.ho.map Lib.itoa) (by decide) (hi _ wf.ho) (by rw [List.length_map]; omega)
  have p5 := partT_len (nm := [59, 66, 89, 77, 73, 78, 85, 84, 69, 61]) (xs := r.mi.map Lib.itoa) (by decide) (hi _ wf.mi) (by rw [List.length_map]; omega)
  have p6 := partT_len (nm := [59, 66, 89, 83, 69, 67, 79, 78, 68, 61]) (xs := r.se.map Lib.itoa) (by decide) (hi _ wf.se) (by rw [List.length_map]; omega)
  have b1 := basicT_len r.st
  have b2 := unT_len r.fr
  unfold ruT
  simp only [List.length_append, List.length_cons, List.length_nil]
  omega
end Go.Proofs.YtnelecjjbmjhaaaGreatDoor
