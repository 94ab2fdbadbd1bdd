/- The walks of package lex, on: runs of bytes, numbers, words, texts. -/
import Derived.Test.YthkleinjddkhoaaWLex2
import Derived.Deep.LoopGhost
namespace Go.Proofs.Ythkleinjddkhoaa
open Go.RowKit
set_option linter.unusedSimpArgs false
set_option linter.unusedVariables false

/-- A predicate on bytes that leaves the world alone. -/
def PredU (g : Nat) (p : UInt8 → Bool) : Prop := ∀ (W : World) (x : UInt8), Calls Try.prog g #[.int .u8 (x.toNat : Int)] W (RetQ (.bool (p x)) W)

def blankP (c : UInt8) : Bool := decide (c = 32 ∨ c = 9)
def digitP (c : UInt8) : Bool := decide (48 ≤ c.toNat ∧ c.toNat ≤ 57)
def letterP (c : UInt8) : Bool := decide ((97 ≤ c.toNat ∧ c.toNat ≤ 122) ∨ (65 ≤ c.toNat ∧ c.toNat ≤ 90))

theorem u8_lit (a : UInt8) (b : Nat) (hb : b < 256) : (a.toNat = b) ↔ a = UInt8.ofNat b := by
  constructor
  · intro h; apply UInt8.toNat_inj.1; rw [h]; simp; omega
  · rintro rfl; simp; omega

theorem digit1_any : PredU 80 digitP := by
  intro W x
  have e : digitP x = decide (48 ≤ (x.toNat : Int) ∧ (x.toNat : Int) ≤ 57) := by
    unfold digitP
    rw [Bool.eq_iff_iff]
    simp only [decide_eq_true_eq]
    omega
  rw [e]
  generalize hc : (x.toNat : Int) = c
  clear e hc
  by_cases h1 : 48 ≤ c
  · have e2 : decide (48 ≤ c ∧ c ≤ 57) = decide (c ≤ 57) := by rw [Bool.eq_iff_iff]; simp [h1]
    rw [e2]
    clear e2
    go_enter Try.func80, Try.ntmps80
    go_wp2
    go_ret
    exact ⟨rfl, rfl⟩
  · have e2 : decide (48 ≤ c ∧ c ≤ 57) = false := by simp [h1]
    rw [e2]
    clear e2
    go_enter Try.func80, Try.ntmps80
    go_wp2
    go_ret
    exact ⟨rfl, rfl⟩
theorem letter1_any : PredU 66 letterP := by
  intro W x
  have e : letterP x = decide ((97 ≤ (x.toNat : Int) ∧ (x.toNat : Int) ≤ 122) ∨ (65 ≤ (x.toNat : Int) ∧ (x.toNat : Int) ≤ 90)) := by
    unfold letterP
    rw [Bool.eq_iff_iff]
    simp only [decide_eq_true_eq]
    omega
  rw [e]
  generalize hc : (x.toNat : Int) = c
  clear e hc
  generalize hq : decide ((97 ≤ c ∧ c ≤ 122) ∨ (65 ≤ c ∧ c ≤ 90)) = q
  have HQ := Lib.hid hq
  clear hq
  go_enter Try.func66, Try.ntmps66
  go_wp2
  all_goals go_ret
  all_goals (refine ⟨ret_bool ?_, rfl⟩; rw [← HQ.out]; ((try simp only [beq_iff_eq, beq_eq_false_iff_ne, bne_iff_ne, ne_eq, decide_eq_true_eq, decide_eq_true_eq, decide_eq_false_iff_not, Bool.and_eq_true, Bool.or_eq_true, Bool.not_eq_true', Bool.not_eq_false', Bool.and_eq_false_iff, Bool.or_eq_false_iff] at *)
                                                        rw [Bool.eq_iff_iff]
                                                        (try simp only [decide_eq_true_eq, decide_eq_true_eq, beq_iff_eq, bne_iff_ne, ne_eq, Bool.and_eq_true, Bool.or_eq_true, Bool.not_eq_true', Bool.not_eq_false', beq_eq_false_iff_ne, decide_eq_false_iff_not, iff_true, true_iff, Bool.false_eq_true, false_iff, iff_false, reduceCtorEq])
                                                        omega))

/-- How far a run goes on from k. -/
def runLen (p : UInt8 → Bool) (s : ByteArray) (k : Nat) : Nat := ((s.data.toList.drop k).takeWhile p).length
/-- Where a reader stands behind a run. -/
def someK (p : UInt8 → Bool) (s : ByteArray) (k : Nat) (e : Int) : Nat := if doneB s k e then k else k + runLen p s k

theorem run_stop {p : UInt8 → Bool} {l : List UInt8} {j : Nat} (H : ∀ i x, i < j → l[i]? = some x → p x = true) (hj : j ≤ l.length) (h : ∀ x, l[j]? = some x → p x = false) : (l.takeWhile p).length = j := by
  induction l generalizing j with
  | nil => simp at hj ⊢; omega
  | cons a l ih =>
    cases j with
    | zero =>
      have := h a rfl
      simp [List.takeWhile_cons, this]
    | succ j =>
      have h0 := H 0 a (by omega) rfl
      rw [List.takeWhile_cons, h0]
      simp only [if_true, List.length_cons]
      rw [ih (j := j) (fun i x hi hx => H (i + 1) x (by omega) (by simpa using hx)) (by simpa using hj) (fun x hx => h x (by simpa using hx))]
theorem runLen_stop {p : UInt8 → Bool} {s : ByteArray} {k j : Nat} (hkj : k ≤ j) (hj : j ≤ s.size) (H : ∀ i x, k ≤ i → i < j → s.data.toList[i]? = some x → p x = true) (h : ∀ x, s.data.toList[j]? = some x → p x = false) : runLen p s k = j - k := by
  unfold runLen
  apply run_stop
  · intro i x hi hx
    rw [List.getElem?_drop] at hx
    exact H (k + i) x (by omega) (by omega) hx
  · simp; have : s.data.size = s.size := rfl; omega
  · intro x hx
    rw [List.getElem?_drop] at hx
    exact h x (by rw [show j = k + (j - k) from by omega]; exact hx)

theorem byte_at (s : ByteArray) (k : Nat) (h : k < s.size) : s.data.toList[k]? = some s[k] := by
  rw [List.getElem?_eq_getElem (by simpa using h)]
  rfl
theorem extract_none (s : ByteArray) (k : Nat) : s.extract k k = ⟨#[]⟩ := by
  apply ByteArray.ext
  simp

set_option maxHeartbeats 1000000 in
theorem some_any (b : Nat) (s : ByteArray) (k : Nat) (bad e : Int) (g : Nat) (p : UInt8 → Bool) (w : World) (h : Rdr w b s k bad e) (hs : s.size ≤ 9223372036854775807) (hk : k ≤ s.size)
    (eg : ∀ args w, (callFunc g args).run Try.prog w = .ok (.enter g args) w) (hp : PredU g p) :
    Calls Try.prog 65 #[.pointer (some ⟨b, 0, none⟩), .func (.func g) #[] #[]] w (RetR (.string (s.extract k (someK p s k e))) b s (someK p s k e) bad e w) := by
  have HD := Lib.hid (done_any b s k bad e w h)
  have H := Lib.hid h
  cases hd : doneB s k e with
  | true =>
    rw [hd] at HD
    rw [someK, hd, if_pos rfl, extract_none]
    clear hd h hp eg
    go_enter Try.func65, Try.ntmps65
    go_wp2_with fail
    refine HD.out.mono ?_
    rintro e w1 ⟨rfl, q, rfl⟩
    go_wp2
    go_ret
    exact ⟨rfl, H.out.drewN _, (Chg.refl _ _).drewN _⟩
  | false =>
    rw [hd] at HD
    obtain ⟨rfl, hlt⟩ := doneB_no hk hd
    rw [someK, hd, if_neg (by decide)]
    obtain ⟨c0, c1, c2, c3⟩ := h.cells
    have HP := Lib.hid hp
    clear hd h hk hp
    generalize hr : k + runLen p s k = r
    have HR := Lib.hid hr
    clear hr
    go_enter Try.func65, Try.ntmps65
    go_wp2_with fail
    refine HD.out.mono ?_
    rintro e w1 ⟨rfl, q, rfl⟩
    go_wp2
    go_loopg [] (s.size - k) (fun gg wr => ∃ j : Nat, k ≤ j ∧ j ≤ s.size ∧ gg = s.size - j ∧ Hid (∀ i x, k ≤ i → i < j → s.data.toList[i]? = some x → p x = true) ∧ Hid (Rdr wr b s j bad 0) ∧ Hid (Chg b w wr))
    case atStart => exact ⟨k, Nat.le_refl _, by omega, rfl, fun i x h1 h2 => by omega, H.out.drewN _, (Chg.refl _ _).drewN _⟩
    case round =>
      obtain ⟨j, hkj, hj, hgj, HI, HJ, HC⟩ := hrel
      obtain ⟨d0, d1, d2, d3⟩ := HJ.out.cells
      have f1 := HJ.out.free 1
      by_cases hlj : j < s.size
      · have hlj' : (j : Int) < (s.size : Int) := by omega
        have HQ := Lib.hid (fun W => HP.out W s[j])
        cases hq : p s[j] with
        | true =>
          have Hq : Hid (p s[j] = true) := hq
          rw [hq] at HQ
          clear hq
          go_wp2
          go_quiet ((go_at_fn g; exact quietQ (HQ.out _)))
          go_wp2
          go_roundg (s.size - (j + 1))
          case measure => omega
          case rel =>
            exact ⟨j + 1, by omega, by omega, rfl, (fun i x h1 h2 hx => by
              rcases Nat.lt_or_ge i j with h3 | h3
              · exact HI.out i x h1 h3 hx
              · obtain rfl : i = j := by omega
                rw [byte_at s i hlj] at hx; cases hx
                exact Hq.out), (HJ.out.drewN _).setAt _, (HC.out.drewN _).set _ _⟩
        | false =>
          have Hr : Hid (r = j) := by
            show r = j
            rw [← HR.out, runLen_stop hkj hj HI.out (fun x hx => by rw [byte_at s j hlj] at hx; cases hx; exact hq)]
            omega
          rw [hq] at HQ
          clear hq
          go_wp2
          go_quiet ((go_at_fn g; exact quietQ (HQ.out _)))
          go_wp2
          go_quiet (fail)
          go_wp2
          go_ret
          refine ⟨?_, ?_, ?_⟩
          · rw [Hr.out]; rfl
          · rw [Hr.out]; exact HJ.out
          · exact (HC.out.drewN _).drewN _
      · obtain rfl : j = s.size := by omega
        have Hr : Hid (r = s.size) := by
          show r = s.size
          rw [← HR.out, runLen_stop hkj (Nat.le_refl _) HI.out (fun x hx => by
            have := (List.getElem?_eq_some_iff.1 hx).1
            rw [Array.length_toList] at this; have e : s.data.size = s.size := rfl; omega)]
          omega
        go_wp2
        go_quiet (fail)
        go_wp2
        go_quiet (fail)
        go_wp2
        go_ret
        refine ⟨?_, ?_, ?_⟩
        · rw [Hr.out]; rfl
        · rw [Hr.out]; exact HJ.out
        · exact (HC.out.drewN _).drewN _
end Go.Proofs.Ythkleinjddkhoaa
