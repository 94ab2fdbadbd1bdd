/- The document's reader of lines, in words of the reader's states, reads what the program reads: plain. -/
import Derived.Test.YtpfcgjneeboamaaDoorRGoes
namespace Go.Proofs.YtpfcgjneeboamaaDoor
open Go.RowKit
set_option linter.unusedSimpArgs false
set_option linter.unusedVariables false

def rNumR (N f : Nat) (σ : PS) : PS × Int :=
  if cNames f ≠ [] ∧ doneP σ = false ∧ headB letterP σ.l = true then
    (if wIdx (lowerL (someP letterP σ).2) (cNames f) < 0 then (failP (atP N σ) 6 σ, 0) else ((someP letterP σ).1, cLo f + wIdx (lowerL (someP letterP σ).2) (cNames f)))
  else if (numP N 2 σ).2.2 = true ∧ ((numP N 2 σ).2.1 < cLo f ∨ cHi f < (numP N 2 σ).2.1) then (failP (atP N σ) 4 σ, 0) else ((numP N 2 σ).1, (numP N 2 σ).2.1)
def rStepR (N : Nat) (σ : PS) : PS × Int := if (numP N 3 σ).2.2 = true ∧ (numP N 3 σ).2.1 = 0 then (failP (atP N σ) 4 σ, 0) else ((numP N 3 σ).1, (numP N 3 σ).2.1)
def rByR (N : Nat) (it : It) (σ : PS) : PS × It := if (isP [47] σ).2 = true then ((rStepR N (isP [47] σ).1).1, { it with s := (rStepR N (isP [47] σ).1).2 }) else (σ, it)
def rToR (N f : Nat) (n : Int) (σ : PS) : PS × It :=
  if (rNumR N f σ).1.e = 0 ∧ (rNumR N f σ).2 < n then (failP (atP N σ) 4 σ, ⟨2, n, (rNumR N f σ).2, 1⟩) else rByR N ⟨2, n, (rNumR N f σ).2, 1⟩ (rNumR N f σ).1
def rFromR (N f : Nat) (σ : PS) : PS × It :=
  if (isP [45] (rNumR N f σ).1).2 = true then rToR N f (rNumR N f σ).2 (isP [45] (rNumR N f σ).1).1 else ((rNumR N f σ).1, ⟨1, (rNumR N f σ).2, 0, 0⟩)
def rItemR (N f : Nat) (σ : PS) : PS × It := if (isP [42] σ).2 = true then rByR N ⟨0, 0, 0, 1⟩ (isP [42] σ).1 else rFromR N f σ
def rItemsR (N f : Nat) : Nat → PS → PS × List It
  | 0, σ => if (isP [44] (rItemR N f σ).1).2 = true then (failP (atP N (rItemR N f σ).1) 5 (rItemR N f σ).1, [(rItemR N f σ).2]) else ((rItemR N f σ).1, [(rItemR N f σ).2])
  | q + 1, σ => if (isP [44] (rItemR N f σ).1).2 = true then ((rItemsR N f q (isP [44] (rItemR N f σ).1).1).1, (rItemR N f σ).2 :: (rItemsR N f q (isP [44] (rItemR N f σ).1).1).2) else ((rItemR N f σ).1, [(rItemR N f σ).2])
def rListR (N f : Nat) (σ : PS) : PS × List It := if σ.e = 0 then rItemsR N f 63 σ else (σ, [])
def rBetw (N : Nat) (σ : PS) : PS := if (someP blankP σ).2 = [] then (mustP N [32] σ).1 else (someP blankP σ).1
/-- The states ahead of each field. -/
def rAt (N : Nat) (σ : PS) : Nat → PS
  | 0 => σ
  | f + 1 => if f < 4 then rBetw N (rListR N f (rAt N σ f)).1 else (rListR N f (rAt N σ f)).1
def rHead (s : ByteArray) : PS := if doneP (someP blankP (newP s)).1 = false ∧ peekP (someP blankP (newP s)).1 = 64 then failP (atP s.size (someP blankP (newP s)).1) 13 (someP blankP (newP s)).1 else (someP blankP (newP s)).1
def rLast (s : ByteArray) : PS := endP s.size (someP blankP (rAt s.size (rHead s) 5)).1

/-- A state and a value are what was read so. -/
def Sim {α : Type} (N : Nat) (τ : PS) (v : α) : PR α → Prop
  | .ok (x, r) => τ = ⟨r, 0, 0⟩ ∧ v = x
  | .error (m, c) => τ.e = c ∧ c ≠ 0 ∧ τ.a = (N : Int) - (m : Int)
section
variable {α : Type} {N : Nat} {l : List UInt8} (hN : l.length ≤ N)
theorem sim_ok (N : Nat) (r : List UInt8) (x : α) : Sim N ⟨r, 0, 0⟩ x (.ok (x, r)) := ⟨rfl, rfl⟩
theorem sim_fail {N : Nat} {l : List UInt8} (hN : l.length ≤ N) (c : Int) (hc : c ≠ 0) (v : α) : Sim N (failP (atP N ⟨l, 0, 0⟩) c ⟨l, 0, 0⟩) v (.error (l.length, c) : PR α) := by
  unfold failP
  rw [if_pos rfl, if_neg hc]
  exact ⟨rfl, hc, by unfold atP; dsimp only; omega⟩
theorem isP_live (cs l : List UInt8) : isP cs ⟨l, 0, 0⟩ = (match pIs cs l with | some r => (⟨r, 0, 0⟩, true) | none => (⟨l, 0, 0⟩, false)) := by
  unfold isP
  rw [if_pos rfl]
  cases pIs cs l <;> rfl
theorem isP_dead {σ : PS} (cs : List UInt8) (he : σ.e ≠ 0) : isP cs σ = (σ, false) := by unfold isP; rw [if_neg he]
theorem numP_live {N most : Nat} {l : List UInt8} (hN : l.length ≤ N) : (∃ n, pNum most l = .ok (n, l.dropWhile digitP) ∧ numP N most ⟨l, 0, 0⟩ = (⟨l.dropWhile digitP, 0, 0⟩, n, true)) ∨ ∃ c, c ≠ 0 ∧ pNum most l = .error (l.length, c) ∧ numP N most ⟨l, 0, 0⟩ = (⟨l, (N : Int) - (l.length : Int), c⟩, 0, false) := by
  unfold pNum numP numE
  have hat : atP N ⟨l, 0, 0⟩ = (N : Int) - (l.length : Int) := by unfold atP; dsimp only; omega
  dsimp only
  rw [if_pos rfl, hat]
  by_cases h1 : l.takeWhile digitP = []
  · rw [if_pos h1, if_pos h1, if_neg (pLack_ne l)]
    exact .inr ⟨_, pLack_ne l, rfl, rfl⟩
  · rw [if_neg h1, if_neg h1]
    by_cases h2 : most < (l.takeWhile digitP).length
    · rw [if_pos h2, if_pos h2, if_neg (by decide)]
      exact .inr ⟨4, by decide, rfl, rfl⟩
    · rw [if_neg h2, if_neg h2, if_pos rfl]
      exact .inl ⟨_, rfl, rfl⟩
include hN
theorem rNumR_sim (f : Nat) : Sim N (rNumR N f ⟨l, 0, 0⟩).1 (rNumR N f ⟨l, 0, 0⟩).2 (cNum f l) := by
  unfold rNumR cNum
  have hd : (doneP ⟨l, 0, 0⟩ = false ∧ headB letterP l = true) ↔ headB letterP l = true := by
    refine ⟨fun h => h.2, fun h => ⟨?_, h⟩⟩
    cases l with
    | nil => cases h
    | cons c l => simp [doneP]
  by_cases hc : cNames f ≠ [] ∧ headB letterP l = true
  · rw [if_pos ⟨hc.1, hd.2 hc.2⟩, if_pos hc]
    have hs : someP letterP ⟨l, 0, 0⟩ = (⟨l.dropWhile letterP, 0, 0⟩, l.takeWhile letterP) := by unfold someP; rw [if_pos rfl]
    rw [hs]
    split
    · exact sim_fail hN 6 (by decide) _
    · exact sim_ok _ _ _
  · rw [if_neg (fun h => hc ⟨h.1, h.2.2⟩), if_neg hc]
    rcases numP_live (most := 2) hN with ⟨n, h1, h2⟩ | ⟨c, hc0, h1, h2⟩
    · rw [h1, h2]
      dsimp only
      by_cases hb : n < cLo f ∨ cHi f < n
      · rw [if_pos ⟨rfl, hb⟩, if_pos hb]
        exact sim_fail hN 4 (by decide) _
      · rw [if_neg (fun h => hb h.2), if_neg hb]
        exact sim_ok _ _ _
    · rw [h1, h2]
      dsimp only
      rw [if_neg (by simp)]
      exact ⟨rfl, hc0, rfl⟩
theorem rStepR_sim : Sim N (rStepR N ⟨l, 0, 0⟩).1 (rStepR N ⟨l, 0, 0⟩).2 (cStep l) := by
  unfold rStepR cStep
  rcases numP_live (most := 3) hN with ⟨n, h1, h2⟩ | ⟨c, hc0, h1, h2⟩
  · rw [h1, h2]
    dsimp only
    by_cases hb : n = 0
    · rw [if_pos ⟨rfl, hb⟩, if_pos hb]
      exact sim_fail hN 4 (by decide) _
    · rw [if_neg (fun h => hb h.2), if_neg hb]
      exact sim_ok _ _ _
  · rw [h1, h2]
    dsimp only
    rw [if_neg (by simp)]
    exact ⟨rfl, hc0, rfl⟩
theorem rByR_sim (i : It) : Sim N (rByR N i ⟨l, 0, 0⟩).1 (rByR N i ⟨l, 0, 0⟩).2 (cBy i l) := by
  unfold rByR cBy
  rw [isP_live]
  cases hp : pIs [47] l with
  | none => exact sim_ok _ _ _
  | some l2 =>
    dsimp only
    rw [if_pos rfl]
    have hl2 := pIs_lt hp
    have h := rStepR_sim (N := N) (l := l2) (by omega)
    cases hs : cStep l2 with
    | ok x =>
      obtain ⟨n, r⟩ := x
      rw [hs] at h
      exact ⟨h.1, by rw [h.2]⟩
    | error e => obtain ⟨m, c⟩ := e; rw [hs] at h; exact h
omit hN in
theorem rByR_dead {σ : PS} (i : It) (he : σ.e ≠ 0) : rByR N i σ = (σ, i) := by unfold rByR; rw [isP_dead _ he, if_neg (by simp)]
theorem rToR_sim (f : Nat) (n : Int) : Sim N (rToR N f n ⟨l, 0, 0⟩).1 (rToR N f n ⟨l, 0, 0⟩).2 (match cNum f l with
        | .error e => .error e
        | .ok (m, l3) => if m < n then .error (l.length, 4) else cBy ⟨2, n, m, 1⟩ l3) := by
  unfold rToR
  have h := rNumR_sim hN f
  have hg := cNum_good f l
  cases hc : cNum f l with
  | error e =>
    obtain ⟨m, c⟩ := e
    rw [hc] at h
    have he : (rNumR N f ⟨l, 0, 0⟩).1.e ≠ 0 := by rw [h.1]; exact h.2.1
    rw [if_neg (fun g => he g.1), rByR_dead _ he]
    exact h
  | ok x =>
    obtain ⟨m, r⟩ := x
    rw [hc] at h hg
    rw [h.1, h.2]
    dsimp only
    have := hg.1.length_le
    by_cases hb : m < n
    · rw [if_pos ⟨rfl, hb⟩, if_pos hb]
      exact sim_fail hN 4 (by decide) _
    · rw [if_neg (fun g => hb g.2), if_neg hb]
      exact rByR_sim (by omega) _
theorem rItemR_sim (f : Nat) : Sim N (rItemR N f ⟨l, 0, 0⟩).1 (rItemR N f ⟨l, 0, 0⟩).2 (cItem f l) := by
  unfold rItemR cItem
  rw [isP_live]
  cases hp : pIs [42] l with
  | some l1 =>
    have := pIs_lt hp
    exact rByR_sim (by omega) _
  | none =>
    dsimp only
    rw [if_neg (by simp)]
    unfold rFromR
    have h := rNumR_sim hN f
    have hg := cNum_good f l
    cases hc : cNum f l with
    | error e =>
      obtain ⟨m, c⟩ := e
      rw [hc] at h
      have he : (rNumR N f ⟨l, 0, 0⟩).1.e ≠ 0 := by rw [h.1]; exact h.2.1
      rw [isP_dead _ he, if_neg (by simp)]
      exact h
    | ok x =>
      obtain ⟨n, l1⟩ := x
      rw [hc] at h hg
      rw [h.1, h.2, isP_live]
      dsimp only
      have h1 := hg.1.length_le
      cases hq : pIs [45] l1 with
      | none => exact sim_ok _ _ _
      | some l2 =>
        have := pIs_lt hq
        exact rToR_sim (by omega) f n
theorem rItemsR_sim (f : Nat) (hf : f < 5) (q : Nat) : Sim N (rItemsR N f q ⟨l, 0, 0⟩).1 (rItemsR N f q ⟨l, 0, 0⟩).2 (cItems f q l) := by
  induction q generalizing l with
  | zero =>
    unfold rItemsR cItems
    have h := rItemR_sim hN f
    have hg := cItem_good f hf l
    cases hc : cItem f l with
    | error e =>
      obtain ⟨m, c⟩ := e
      rw [hc] at h
      have he : (rItemR N f ⟨l, 0, 0⟩).1.e ≠ 0 := by rw [h.1]; exact h.2.1
      rw [isP_dead _ he, if_neg (by simp)]
      exact h
    | ok x =>
      obtain ⟨i, l1⟩ := x
      rw [hc] at h hg
      rw [h.1, h.2, isP_live]
      dsimp only
      have := hg.1.length_le
      cases pIs [44] l1 with
      | none => exact sim_ok _ _ _
      | some l2 => exact sim_fail (by omega) 5 (by decide) _
  | succ q ih =>
    unfold rItemsR cItems
    have h := rItemR_sim hN f
    have hg := cItem_good f hf l
    cases hc : cItem f l with
    | error e =>
      obtain ⟨m, c⟩ := e
      rw [hc] at h
      have he : (rItemR N f ⟨l, 0, 0⟩).1.e ≠ 0 := by rw [h.1]; exact h.2.1
      rw [isP_dead _ he, if_neg (by simp)]
      exact h
    | ok x =>
      obtain ⟨i, l1⟩ := x
      rw [hc] at h hg
      rw [h.1, h.2, isP_live]
      dsimp only
      have := hg.1.length_le
      cases hq : pIs [44] l1 with
      | none => exact sim_ok _ _ _
      | some l2 =>
        have h2 := pIs_lt hq
        have h3 := ih (l := l2) (by omega)
        dsimp only
        rw [if_pos rfl]
        cases hr : cItems f q l2 with
        | error e => obtain ⟨m, c⟩ := e; rw [hr] at h3; exact h3
        | ok x =>
          obtain ⟨is, l3⟩ := x
          rw [hr] at h3
          exact ⟨h3.1, by rw [h3.2]⟩
theorem rBetw_sim : Sim N (rBetw N ⟨l, 0, 0⟩) () (cBetween l) := by
  unfold rBetw cBetween
  have hs : someP blankP ⟨l, 0, 0⟩ = (⟨l.dropWhile blankP, 0, 0⟩, l.takeWhile blankP) := by unfold someP; rw [if_pos rfl]
  rw [hs]
  by_cases h : l.takeWhile blankP = []
  · rw [if_pos h, if_pos h]
    have hi : pIs [32] l = none := by
      cases l with
      | nil => rfl
      | cons c l =>
        rw [pIs_cons]
        rw [List.takeWhile_cons] at h
        split at h
        · cases h
        · rename_i hb
          rw [if_neg]
          intro hc
          apply hb
          have : c = 32 := by simpa using hc
          rw [this]; rfl
    unfold mustP
    rw [isP_live, hi]
    dsimp only
    rw [if_neg (by simp)]
    exact sim_fail hN _ (pLack_ne l) _
  · rw [if_neg h, if_neg h]
    exact sim_ok _ _ _
end
theorem rListR_dead {N f : Nat} {σ : PS} (he : σ.e ≠ 0) : rListR N f σ = (σ, []) := if_neg he
theorem rBetw_dead {N : Nat} {σ : PS} (he : σ.e ≠ 0) : rBetw N σ = σ := by
  unfold rBetw someP
  rw [if_neg he, if_pos rfl]
  unfold mustP lackP failP
  rw [isP_dead _ he, if_neg (by simp), if_neg he]
/-- The fields from f on: the state behind them, and what they read. -/
def rFrom (N : Nat) : Nat → Nat → PS → PS
  | 0, _, σ => σ
  | q + 1, f, σ => if q = 0 then (rListR N f σ).1 else rFrom N q (f + 1) (rBetw N (rListR N f σ).1)
def rLists (N : Nat) : Nat → Nat → PS → List (List It)
  | 0, _, _ => []
  | q + 1, f, σ => (rListR N f σ).2 :: (if q = 0 then [] else rLists N q (f + 1) (rBetw N (rListR N f σ).1))
theorem rFrom_dead {N : Nat} : ∀ (q f : Nat) {σ : PS}, σ.e ≠ 0 → rFrom N q f σ = σ
  | 0, f, σ, _ => rfl
  | q + 1, f, σ, he => by
    unfold rFrom
    rw [rListR_dead he, rBetw_dead he, rFrom_dead q (f + 1) he]
    split <;> rfl
theorem rFrom_sim {N : Nat} : ∀ (q f : Nat) (l : List UInt8), f + q ≤ 5 → l.length ≤ N → Sim N (rFrom N q f ⟨l, 0, 0⟩) (rLists N q f ⟨l, 0, 0⟩) (cFields q f l)
  | 0, f, l, _, _ => by rw [cFields]; exact sim_ok _ _ _
  | q + 1, f, l, hq, hN => by
    rw [cFields]
    unfold rFrom rLists
    have hL : rListR N f ⟨l, 0, 0⟩ = rItemsR N f 63 ⟨l, 0, 0⟩ := if_pos rfl
    have h := rItemsR_sim hN f (by omega) 63
    have hg := cItems_good f (by omega) 63 l
    rw [hL]
    cases hc : cItems f 63 l with
    | error e =>
      obtain ⟨m, c⟩ := e
      rw [hc] at h
      have he : (rItemsR N f 63 ⟨l, 0, 0⟩).1.e ≠ 0 := by rw [h.1]; exact h.2.1
      rw [rBetw_dead he, rFrom_dead q (f + 1) he]
      rw [ite_self]
      exact h
    | ok x =>
      obtain ⟨is, l1⟩ := x
      rw [hc] at h hg
      rw [h.1, h.2]
      have h1 := hg.1.length_le
      by_cases h0 : q = 0
      · rw [if_pos h0, if_pos h0]; dsimp only; rw [if_pos h0]; exact sim_ok _ _ _
      · rw [if_neg h0, if_neg h0]; dsimp only; rw [if_neg h0]
        have hb := rBetw_sim (N := N) (l := l1) (by omega)
        have hgb := cBetween_good l1
        cases hcb : cBetween l1 with
        | error e =>
          obtain ⟨m, c⟩ := e
          rw [hcb] at hb
          have he : (rBetw N ⟨l1, 0, 0⟩).e ≠ 0 := by rw [hb.1]; exact hb.2.1
          rw [rFrom_dead q (f + 1) he]
          exact hb
        | ok x =>
          obtain ⟨_, l2⟩ := x
          rw [hcb] at hb hgb
          rw [hb.1]
          have h2 := hgb.1.length_le
          have ih := rFrom_sim (N := N) q (f + 1) l2 (by omega) (by omega)
          dsimp only
          cases hcf : cFields q (f + 1) l2 with
          | error e => obtain ⟨m, c⟩ := e; rw [hcf] at ih; exact ih
          | ok x =>
            obtain ⟨r, l3⟩ := x
            rw [hcf] at ih
            exact ⟨ih.1, by rw [ih.2]⟩
theorem rFrom_at (N : Nat) (σ : PS) : rFrom N 5 0 σ = rAt N σ 5 ∧ rLists N 5 0 σ = (List.range 5).map (fun f => (rListR N f (rAt N σ f)).2) := ⟨rfl, rfl⟩
/-- What the document's reader hands back. -/
theorem rLast_sim (s : ByteArray) : Sim s.size (rLast s) ((List.range 5).map (fun f => (rListR s.size f (rAt s.size (rHead s) f)).2)) (cRead s.data.toList) := by
  have hlen : s.data.toList.length = s.size := len_data s
  unfold rLast cRead
  rw [hlen]
  by_cases hl : 8192 < s.size
  · rw [if_pos hl]
    have hn : newP s = ⟨s.data.toList, 8192, 5⟩ := by unfold newP newBad newE; rw [if_pos hl, if_pos hl]
    have h1 : (someP blankP (newP s)).1 = ⟨s.data.toList, 8192, 5⟩ := by rw [hn]; rfl
    have h2 : rHead s = ⟨s.data.toList, 8192, 5⟩ := by
      unfold rHead
      rw [h1, if_neg (by intro h; have := h.1; simp [doneP] at this)]
    have h3 : rAt s.size (rHead s) 5 = ⟨s.data.toList, 8192, 5⟩ := by
      rw [← (rFrom_at _ _).1, h2]
      exact rFrom_dead 5 0 (show (5 : Int) ≠ 0 by decide)
    rw [h3]
    refine ⟨?_, by decide, ?_⟩
    · rfl
    · show (8192 : Int) = _
      omega
  · rw [if_neg hl]
    have hn : newP s = ⟨s.data.toList, 0, 0⟩ := by unfold newP newBad newE; rw [if_neg hl, if_neg hl]
    have h1 : (someP blankP (newP s)).1 = ⟨s.data.toList.dropWhile blankP, 0, 0⟩ := by rw [hn]; rfl
    have hdl : (s.data.toList.dropWhile blankP).length ≤ s.size := by rw [← hlen]; exact (drop_suf _ _).length_le
    generalize s.data.toList.dropWhile blankP = l at *
    have hcond : (doneP ⟨l, 0, 0⟩ = false ∧ peekP ⟨l, 0, 0⟩ = 64) ↔ headB (· == 64) l = true := by
      cases l with
      | nil => simp [doneP, headB]
      | cons c l =>
        have : peekP ⟨c :: l, 0, 0⟩ = (c.toNat : Int) := rfl
        rw [this]
        have hd : doneP ⟨c :: l, 0, 0⟩ = false := by simp [doneP]
        show _ ↔ (c == 64) = true
        rw [beq_iff_eq]
        constructor
        · intro h; exact UInt8.toNat_inj.1 (by have := h.2; show c.toNat = 64; omega)
        · intro h; subst h; exact ⟨hd, rfl⟩
    by_cases hh : headB (· == 64) l = true
    · rw [if_pos hh]
      have h2 : rHead s = failP (atP s.size ⟨l, 0, 0⟩) 13 ⟨l, 0, 0⟩ := by unfold rHead; rw [h1, if_pos (hcond.2 hh)]
      have hs := sim_fail (α := List (List It)) hdl 13 (by decide) []
      have he : (failP (atP s.size ⟨l, 0, 0⟩) 13 ⟨l, 0, 0⟩).e ≠ 0 := by rw [hs.1]; exact hs.2.1
      rw [h2, ← (rFrom_at _ _).1, rFrom_dead 5 0 he]
      have h3 : someP blankP (failP (atP s.size ⟨l, 0, 0⟩) 13 ⟨l, 0, 0⟩) = (failP (atP s.size ⟨l, 0, 0⟩) 13 ⟨l, 0, 0⟩, []) := by unfold someP; rw [if_neg he]
      rw [h3]
      unfold endP doneP
      rw [if_pos (decide_eq_true (.inl he))]
      exact hs
    · rw [if_neg hh]
      have h2 : rHead s = ⟨l, 0, 0⟩ := by unfold rHead; rw [h1, if_neg (fun h => hh (hcond.1 h))]
      rw [h2, ← (rFrom_at _ _).1, ← (rFrom_at _ _).2]
      have hs := rFrom_sim (N := s.size) 5 0 l (by omega) hdl
      have hg := cFields_good 5 0 l (by omega)
      unfold cTail
      cases hc : cFields 5 0 l with
      | error e =>
        obtain ⟨m, c⟩ := e
        rw [hc] at hs
        have he : (rFrom s.size 5 0 ⟨l, 0, 0⟩).e ≠ 0 := by rw [hs.1]; exact hs.2.1
        have h3 : someP blankP (rFrom s.size 5 0 ⟨l, 0, 0⟩) = (rFrom s.size 5 0 ⟨l, 0, 0⟩, []) := by unfold someP; rw [if_neg he]
        rw [h3]
        unfold endP doneP
        rw [if_pos (decide_eq_true (.inl he))]
        exact hs
      | ok x =>
        obtain ⟨r, l1⟩ := x
        rw [hc] at hs hg
        rw [hs.1, hs.2]
        have h3 : (someP blankP ⟨l1, 0, 0⟩).1 = ⟨l1.dropWhile blankP, 0, 0⟩ := rfl
        rw [h3]
        have hl1 := hg.1.length_le
        have hl2 := (drop_suf blankP l1).length_le
        dsimp only
        by_cases h4 : l1.dropWhile blankP = []
        · rw [if_pos h4]
          unfold endP
          rw [h4, if_pos (by simp [doneP])]
          exact sim_ok _ _ _
        · rw [if_neg h4]
          unfold endP
          rw [if_neg (by simp [doneP, h4])]
          exact sim_fail (by omega) 3 (by decide) _
end Go.Proofs.YtpfcgjneeboamaaDoor
