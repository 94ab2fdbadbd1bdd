/- The walk of a reader's number. -/
import Derived.Test.YtpfcgjneeboamaaDoorWCronread
namespace Go.Proofs.YtpfcgjneeboamaaDoor
open Go.RowKit
set_option linter.unusedSimpArgs false
set_option linter.unusedVariables false

theorem cNum_tail {f : Nat} {l : List UInt8} (h : ¬ (cNames f ≠ [] ∧ headB letterP l = true)) : cNum f l = (match pNum 2 l with | .ok (n, r) => if n < cLo f ∨ cHi f < n then .error (l.length, 4) else .ok (n, r) | .error e => .error e) := by
  unfold cNum; rw [if_neg h]; rfl
theorem cNum_word {f : Nat} {l : List UInt8} (h : cNames f ≠ [] ∧ headB letterP l = true) : cNum f l = (if wIdx (lowerL (l.takeWhile letterP)) (cNames f) < 0 then .error (l.length, 6) else .ok (cLo f + wIdx (lowerL (l.takeWhile letterP)) (cNames f), l.dropWhile letterP)) := by
  unfold cNum; rw [if_pos h]

theorem lower_any (x : List UInt8) (hx : ∀ c ∈ x, letterP c = true) (hl : x.length ≤ 1000000) (W : World) : Calls Tryd.prog 44 #[.string (strB x)] W (Ret (.string (strB (lowerL x))) W) := by
  have h := Tryd.strings_ToLower_ascii (strB x) W (by rw [strB_size]; omega) (fun j c hc => by
    rw [strB_data] at hc
    have := hx c (List.mem_of_getElem? hc)
    simp only [letterP, decide_eq_true_eq] at this
    omega)
  rw [strB_data, small_eq] at h
  exact h
theorem index_any (f : Nat) (A : Option Addr) (n : Nat) (x : List UInt8) (W : World) (hf : cNames f ≠ []) (hA : NamesAt f A n W) : Calls Tryd.prog 43 #[.slice A n n, .string (strB x)] W (RetQ (.int .i64 (wIdx x (cNames f))) W) := by
  rcases hA with ⟨_, _, h3⟩ | ⟨B, rfl, rfl, _, hc⟩
  · exact absurd h3 hf
  · have := Tryd.slices_Index_string B 0 (cNames f).length (cNames f).length ((cNames f).map strB) (strB x) W (by simp) (by unfold cNames; split; decide; split <;> decide) (fun j hj => hc j (by simpa using hj))
    rw [List.take_of_length_le (by simp), idx_eq] at this
    refine this.mono ?_
    rintro e w1 ⟨rfl, rfl⟩
    exact ⟨rfl, rfl⟩

set_option maxRecDepth 20000 in
set_option maxHeartbeats 1000000 in
theorem num_ok (b f : Nat) (hf : f < 5) (s : ByteArray) (hs : s.size ≤ 1000000) (l r : List UInt8) (n0 : Int) (w : World) (h : Live w b s l) (hp : cNum f l = .ok (n0, r)) :
    Calls Tryd.prog 32 #[rdV b f] w (RetL (.int .i64 n0) b s r w) := by
  have hs : s.size ≤ 9223372036854775807 := by omega
  have hlt := h.lt
  have hne : w.heap.size ≠ b := by omega
  have HAt := Lib.hid (fun W (hW : Below w.heap.size w W) => at_pure (h.below hW))
  have HL := Lib.hid (fun W (hW : Below w.heap.size w W) => h.below hW)
  have hbd := cBounds f hf
  obtain ⟨hb0, hb9⟩ : 0 ≤ cLo f ∧ cHi f ≤ 9999 := ⟨hbd.1, hbd.2.2⟩
  have hneq := fun (W : World) A n c => run_neq_slice_nil_any (P := Tryd.prog) W 81 9 A n c 0 0 Tryd.underlying81
  clear h hbd
  by_cases hcase : cNames f ≠ [] ∧ headB letterP l = true
  · rw [cNum_word hcase] at hp
    have HP : Hid (¬ wIdx (lowerL (l.takeWhile letterP)) (cNames f) < 0 ∧ n0 = cLo f + wIdx (lowerL (l.takeWhile letterP)) (cNames f) ∧ r = l.dropWhile letterP) := by
      split at hp
      · cases hp
      · cases hp; exact ⟨by assumption, rfl, rfl⟩
    obtain ⟨hi0, rfl, rfl⟩ := HP.out
    have hi1 := wIdx_lt (lowerL (l.takeWhile letterP)) (cNames f)
    have hi2 : (cNames f).length ≤ 12 := by unfold cNames; split; decide; split <;> decide
    have HW1 := Lib.hid (fun W (h : Live W b s l) => word_live hs h)
    have HLow := Lib.hid (fun W => lower_any (l.takeWhile letterP) (all_take letterP l) (by have h1 := (List.takeWhile_prefix letterP (l := l)).length_le; have := (HL.out w (Below.refl _ _)).len; omega) W)
    have HIx := Lib.hid (fun W A n (hA : NamesAt f A n W) => index_any f A n (lowerL (l.takeWhile letterP)) W hcase.1 hA)
    have HF : Hid (∀ W, Calls Tryd.prog 42 #[.int .u8 (pPeek l)] W (RetQ (.bool true) W)) := by
      intro W
      have := letter_any (pPeek l) W
      rw [letterI_peek, hcase.2] at this
      exact this
    have HC := Lib.hid hcase
    have hb1 : cLo f ≤ 1 := by unfold cLo; split <;> decide
    generalize hix : wIdx (lowerL (l.takeWhile letterP)) (cNames f) = ix at *
    clear hp HP hcase hix
    go_enter Tryd.func32, Tryd.ntmps32
    go_wp2_with fail
    refine (bounds_in f hf _).mono ?_
    rintro e w1 ⟨rfl, hb1⟩
    have HB1 := Lib.hid ((box_new w b (f : Int) 43).below hb1)
    have hbA : Below w.heap.size w w1 := ((Below.refl _ w).alloc (Nat.le_refl _) _).trans (hb1.mono (by simp))
    have hzA := hbA.size
    clear hb1
    go_wp2_with fail
    obtain ⟨W1, rfl⟩ : ∃ W1 : World, W1 = w1 := ⟨_, rfl⟩
    have HS : Hid (∀ w', Below W1.heap.size W1 w' → Below W1.heap.size W1 w' ∧ w'.cell? ⟨w.heap.size, 0, none⟩ = some (.pointer (some ⟨b, 0, none⟩)) ∧ w'.cell? ⟨w.heap.size, 1, none⟩ = some (.int .i64 (f : Int))) := fun w' h => ⟨h, (HB1.out.below h).1, (HB1.out.below h).2⟩
    have HW : Hid (∀ w', Below W1.heap.size W1 w' → Below w.heap.size w w') := fun w' h => bthen hbA h hzA
    go_region_held3 (fun w' => Below W1.heap.size W1 w' ∧ w'.cell? ⟨w.heap.size, 0, none⟩ = some (.pointer (some ⟨b, 0, none⟩)) ∧ w'.cell? ⟨w.heap.size, 1, none⟩ = some (.int .i64 (f : Int)))
      (first | (go_split_ands; refine HS.out _ (bthen ?_ hb1 ?_); assumption; exact Below.size (by assumption)) | (go_split_ands; refine HS.out _ (Below.alloc ?_ ?_ _); assumption; exact Below.size (by assumption)) | (refine HS.out _ ?_; exact Below.drew (Below.refl _ _)) | (refine HS.out _ ?_; exact below_drewN (Below.refl _ _) _))
      (first | (go_at_call 12; (with_reducible refine (HAt.out _ ?_).mono ?_); (focus (go_split_ands; exact HW.out _ (by assumption))); rintro e w1 ⟨rfl, rfl⟩) | (go_at_call 41; (with_reducible refine (names_any f _).mono ?_); rintro e w1 ⟨A, n, rfl, hNA, hb1, hNB⟩))
    have hb2 : Below W1.heap.size W1 w1 := by go_split_ands; assumption
    have hbB : Below w.heap.size w w1 := HW.out _ hb2
    have HB2 := Lib.hid (HB1.out.below hb2)
    have hnb : ∀ B o, A = some ⟨B, o, none⟩ → B ≠ b := fun B o h => by have := hNB B o h; (try simp at this); omega
    have HNb := Lib.hid hnb
    clear hb1 HS HW hNB hnb
    try simp only [Exit.inBlock, Exit.then]
    have hAs : A.isSome = true := by
      rcases hNA with ⟨_, _, h3⟩ | ⟨B, rfl, _⟩
      · exact absurd h3 HC.out.1
      · rfl
    have HNA := Lib.hid hNA
    clear hNA
    go_wp2_with fail
    refine (peek_live (HL.out _ hbB)).mono ?_
    rintro e w2 ⟨rfl, h2, g2⟩
    obtain ⟨c0, c1⟩ := HB2.out.chg g2 hne
    have HB3 : Hid (Box w2 w.heap.size b (f : Int)) := ⟨c0, c1⟩
    have HN3 := Lib.hid (HNA.out.chg g2 HNb.out)
    have hgA : Chg b w w2 := (Chg.of_below hbB).trans g2
    go_wp2_with fail
    refine (HF.out _).mono ?_
    rintro e w3 ⟨rfl, rfl⟩
    go_wp2_with fail
    refine (HW1.out _ h2).mono ?_
    rintro e w4 ⟨rfl, h4, g4⟩
    have HB4 := Lib.hid (HB3.out.chg g4 hne)
    have HN4 := Lib.hid (HN3.out.chg g4 HNb.out)
    have hgB := hgA.trans g4
    clear c0 c1 h2 g2 g4 HB3 HN3
    go_wp2_with fail
    refine (HLow.out _).mono ?_
    rintro e w5 ⟨rfl, hb5⟩
    have HB5 := Lib.hid (HB4.out.below hb5)
    have HN5 := Lib.hid (HN4.out.below hb5)
    have h5 := h4.below hb5
    have hgC := hgB.trans (Chg.of_below hb5)
    clear HB4 HN4 hb5 h4
    go_wp2_with fail
    refine (HIx.out _ _ _ HN5.out).mono ?_
    rintro e w6 ⟨rfl, rfl⟩
    go_wp2
    go_ret
    exact ⟨rfl, h5, hgC⟩
  · rw [cNum_tail hcase] at hp
    have HP : Hid (∃ hp2 : pNum 2 l = .ok (n0, r), ¬ (n0 < cLo f ∨ cHi f < n0)) := by
      split at hp
      · split at hp
        · cases hp
        · cases hp; exact ⟨by assumption, by assumption⟩
      · cases hp
    obtain ⟨hp2, hrange⟩ := HP.out
    have HN := Lib.hid (fun W (h : Live W b s l) => number_ok hs (most := 2) (by decide) h hp2)
    have g1 : ¬ n0 < cLo f := fun h => hrange (.inl h)
    have g2 : ¬ cHi f < n0 := fun h => hrange (.inr h)
    have HC := Lib.hid hcase
    clear hp hp2 hrange HP hcase
    go_enter Tryd.func32, Tryd.ntmps32
    go_wp2_with fail
    refine (bounds_in f hf _).mono ?_
    rintro e w1 ⟨rfl, hb1⟩
    have HB1 := Lib.hid ((box_new w b (f : Int) 43).below hb1)
    have hbA : Below w.heap.size w w1 := ((Below.refl _ w).alloc (Nat.le_refl _) _).trans (hb1.mono (by simp))
    have hzA := hbA.size
    clear hb1
    go_wp2_with fail
    obtain ⟨W1, rfl⟩ : ∃ W1 : World, W1 = w1 := ⟨_, rfl⟩
    have HS : Hid (∀ w', Below W1.heap.size W1 w' → Below W1.heap.size W1 w' ∧ w'.cell? ⟨w.heap.size, 0, none⟩ = some (.pointer (some ⟨b, 0, none⟩)) ∧ w'.cell? ⟨w.heap.size, 1, none⟩ = some (.int .i64 (f : Int))) := fun w' h => ⟨h, (HB1.out.below h).1, (HB1.out.below h).2⟩
    have HW : Hid (∀ w', Below W1.heap.size W1 w' → Below w.heap.size w w') := fun w' h => bthen hbA h hzA
    go_region_held3 (fun w' => Below W1.heap.size W1 w' ∧ w'.cell? ⟨w.heap.size, 0, none⟩ = some (.pointer (some ⟨b, 0, none⟩)) ∧ w'.cell? ⟨w.heap.size, 1, none⟩ = some (.int .i64 (f : Int)))
      (first | (go_split_ands; refine HS.out _ (bthen ?_ hb1 ?_); assumption; exact Below.size (by assumption)) | (go_split_ands; refine HS.out _ (Below.alloc ?_ ?_ _); assumption; exact Below.size (by assumption)) | (refine HS.out _ ?_; exact Below.drew (Below.refl _ _)) | (refine HS.out _ ?_; exact below_drewN (Below.refl _ _) _))
      (first | (go_at_call 12; (with_reducible refine (HAt.out _ ?_).mono ?_); (focus (go_split_ands; exact HW.out _ (by assumption))); rintro e w1 ⟨rfl, rfl⟩) | (go_at_call 41; (with_reducible refine (names_any f _).mono ?_); rintro e w1 ⟨A, n, rfl, hNA, hb1, hNB⟩))
    have hb2 : Below W1.heap.size W1 w1 := by go_split_ands; assumption
    have hbB : Below w.heap.size w w1 := HW.out _ hb2
    have HB2 := Lib.hid (HB1.out.below hb2)
    have hnb : ∀ B o, A = some ⟨B, o, none⟩ → B ≠ b := fun B o h => by have := hNB B o h; (try simp at this); omega
    have HNb := Lib.hid hnb
    clear hb1 HS HW hNB hnb
    try simp only [Exit.inBlock, Exit.then]
    go_wp2_with fail
    · have hA : A.isSome = true := by assumption
      have HF : Hid (∀ W, Calls Tryd.prog 42 #[.int .u8 (pPeek l)] W (RetQ (.bool false) W)) := by
        intro W
        have h1 : headB letterP l = false := by
          rcases hNA with ⟨rfl, _⟩ | ⟨B, _, _, h3, _⟩
          · cases hA
          · cases hb : headB letterP l with
            | false => rfl
            | true => exact absurd ⟨h3, hb⟩ HC.out
        have := letter_any (pPeek l) W
        rw [letterI_peek, h1] at this
        exact this
      refine (peek_live (HL.out _ hbB)).mono ?_
      rintro e w2 ⟨rfl, h2, g2⟩
      obtain ⟨c0, c1⟩ := HB2.out.chg g2 hne
      have HB3 : Hid (Box w2 w.heap.size b (f : Int)) := ⟨c0, c1⟩
      have hgA : Chg b w w2 := (Chg.of_below hbB).trans g2
      go_wp2_with fail
      refine (HF.out _).mono ?_
      rintro e w3 ⟨rfl, rfl⟩
      go_wp2_with fail
      refine (HN.out _ h2).mono ?_
      rintro e w4 ⟨rfl, h4, g4⟩
      go_wp2
      go_ret
      exact ⟨rfl, h4, hgA.trans g4⟩
    · have h2 := HL.out _ hbB
      have HB3 := HB2
      have hgA : Chg b w w1 := Chg.of_below hbB
      refine (HN.out _ h2).mono ?_
      rintro e w4 ⟨rfl, h4, g4⟩
      go_wp2
      go_ret
      exact ⟨rfl, h4, hgA.trans g4⟩

theorem cNum_errs {f m : Nat} {q : Int} {l : List UInt8} (h : ¬ (cNames f ≠ [] ∧ headB letterP l = true)) (hp : cNum f l = .error (m, q)) : pNum 2 l = .error (m, q) ∨ ∃ n r, pNum 2 l = .ok (n, r) ∧ (n < cLo f ∨ cHi f < n) ∧ m = l.length ∧ q = 4 := by
  rw [cNum_tail h] at hp
  split at hp
  · split at hp
    · cases hp; exact .inr ⟨_, _, by assumption, by assumption, rfl, rfl⟩
    · cases hp
  · rename_i e he
    cases hp; exact .inl he

set_option maxRecDepth 20000 in
set_option maxHeartbeats 1000000 in
theorem num_err (b f : Nat) (hf : f < 5) (s : ByteArray) (hs : s.size ≤ 1000000) (l : List UInt8) (m : Nat) (q : Int) (w : World) (h : Live w b s l) (hp : cNum f l = .error (m, q)) :
    Calls Tryd.prog 32 #[rdV b f] w (RetDInt b s (placeI s m) q w) := by
  have hs : s.size ≤ 9223372036854775807 := by omega
  have hlt := h.lt
  have hne : w.heap.size ≠ b := by omega
  have HAt := Lib.hid (fun W (hW : Below w.heap.size w W) => at_pure (h.below hW))
  have HL := Lib.hid (fun W (hW : Below w.heap.size w W) => h.below hW)
  have hbd := cBounds f hf
  obtain ⟨hb0, hb9⟩ : 0 ≤ cLo f ∧ cHi f ≤ 9999 := ⟨hbd.1, hbd.2.2⟩
  have hneq := fun (W : World) A n c => run_neq_slice_nil_any (P := Tryd.prog) W 81 9 A n c 0 0 Tryd.underlying81
  clear h hbd
  by_cases hcase : cNames f ≠ [] ∧ headB letterP l = true
  · rw [cNum_word hcase] at hp
    have HP : Hid (wIdx (lowerL (l.takeWhile letterP)) (cNames f) < 0 ∧ m = l.length ∧ q = 6) := by
      split at hp
      · cases hp; exact ⟨by assumption, rfl, rfl⟩
      · cases hp
    obtain ⟨hi0, rfl, rfl⟩ := HP.out
    have hi1 := wIdx_lt (lowerL (l.takeWhile letterP)) (cNames f)
    have hi2 : (cNames f).length ≤ 12 := by unfold cNames; split; decide; split <;> decide
    have HW1 := Lib.hid (fun W (h : Live W b s l) => word_live hs h)
    have HLow := Lib.hid (fun W => lower_any (l.takeWhile letterP) (all_take letterP l) (by have h1 := (List.takeWhile_prefix letterP (l := l)).length_le; have := (HL.out w (Below.refl _ _)).len; omega) W)
    have HIx := Lib.hid (fun W A n (hA : NamesAt f A n W) => index_any f A n (lowerL (l.takeWhile letterP)) W hcase.1 hA)
    have HF : Hid (∀ W, Calls Tryd.prog 42 #[.int .u8 (pPeek l)] W (RetQ (.bool true) W)) := by
      intro W
      have := letter_any (pPeek l) W
      rw [letterI_peek, hcase.2] at this
      exact this
    have HC := Lib.hid hcase
    have hb1 : cLo f ≤ 1 := by unfold cLo; split <;> decide
    have hi9 : -1 ≤ wIdx (lowerL (l.takeWhile letterP)) (cNames f) := by unfold wIdx; split <;> omega
    have HFl := Lib.hid (fun W r (h : Live W b s r) => fail_live (placeI s l.length) 6 (by decide) h)
    generalize hix : wIdx (lowerL (l.takeWhile letterP)) (cNames f) = ix at *
    clear hp HP hcase hix
    go_enter Tryd.func32, Tryd.ntmps32
    go_wp2_with fail
    refine (bounds_in f hf _).mono ?_
    rintro e w1 ⟨rfl, hb1⟩
    have HB1 := Lib.hid ((box_new w b (f : Int) 43).below hb1)
    have hbA : Below w.heap.size w w1 := ((Below.refl _ w).alloc (Nat.le_refl _) _).trans (hb1.mono (by simp))
    have hzA := hbA.size
    clear hb1
    go_wp2_with fail
    obtain ⟨W1, rfl⟩ : ∃ W1 : World, W1 = w1 := ⟨_, rfl⟩
    have HS : Hid (∀ w', Below W1.heap.size W1 w' → Below W1.heap.size W1 w' ∧ w'.cell? ⟨w.heap.size, 0, none⟩ = some (.pointer (some ⟨b, 0, none⟩)) ∧ w'.cell? ⟨w.heap.size, 1, none⟩ = some (.int .i64 (f : Int))) := fun w' h => ⟨h, (HB1.out.below h).1, (HB1.out.below h).2⟩
    have HW : Hid (∀ w', Below W1.heap.size W1 w' → Below w.heap.size w w') := fun w' h => bthen hbA h hzA
    go_region_held3 (fun w' => Below W1.heap.size W1 w' ∧ w'.cell? ⟨w.heap.size, 0, none⟩ = some (.pointer (some ⟨b, 0, none⟩)) ∧ w'.cell? ⟨w.heap.size, 1, none⟩ = some (.int .i64 (f : Int)))
      (first | (go_split_ands; refine HS.out _ (bthen ?_ hb1 ?_); assumption; exact Below.size (by assumption)) | (go_split_ands; refine HS.out _ (Below.alloc ?_ ?_ _); assumption; exact Below.size (by assumption)) | (refine HS.out _ ?_; exact Below.drew (Below.refl _ _)) | (refine HS.out _ ?_; exact below_drewN (Below.refl _ _) _))
      (first | (go_at_call 12; (with_reducible refine (HAt.out _ ?_).mono ?_); (focus (go_split_ands; exact HW.out _ (by assumption))); rintro e w1 ⟨rfl, rfl⟩) | (go_at_call 41; (with_reducible refine (names_any f _).mono ?_); rintro e w1 ⟨A, n, rfl, hNA, hb1, hNB⟩))
    have hb2 : Below W1.heap.size W1 w1 := by go_split_ands; assumption
    have hbB : Below w.heap.size w w1 := HW.out _ hb2
    have HB2 := Lib.hid (HB1.out.below hb2)
    have hnb : ∀ B o, A = some ⟨B, o, none⟩ → B ≠ b := fun B o h => by have := hNB B o h; (try simp at this); omega
    have HNb := Lib.hid hnb
    clear hb1 HS HW hNB hnb
    try simp only [Exit.inBlock, Exit.then]
    have hAs : A.isSome = true := by
      rcases hNA with ⟨_, _, h3⟩ | ⟨B, rfl, _⟩
      · exact absurd h3 HC.out.1
      · rfl
    have HNA := Lib.hid hNA
    clear hNA
    go_wp2_with fail
    refine (peek_live (HL.out _ hbB)).mono ?_
    rintro e w2 ⟨rfl, h2, g2⟩
    obtain ⟨c0, c1⟩ := HB2.out.chg g2 hne
    have HB3 : Hid (Box w2 w.heap.size b (f : Int)) := ⟨c0, c1⟩
    have HN3 := Lib.hid (HNA.out.chg g2 HNb.out)
    have hgA : Chg b w w2 := (Chg.of_below hbB).trans g2
    go_wp2_with fail
    refine (HF.out _).mono ?_
    rintro e w3 ⟨rfl, rfl⟩
    go_wp2_with fail
    refine (HW1.out _ h2).mono ?_
    rintro e w4 ⟨rfl, h4, g4⟩
    have HB4 := Lib.hid (HB3.out.chg g4 hne)
    have HN4 := Lib.hid (HN3.out.chg g4 HNb.out)
    have hgB := hgA.trans g4
    clear c0 c1 h2 g2 g4 HB3 HN3
    go_wp2_with fail
    refine (HLow.out _).mono ?_
    rintro e w5 ⟨rfl, hb5⟩
    have HB5 := Lib.hid (HB4.out.below hb5)
    have HN5 := Lib.hid (HN4.out.below hb5)
    have h5 := h4.below hb5
    have hgC := hgB.trans (Chg.of_below hb5)
    clear HB4 HN4 hb5 h4
    go_wp2_with fail
    refine (HIx.out _ _ _ HN5.out).mono ?_
    rintro e w6 ⟨rfl, rfl⟩
    obtain ⟨c0, c1⟩ := HB5.out
    go_wp2_with fail
    refine (HFl.out _ _ h5).mono ?_
    rintro e w6 ⟨rfl, h6, g6⟩
    go_wp2
    go_ret
    exact ⟨_, rfl, h6, hgC.trans g6⟩
  · rcases cNum_errs hcase hp with hp2 | ⟨n0, r, hp2, hr, rfl, rfl⟩
    · have HN := Lib.hid (fun W (h : Live W b s l) => number_err hs (most := 2) (by decide) h hp2)
      have HC := Lib.hid hcase
      clear hp hp2 hcase
      go_enter Tryd.func32, Tryd.ntmps32
      go_wp2_with fail
      refine (bounds_in f hf _).mono ?_
      rintro e w1 ⟨rfl, hb1⟩
      have HB1 := Lib.hid ((box_new w b (f : Int) 43).below hb1)
      have hbA : Below w.heap.size w w1 := ((Below.refl _ w).alloc (Nat.le_refl _) _).trans (hb1.mono (by simp))
      have hzA := hbA.size
      clear hb1
      go_wp2_with fail
      obtain ⟨W1, rfl⟩ : ∃ W1 : World, W1 = w1 := ⟨_, rfl⟩
      have HS : Hid (∀ w', Below W1.heap.size W1 w' → Below W1.heap.size W1 w' ∧ w'.cell? ⟨w.heap.size, 0, none⟩ = some (.pointer (some ⟨b, 0, none⟩)) ∧ w'.cell? ⟨w.heap.size, 1, none⟩ = some (.int .i64 (f : Int))) := fun w' h => ⟨h, (HB1.out.below h).1, (HB1.out.below h).2⟩
      have HW : Hid (∀ w', Below W1.heap.size W1 w' → Below w.heap.size w w') := fun w' h => bthen hbA h hzA
      go_region_held3 (fun w' => Below W1.heap.size W1 w' ∧ w'.cell? ⟨w.heap.size, 0, none⟩ = some (.pointer (some ⟨b, 0, none⟩)) ∧ w'.cell? ⟨w.heap.size, 1, none⟩ = some (.int .i64 (f : Int)))
        (first | (go_split_ands; refine HS.out _ (bthen ?_ hb1 ?_); assumption; exact Below.size (by assumption)) | (go_split_ands; refine HS.out _ (Below.alloc ?_ ?_ _); assumption; exact Below.size (by assumption)) | (refine HS.out _ ?_; exact Below.drew (Below.refl _ _)) | (refine HS.out _ ?_; exact below_drewN (Below.refl _ _) _))
        (first | (go_at_call 12; (with_reducible refine (HAt.out _ ?_).mono ?_); (focus (go_split_ands; exact HW.out _ (by assumption))); rintro e w1 ⟨rfl, rfl⟩) | (go_at_call 41; (with_reducible refine (names_any f _).mono ?_); rintro e w1 ⟨A, n, rfl, hNA, hb1, hNB⟩))
      have hb2 : Below W1.heap.size W1 w1 := by go_split_ands; assumption
      have hbB : Below w.heap.size w w1 := HW.out _ hb2
      have HB2 := Lib.hid (HB1.out.below hb2)
      have hnb : ∀ B o, A = some ⟨B, o, none⟩ → B ≠ b := fun B o h => by have := hNB B o h; (try simp at this); omega
      have HNb := Lib.hid hnb
      clear hb1 HS HW hNB hnb
      try simp only [Exit.inBlock, Exit.then]
      go_wp2_with fail
      · have hA : A.isSome = true := by assumption
        have HF : Hid (∀ W, Calls Tryd.prog 42 #[.int .u8 (pPeek l)] W (RetQ (.bool false) W)) := by
          intro W
          have h1 : headB letterP l = false := by
            rcases hNA with ⟨rfl, _⟩ | ⟨B, _, _, h3, _⟩
            · cases hA
            · cases hb : headB letterP l with
              | false => rfl
              | true => exact absurd ⟨h3, hb⟩ HC.out
          have := letter_any (pPeek l) W
          rw [letterI_peek, h1] at this
          exact this
        refine (peek_live (HL.out _ hbB)).mono ?_
        rintro e w2 ⟨rfl, h2, g2⟩
        obtain ⟨c0, c1⟩ := HB2.out.chg g2 hne
        have HB3 : Hid (Box w2 w.heap.size b (f : Int)) := ⟨c0, c1⟩
        have hgA : Chg b w w2 := (Chg.of_below hbB).trans g2
        go_wp2_with fail
        refine (HF.out _).mono ?_
        rintro e w3 ⟨rfl, rfl⟩
        go_wp2_with fail
        refine (HN.out _ h2).mono ?_
        rintro e w4 ⟨rfl, h4, g4⟩
        go_wp2
        go_ret
        exact ⟨_, rfl, h4, hgA.trans g4⟩
      · have h2 := HL.out _ hbB
        have HB3 := HB2
        have hgA : Chg b w w1 := Chg.of_below hbB
        refine (HN.out _ h2).mono ?_
        rintro e w4 ⟨rfl, h4, g4⟩
        go_wp2
        go_ret
        exact ⟨_, rfl, h4, hgA.trans g4⟩
    · have HN := Lib.hid (fun W (h : Live W b s l) => number_ok hs (most := 2) (by decide) h hp2)
      have HFl := Lib.hid (fun W r (h : Live W b s r) => fail_live (placeI s l.length) 4 (by decide) h)
      have HC := Lib.hid hcase
      clear hp hp2 hcase
      by_cases hr1 : n0 < cLo f
      · clear hr
        go_enter Tryd.func32, Tryd.ntmps32
        go_wp2_with fail
        refine (bounds_in f hf _).mono ?_
        rintro e w1 ⟨rfl, hb1⟩
        have HB1 := Lib.hid ((box_new w b (f : Int) 43).below hb1)
        have hbA : Below w.heap.size w w1 := ((Below.refl _ w).alloc (Nat.le_refl _) _).trans (hb1.mono (by simp))
        have hzA := hbA.size
        clear hb1
        go_wp2_with fail
        obtain ⟨W1, rfl⟩ : ∃ W1 : World, W1 = w1 := ⟨_, rfl⟩
        have HS : Hid (∀ w', Below W1.heap.size W1 w' → Below W1.heap.size W1 w' ∧ w'.cell? ⟨w.heap.size, 0, none⟩ = some (.pointer (some ⟨b, 0, none⟩)) ∧ w'.cell? ⟨w.heap.size, 1, none⟩ = some (.int .i64 (f : Int))) := fun w' h => ⟨h, (HB1.out.below h).1, (HB1.out.below h).2⟩
        have HW : Hid (∀ w', Below W1.heap.size W1 w' → Below w.heap.size w w') := fun w' h => bthen hbA h hzA
        go_region_held3 (fun w' => Below W1.heap.size W1 w' ∧ w'.cell? ⟨w.heap.size, 0, none⟩ = some (.pointer (some ⟨b, 0, none⟩)) ∧ w'.cell? ⟨w.heap.size, 1, none⟩ = some (.int .i64 (f : Int)))
          (first | (go_split_ands; refine HS.out _ (bthen ?_ hb1 ?_); assumption; exact Below.size (by assumption)) | (go_split_ands; refine HS.out _ (Below.alloc ?_ ?_ _); assumption; exact Below.size (by assumption)) | (refine HS.out _ ?_; exact Below.drew (Below.refl _ _)) | (refine HS.out _ ?_; exact below_drewN (Below.refl _ _) _))
          (first | (go_at_call 12; (with_reducible refine (HAt.out _ ?_).mono ?_); (focus (go_split_ands; exact HW.out _ (by assumption))); rintro e w1 ⟨rfl, rfl⟩) | (go_at_call 41; (with_reducible refine (names_any f _).mono ?_); rintro e w1 ⟨A, n, rfl, hNA, hb1, hNB⟩))
        have hb2 : Below W1.heap.size W1 w1 := by go_split_ands; assumption
        have hbB : Below w.heap.size w w1 := HW.out _ hb2
        have HB2 := Lib.hid (HB1.out.below hb2)
        have hnb : ∀ B o, A = some ⟨B, o, none⟩ → B ≠ b := fun B o h => by have := hNB B o h; (try simp at this); omega
        have HNb := Lib.hid hnb
        clear hb1 HS HW hNB hnb
        try simp only [Exit.inBlock, Exit.then]
        go_wp2_with fail
        · have hA : A.isSome = true := by assumption
          have HF : Hid (∀ W, Calls Tryd.prog 42 #[.int .u8 (pPeek l)] W (RetQ (.bool false) W)) := by
            intro W
            have h1 : headB letterP l = false := by
              rcases hNA with ⟨rfl, _⟩ | ⟨B, _, _, h3, _⟩
              · cases hA
              · cases hb : headB letterP l with
                | false => rfl
                | true => exact absurd ⟨h3, hb⟩ HC.out
            have := letter_any (pPeek l) W
            rw [letterI_peek, h1] at this
            exact this
          refine (peek_live (HL.out _ hbB)).mono ?_
          rintro e w2 ⟨rfl, h2, g2⟩
          obtain ⟨c0, c1⟩ := HB2.out.chg g2 hne
          have HB3 : Hid (Box w2 w.heap.size b (f : Int)) := ⟨c0, c1⟩
          have hgA : Chg b w w2 := (Chg.of_below hbB).trans g2
          go_wp2_with fail
          refine (HF.out _).mono ?_
          rintro e w3 ⟨rfl, rfl⟩
          go_wp2_with fail
          refine (HN.out _ h2).mono ?_
          rintro e w4 ⟨rfl, h4, g4⟩
          obtain ⟨c0, c1⟩ := HB3.out.chg g4 hne
          have hgB := hgA.trans g4
          go_wp2_with fail
          refine (HFl.out _ _ h4).mono ?_
          rintro e w5 ⟨rfl, h5, g5⟩
          go_wp2
          go_ret
          exact ⟨_, rfl, h5, hgB.trans g5⟩
        · have h2 := HL.out _ hbB
          have HB3 := HB2
          have hgA : Chg b w w1 := Chg.of_below hbB
          refine (HN.out _ h2).mono ?_
          rintro e w4 ⟨rfl, h4, g4⟩
          obtain ⟨c0, c1⟩ := HB3.out.chg g4 hne
          have hgB := hgA.trans g4
          go_wp2_with fail
          refine (HFl.out _ _ h4).mono ?_
          rintro e w5 ⟨rfl, h5, g5⟩
          go_wp2
          go_ret
          exact ⟨_, rfl, h5, hgB.trans g5⟩
      · have hr2 : cHi f < n0 := by omega
        clear hr
        go_enter Tryd.func32, Tryd.ntmps32
        go_wp2_with fail
        refine (bounds_in f hf _).mono ?_
        rintro e w1 ⟨rfl, hb1⟩
        have HB1 := Lib.hid ((box_new w b (f : Int) 43).below hb1)
        have hbA : Below w.heap.size w w1 := ((Below.refl _ w).alloc (Nat.le_refl _) _).trans (hb1.mono (by simp))
        have hzA := hbA.size
        clear hb1
        go_wp2_with fail
        obtain ⟨W1, rfl⟩ : ∃ W1 : World, W1 = w1 := ⟨_, rfl⟩
        have HS : Hid (∀ w', Below W1.heap.size W1 w' → Below W1.heap.size W1 w' ∧ w'.cell? ⟨w.heap.size, 0, none⟩ = some (.pointer (some ⟨b, 0, none⟩)) ∧ w'.cell? ⟨w.heap.size, 1, none⟩ = some (.int .i64 (f : Int))) := fun w' h => ⟨h, (HB1.out.below h).1, (HB1.out.below h).2⟩
        have HW : Hid (∀ w', Below W1.heap.size W1 w' → Below w.heap.size w w') := fun w' h => bthen hbA h hzA
        go_region_held3 (fun w' => Below W1.heap.size W1 w' ∧ w'.cell? ⟨w.heap.size, 0, none⟩ = some (.pointer (some ⟨b, 0, none⟩)) ∧ w'.cell? ⟨w.heap.size, 1, none⟩ = some (.int .i64 (f : Int)))
          (first | (go_split_ands; refine HS.out _ (bthen ?_ hb1 ?_); assumption; exact Below.size (by assumption)) | (go_split_ands; refine HS.out _ (Below.alloc ?_ ?_ _); assumption; exact Below.size (by assumption)) | (refine HS.out _ ?_; exact Below.drew (Below.refl _ _)) | (refine HS.out _ ?_; exact below_drewN (Below.refl _ _) _))
          (first | (go_at_call 12; (with_reducible refine (HAt.out _ ?_).mono ?_); (focus (go_split_ands; exact HW.out _ (by assumption))); rintro e w1 ⟨rfl, rfl⟩) | (go_at_call 41; (with_reducible refine (names_any f _).mono ?_); rintro e w1 ⟨A, n, rfl, hNA, hb1, hNB⟩))
        have hb2 : Below W1.heap.size W1 w1 := by go_split_ands; assumption
        have hbB : Below w.heap.size w w1 := HW.out _ hb2
        have HB2 := Lib.hid (HB1.out.below hb2)
        have hnb : ∀ B o, A = some ⟨B, o, none⟩ → B ≠ b := fun B o h => by have := hNB B o h; (try simp at this); omega
        have HNb := Lib.hid hnb
        clear hb1 HS HW hNB hnb
        try simp only [Exit.inBlock, Exit.then]
        go_wp2_with fail
        · have hA : A.isSome = true := by assumption
          have HF : Hid (∀ W, Calls Tryd.prog 42 #[.int .u8 (pPeek l)] W (RetQ (.bool false) W)) := by
            intro W
            have h1 : headB letterP l = false := by
              rcases hNA with ⟨rfl, _⟩ | ⟨B, _, _, h3, _⟩
              · cases hA
              · cases hb : headB letterP l with
                | false => rfl
                | true => exact absurd ⟨h3, hb⟩ HC.out
            have := letter_any (pPeek l) W
            rw [letterI_peek, h1] at this
            exact this
          refine (peek_live (HL.out _ hbB)).mono ?_
          rintro e w2 ⟨rfl, h2, g2⟩
          obtain ⟨c0, c1⟩ := HB2.out.chg g2 hne
          have HB3 : Hid (Box w2 w.heap.size b (f : Int)) := ⟨c0, c1⟩
          have hgA : Chg b w w2 := (Chg.of_below hbB).trans g2
          go_wp2_with fail
          refine (HF.out _).mono ?_
          rintro e w3 ⟨rfl, rfl⟩
          go_wp2_with fail
          refine (HN.out _ h2).mono ?_
          rintro e w4 ⟨rfl, h4, g4⟩
          obtain ⟨c0, c1⟩ := HB3.out.chg g4 hne
          have hgB := hgA.trans g4
          go_wp2_with fail
          refine (HFl.out _ _ h4).mono ?_
          rintro e w5 ⟨rfl, h5, g5⟩
          go_wp2
          go_ret
          exact ⟨_, rfl, h5, hgB.trans g5⟩
        · have h2 := HL.out _ hbB
          have HB3 := HB2
          have hgA : Chg b w w1 := Chg.of_below hbB
          refine (HN.out _ h2).mono ?_
          rintro e w4 ⟨rfl, h4, g4⟩
          obtain ⟨c0, c1⟩ := HB3.out.chg g4 hne
          have hgB := hgA.trans g4
          go_wp2_with fail
          refine (HFl.out _ _ h4).mono ?_
          rintro e w5 ⟨rfl, h5, g5⟩
          go_wp2
          go_ret
          exact ⟨_, rfl, h5, hgB.trans g5⟩

set_option maxRecDepth 20000 in
set_option maxHeartbeats 1000000 in
theorem num_dead (b f : Nat) (hf : f < 5) (s : ByteArray) (hs : s.size ≤ 1000000) (a c : Int) (w : World) (h : Dead w b s a c) :
    Calls Tryd.prog 32 #[rdV b f] w (RetDInt b s a c w) := by
  have hs : s.size ≤ 9223372036854775807 := by omega
  have hlt := h.lt
  have hne : w.heap.size ≠ b := by omega
  obtain ⟨p, hp0, hp1, hA⟩ := at_puredead h
  have HAt := Lib.hid hA
  have HL := Lib.hid (fun W (hW : Below w.heap.size w W) => h.below hW)
  have hneq := fun (W : World) A n c => run_neq_slice_nil_any (P := Tryd.prog) W 81 9 A n c 0 0 Tryd.underlying81
  have HN := Lib.hid (fun W (h : Dead W b s a c) => number_dead hs 2 h)
  have HF : Hid (∀ W, Calls Tryd.prog 42 #[.int .u8 0] W (RetQ (.bool false) W)) := fun W => letter_any 0 W
  clear h hA
  go_enter Tryd.func32, Tryd.ntmps32
  go_wp2_with fail
  refine (bounds_in f hf _).mono ?_
  rintro e w1 ⟨rfl, hb1⟩
  have HB1 := Lib.hid ((box_new w b (f : Int) 43).below hb1)
  have hbA : Below w.heap.size w w1 := ((Below.refl _ w).alloc (Nat.le_refl _) _).trans (hb1.mono (by simp))
  have hzA := hbA.size
  clear hb1
  go_wp2_with fail
  obtain ⟨W1, rfl⟩ : ∃ W1 : World, W1 = w1 := ⟨_, rfl⟩
  have HS : Hid (∀ w', Below W1.heap.size W1 w' → Below W1.heap.size W1 w' ∧ w'.cell? ⟨w.heap.size, 0, none⟩ = some (.pointer (some ⟨b, 0, none⟩)) ∧ w'.cell? ⟨w.heap.size, 1, none⟩ = some (.int .i64 (f : Int))) := fun w' h => ⟨h, (HB1.out.below h).1, (HB1.out.below h).2⟩
  have HW : Hid (∀ w', Below W1.heap.size W1 w' → Below w.heap.size w w') := fun w' h => bthen hbA h hzA
  go_region_held3 (fun w' => Below W1.heap.size W1 w' ∧ w'.cell? ⟨w.heap.size, 0, none⟩ = some (.pointer (some ⟨b, 0, none⟩)) ∧ w'.cell? ⟨w.heap.size, 1, none⟩ = some (.int .i64 (f : Int)))
    (first | (go_split_ands; refine HS.out _ (bthen ?_ hb1 ?_); assumption; exact Below.size (by assumption)) | (go_split_ands; refine HS.out _ (Below.alloc ?_ ?_ _); assumption; exact Below.size (by assumption)) | (refine HS.out _ ?_; exact Below.drew (Below.refl _ _)) | (refine HS.out _ ?_; exact below_drewN (Below.refl _ _) _))
    (first | (go_at_call 12; (with_reducible refine (HAt.out _ ?_).mono ?_); (focus (go_split_ands; exact HW.out _ (by assumption))); rintro e w1 ⟨rfl, rfl⟩) | (go_at_call 41; (with_reducible refine (names_any f _).mono ?_); rintro e w1 ⟨A, n, rfl, hNA, hb1, hNB⟩))
  have hb2 : Below W1.heap.size W1 w1 := by go_split_ands; assumption
  have hbB : Below w.heap.size w w1 := HW.out _ hb2
  have HB2 := Lib.hid (HB1.out.below hb2)
  have hnb : ∀ B o, A = some ⟨B, o, none⟩ → B ≠ b := fun B o h => by have := hNB B o h; (try simp at this); omega
  have HNb := Lib.hid hnb
  clear hb1 HS HW hNB hnb
  try simp only [Exit.inBlock, Exit.then]
  go_wp2_with fail
  · refine (peek_dead (HL.out _ hbB)).mono ?_
    rintro e w2 ⟨rfl, h2, g2⟩
    obtain ⟨c0, c1⟩ := HB2.out.chg g2 hne
    have hgA : Chg b w w2 := (Chg.of_below hbB).trans g2
    go_wp2_with fail
    refine (HF.out _).mono ?_
    rintro e w3 ⟨rfl, rfl⟩
    go_wp2_with fail
    refine (HN.out _ h2).mono ?_
    rintro e w4 ⟨rfl, h4, g4⟩
    go_wp2
    go_ret
    exact ⟨_, rfl, h4, hgA.trans g4⟩
  · refine (HN.out _ (HL.out _ hbB)).mono ?_
    rintro e w4 ⟨rfl, h4, g4⟩
    go_wp2
    go_ret
    exact ⟨_, rfl, h4, (Chg.of_below hbB).trans g4⟩
end Go.Proofs.YtpfcgjneeboamaaDoor
