/- The walks of package lex, on: what must stand there, numbers, words, texts, the end. -/
import Derived.Test.YthkleinjddkhoaaWLex3
namespace Go.Proofs.Ythkleinjddkhoaa
open Go.RowKit
set_option linter.unusedSimpArgs false
set_option linter.unusedVariables false

theorem lacks_nil (w : World) : Calls Try.prog 51 #[.pointer none] w (RetQ (.tuple #[]) w) := by
  go_enter Try.func51, Try.ntmps51
  go_wp2
  go_end0
  exact ⟨rfl, rfl⟩
/-- What lacks where it stands. -/
def lackE (s : ByteArray) (k : Nat) : Int := if k = s.size then 2 else 3
set_option maxHeartbeats 400000 in
theorem lacks_any (b : Nat) (s : ByteArray) (k : Nat) (bad e : Int) (w : World) (h : Rdr w b s k bad e) :
    Calls Try.prog 51 #[.pointer (some ⟨b, 0, none⟩)] w (RetR (.tuple #[]) b s k (failBad bad e k (lackE s k)) (failE e (lackE s k)) w) := by
  obtain ⟨c0, c1, c2, c3⟩ := h.cells
  have HF := Lib.hid (fun W q (h : Rdr W b s k bad e) => fail_any b s k bad e k q W h)
  have H := Lib.hid h
  clear h
  by_cases he : k = s.size
  · have he' : ((k : Int) == (s.size : Int)) = true := by simp; omega
    have e1 : lackE s k = 2 := if_pos he
    rw [e1]
    clear he e1
    go_enter Try.func51, Try.ntmps51
    go_wp2
    go_quiet (fail)
    go_wp2_with fail
    refine (HF.out _ _ (H.out.drewN _)).mono ?_
    rintro x w1 ⟨rfl, h1, g1⟩
    go_wp2
    first | go_end0 | (refine bodyPost_ret (results_none rfl _ _ _) rfl ?_)
    exact ⟨rfl, h1, ((Chg.refl _ _).drewN _).trans g1⟩
  · have he' : ((k : Int) == (s.size : Int)) = false := by simp; omega
    have e1 : lackE s k = 3 := if_neg he
    rw [e1]
    clear he e1
    go_enter Try.func51, Try.ntmps51
    go_wp2
    go_quiet (fail)
    go_wp2_with fail
    refine (HF.out _ _ (H.out.drewN _)).mono ?_
    rintro x w1 ⟨rfl, h1, g1⟩
    go_wp2
    first | go_end0 | (refine bodyPost_ret (results_none rfl _ _ _) rfl ?_)
    exact ⟨rfl, h1, ((Chg.refl _ _).drewN _).trans g1⟩

/-- The byte where it stands; 0. -/
def peekN (s : ByteArray) (k : Nat) (e : Int) : Int := if h : e = 0 ∧ k < s.size then ((s[k]'h.2).toNat : Int) else 0
theorem peekN_done {s : ByteArray} {k : Nat} {e : Int} (h : doneB s k e = true) : peekN s k e = 0 := by
  simp only [doneB, decide_eq_true_eq] at h
  exact dif_neg (by omega)
theorem peekN_at {s : ByteArray} {k : Nat} (h : k < s.size) : peekN s k 0 = (s[k].toNat : Int) := dif_pos ⟨rfl, h⟩
theorem peek_any (b : Nat) (s : ByteArray) (k : Nat) (bad e : Int) (w : World) (h : Rdr w b s k bad e) (hk : k ≤ s.size) : Calls Try.prog 20 #[.pointer (some ⟨b, 0, none⟩)] w (RetN (.int .u8 (peekN s k e)) w) := by
  cases hd : doneB s k e with
  | true => rw [peekN_done hd]; exact peek_done b s k bad e w h hd
  | false =>
    obtain ⟨rfl, hlt⟩ := doneB_no hk hd
    rw [peekN_at hlt]; exact peek_byte b s k bad w h hlt

set_option maxHeartbeats 400000 in
theorem must_any (b : Nat) (s : ByteArray) (k : Nat) (bad e : Int) (A : Option Addr) (n c : Nat) (cs : List UInt8) (w : World) (h : Rdr w b s k bad e) (hs : s.size ≤ 9223372036854775807) (hk : k ≤ s.size) (hA : RdBytes w A n cs) (hn : n ≤ 9223372036854775807) :
    Calls Try.prog 39 #[.pointer (some ⟨b, 0, none⟩), .slice A n c] w
      (RetR (.int .u8 (if isB s k e cs then peekN s k e else 0)) b s (isK s k e cs) (if isB s k e cs then bad else failBad bad e k (lackE s k)) (if isB s k e cs then e else failE e (lackE s k)) w) := by
  have HP := Lib.hid (peek_any b s k bad e w h hk)
  have HI := Lib.hid (fun q => is_any b s k bad e A n c cs (w.drewN q) h hs hk hA hn)
  have HL := Lib.hid (fun W (h : Rdr W b s k bad e) => lacks_any b s k bad e W h)
  unfold isK at HI ⊢
  clear h hA
  cases hq : isB s k e cs with
  | true =>
    rw [hq] at HI
    rw [if_pos rfl] at HI
    simp only [if_true]
    clear hq
    go_enter Try.func39, Try.ntmps39
    go_wp2_with fail
    refine HP.out.mono ?_
    rintro x w1 ⟨rfl, q, rfl⟩
    go_wp2_with fail
    refine (HI.out _).mono ?_
    rintro x w1 ⟨rfl, h1, g1⟩
    go_wp2
    go_ret
    exact ⟨rfl, h1, ((Chg.refl _ _).drewN _).trans g1⟩
  | false =>
    rw [hq] at HI
    rw [if_neg (by decide)] at HI
    simp only [Bool.false_eq_true, if_false]
    clear hq
    go_enter Try.func39, Try.ntmps39
    go_wp2_with fail
    refine HP.out.mono ?_
    rintro x w1 ⟨rfl, q, rfl⟩
    go_wp2_with fail
    refine (HI.out _).mono ?_
    rintro x w1 ⟨rfl, h1, g1⟩
    go_wp2_with fail
    refine (HL.out _ h1).mono ?_
    rintro x w2 ⟨rfl, h2, g2⟩
    go_wp2
    go_ret
    exact ⟨rfl, h2, (((Chg.refl _ _).drewN _).trans g1).trans g2⟩

theorem word_any (b : Nat) (s : ByteArray) (k : Nat) (bad e : Int) (w : World) (h : Rdr w b s k bad e) (hs : s.size ≤ 9223372036854775807) (hk : k ≤ s.size) :
    Calls Try.prog 48 #[.pointer (some ⟨b, 0, none⟩)] w (RetR (.string (s.extract k (someK letterP s k e))) b s (someK letterP s k e) bad e w) := by
  have HS := Lib.hid (some_any b s k bad e 66 letterP w h hs hk (enters_of Try.func66 (by kernel_rfl) rfl) letter1_any)
  generalize someK letterP s k e = j at HS ⊢
  clear h
  go_enter Try.func48, Try.ntmps48
  go_wp2_with fail
  refine HS.out.mono ?_
  rintro x w1 ⟨rfl, h1, g1⟩
  go_wp2
  go_ret
  exact ⟨rfl, h1, g1⟩

/-- A new reader: its block is new. -/
def RetNew (s : ByteArray) (bad e : Int) (w : World) (x : Ending) (w' : World) : Prop := ∃ b, w.heap.size ≤ b ∧ x = .returned (.pointer (some ⟨b, 0, none⟩)) ∧ Rdr w' b s 0 bad e ∧ Below w.heap.size w w'
def newBad (s : ByteArray) : Int := if 8192 < s.size then 8192 else 0
def newE (s : ByteArray) : Int := if 8192 < s.size then 5 else 0
theorem new_any (s : ByteArray) (w : World) (hs : s.size ≤ 9223372036854775807) : Calls Try.prog 10 #[.string s] w (RetNew s (newBad s) (newE s) w) := by
  have HF := Lib.hid (fun W b h => fail_any b s 0 0 0 8192 5 W h)
  rw [show failBad 0 0 8192 5 = 8192 from by simp [failBad], show failE 0 5 = 5 from by simp [failE]] at HF
  by_cases hl : 8192 < s.size
  · have hl' : (8192 : Int) < (s.size : Int) := by omega
    rw [newBad, newE, if_pos hl, if_pos hl]
    clear hl
    go_enter Try.func10, Try.ntmps10
    go_wp2_with fail
    refine (HF.out _ _ (heap_alloc_new w _)).mono ?_
    rintro x w1 ⟨rfl, h1, g1⟩
    go_wp2
    go_ret
    exact ⟨w.heap.size, Nat.le_refl _, rfl, h1, Chg.below ((Below.refl _ w).alloc (Nat.le_refl _) _) g1 (Nat.le_refl _) (by simp)⟩
  · have hl' : ¬ (8192 : Int) < (s.size : Int) := by omega
    rw [newBad, newE, if_neg hl, if_neg hl]
    clear hl
    go_enter Try.func10, Try.ntmps10
    go_wp2
    go_ret
    exact ⟨w.heap.size, Nat.le_refl _, rfl, heap_alloc_new w _, (Below.refl _ w).alloc (Nat.le_refl _) _⟩
end Go.Proofs.Ythkleinjddkhoaa
