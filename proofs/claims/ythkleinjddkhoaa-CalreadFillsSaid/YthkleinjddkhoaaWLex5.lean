/- The walk of a reader's Number. -/
import Derived.Test.YthkleinjddkhoaaWLex4
namespace Go.Proofs.Ythkleinjddkhoaa
open Go.RowKit
set_option linter.unusedSimpArgs false
set_option linter.unusedVariables false

/-- The number that digits tell. -/
def numOf (l : List UInt8) : Int := l.foldl (fun n c => 10 * n + ((c.toNat : Int) - 48)) 0
theorem numOf_snoc (l : List UInt8) (c : UInt8) : numOf (l ++ [c]) = 10 * numOf l + ((c.toNat : Int) - 48) := by simp [numOf, List.foldl_append]
theorem numOf_go (l : List UInt8) (h : ∀ c ∈ l, digitP c = true) (a : Int) (ha : 0 ≤ a) :
    0 ≤ l.foldl (fun n (c : UInt8) => 10 * n + ((c.toNat : Int) - 48)) a ∧ l.foldl (fun n (c : UInt8) => 10 * n + ((c.toNat : Int) - 48)) a < (a + 1) * 10 ^ l.length := by
  induction l generalizing a with
  | nil => simp; omega
  | cons c l ih =>
    have h2 := h c (by simp)
    simp only [digitP, decide_eq_true_eq] at h2
    have h3 := ih (fun c hc => h c (List.mem_cons_of_mem _ hc)) (10 * a + ((c.toNat : Int) - 48)) (by omega)
    rw [List.foldl_cons, List.length_cons, Int.pow_succ]
    refine ⟨h3.1, Int.lt_of_lt_of_le h3.2 ?_⟩
    have h4 : (0 : Int) ≤ 10 ^ l.length := Int.pow_nonneg (by decide)
    generalize (10 : Int) ^ l.length = q at h4 ⊢
    calc (10 * a + ((c.toNat : Int) - 48) + 1) * q ≤ ((a + 1) * 10) * q := Int.mul_le_mul_of_nonneg_right (by omega) h4
      _ = (a + 1) * (q * 10) := by rw [Int.mul_assoc, Int.mul_comm 10 q]
theorem numOf_bd (l : List UInt8) (h : ∀ c ∈ l, digitP c = true) : 0 ≤ numOf l ∧ numOf l < 10 ^ l.length := by
  have := numOf_go l h 0 (by decide)
  simpa [numOf] using this
theorem pow_le17 {k : Nat} (h : k ≤ 17) : (10 : Int) ^ k ≤ 100000000000000000 := by
  have : k = 0 ∨ k = 1 ∨ k = 2 ∨ k = 3 ∨ k = 4 ∨ k = 5 ∨ k = 6 ∨ k = 7 ∨ k = 8 ∨ k = 9 ∨ k = 10 ∨ k = 11 ∨ k = 12 ∨ k = 13 ∨ k = 14 ∨ k = 15 ∨ k = 16 ∨ k = 17 := by omega
  rcases this with rfl | rfl | rfl | rfl | rfl | rfl | rfl | rfl | rfl | rfl | rfl | rfl | rfl | rfl | rfl | rfl | rfl | rfl <;> decide

theorem run_all {p : UInt8 → Bool} (l : List UInt8) : ∀ x ∈ l.takeWhile p, p x = true := by
  induction l with
  | nil => simp
  | cons a l ih =>
    intro x hx
    rw [List.takeWhile_cons] at hx
    split at hx
    · simp only [List.mem_cons] at hx
      rcases hx with rfl | hx
      · assumption
      · exact ih x hx
    · simp at hx
theorem someK_le (p : UInt8 → Bool) (s : ByteArray) (k : Nat) (e : Int) (hk : k ≤ s.size) : k ≤ someK p s k e ∧ someK p s k e ≤ s.size := by
  unfold someK
  split
  · exact ⟨Nat.le_refl _, hk⟩
  · refine ⟨Nat.le_add_right _ _, ?_⟩
    have h1 : ((s.data.toList.drop k).takeWhile p).length ≤ (s.data.toList.drop k).length := (List.takeWhile_prefix p).length_le
    rw [List.length_drop] at h1
    have e0 : s.data.toList.length = s.data.size := Array.length_toList
    have e : s.data.size = s.size := rfl
    have e2 : runLen p s k = ((s.data.toList.drop k).takeWhile p).length := rfl
    omega
/-- The bytes of a run. -/
def runL (p : UInt8 → Bool) (s : ByteArray) (k : Nat) (e : Int) : List UInt8 := (s.data.toList.drop k).take (someK p s k e - k)
theorem runL_all (p : UInt8 → Bool) (s : ByteArray) (k : Nat) (e : Int) : ∀ x ∈ runL p s k e, p x = true := by
  unfold runL someK
  split
  · simp
  · rw [show k + runLen p s k - k = runLen p s k from by omega]
    unfold runLen
    rw [show (s.data.toList.drop k).take ((s.data.toList.drop k).takeWhile p).length = (s.data.toList.drop k).takeWhile p from (List.prefix_iff_eq_take.1 (List.takeWhile_prefix p)).symm]
    exact run_all _
theorem extract_list (s : ByteArray) (k j : Nat) : (s.extract k j).data.toList = (s.data.toList.drop k).take (j - k) := by
  rw [ByteArray.data_extract, Array.toList_extract, List.extract_eq_take_drop]

/-- Is a number taken? -/
def numB (s : ByteArray) (k : Nat) (e most : Int) : Bool := decide (someK digitP s k e ≠ k ∧ ((someK digitP s k e - k : Nat) : Int) ≤ most ∧ most ≤ 18)
def numErr (s : ByteArray) (k : Nat) (e : Int) : Int := if someK digitP s k e = k then lackE s k else 4

/-- The bytes of a text, as a new slice. -/
theorem conv_bytes (t : ByteArray) (w : World) : ∃ cap C, (convert 9 70 (.string t)).run Try.prog w = .ok (.slice (some ⟨w.heap.size, 0, none⟩) t.size cap) (w.drew.alloc (.cells C 5 (C.size, C.size + 1))) ∧
    ∀ (i : Nat) (x : UInt8), t.data.toList[i]? = some x → C[i]? = some (Value.int .u8 (x.toNat : Int)) := by
  refine ⟨_, _, run_bytes_of_string w 9 70 5 t Try.underlying9 Try.underlying70 Try.underlying5, ?_⟩
  intro i x hx
  have hi := (List.getElem?_eq_some_iff.1 hx).1
  rw [Array.length_toList] at hi
  rw [bytesRow, Array.getElem?_append_left (by simpa using hi), Array.getElem?_map]
  simp only [Array.getElem?_toList] at hx
  rw [hx]
  rfl

theorem some_nil (g : Nat) (w : World) : Calls Try.prog 65 #[.pointer none, .func (.func g) #[] #[]] w (RetN (.string ⟨#[]⟩) w) := by
  go_enter Try.func65, Try.ntmps65
  go_wp2_with fail
  refine (done_nil _).mono ?_
  rintro x w1 ⟨rfl, q, rfl⟩
  go_wp2
  go_ret
  exact ⟨rfl, _, rfl⟩
theorem number_nil (most : Int) (w : World) : Calls Try.prog 77 #[.pointer none, .int .i64 most] w (RetN (.tuple #[.int .i64 0, .bool false]) w) := by
  have HS := Lib.hid (fun W => some_nil 80 W)
  go_enter Try.func77, Try.ntmps77
  go_wp2_with fail
  refine (at_nil _).mono ?_
  rintro x w1 ⟨rfl, rfl⟩
  go_wp2_with fail
  refine (HS.out _).mono ?_
  rintro x w1 ⟨rfl, q, rfl⟩
  go_wp2_with fail
  refine (lacks_nil _).mono ?_
  rintro x w1 ⟨rfl, rfl⟩
  go_wp2
  go_ret2
  exact ⟨rfl, _, rfl⟩

set_option maxRecDepth 100000 in
set_option maxHeartbeats 1000000 in
theorem number_any (b : Nat) (s : ByteArray) (k : Nat) (bad e most : Int) (w : World) (h : Rdr w b s k bad e) (hs : s.size ≤ 9223372036854775807) (hk : k ≤ s.size) :
    Calls Try.prog 77 #[.pointer (some ⟨b, 0, none⟩), .int .i64 most] w
      (RetR (.tuple #[.int .i64 (if numB s k e most then numOf (runL digitP s k e) else 0), .bool (numB s k e most)]) b s (if numB s k e most then someK digitP s k e else k)
        (if numB s k e most then bad else failBad bad e k (numErr s k e)) (if numB s k e most then e else failE e (numErr s k e)) w) := by
  have HA := Lib.hid (at_any b s k bad e w h)
  have HS := Lib.hid (some_any b s k bad e 80 digitP w h hs hk (enters_of Try.func80 (by kernel_rfl) rfl) digit1_any)
  have hj := someK_le digitP s k e hk
  have HL := Lib.hid (fun W (h : Rdr W b s k bad e) => lacks_any b s k bad e W h)
  have HF := Lib.hid (fun W (h : Rdr W b s k bad e) => fail_any b s k bad e k 4 W h)
  clear h
  by_cases h0 : someK digitP s k e = k
  · have e1 : numB s k e most = false := by simp [numB, h0]
    have e2 : numErr s k e = lackE s k := if_pos h0
    rw [e1, e2]
    simp only [Bool.false_eq_true, if_false]
    rw [h0, extract_none] at HS
    clear h0 e1 e2 hj
    go_enter Try.func77, Try.ntmps77
    go_wp2_with fail
    refine HA.out.mono ?_
    rintro x w1 ⟨rfl, rfl⟩
    go_wp2_with fail
    refine HS.out.mono ?_
    rintro x w1 ⟨rfl, h1, g1⟩
    go_wp2_with fail
    refine (HL.out _ h1).mono ?_
    rintro x w2 ⟨rfl, h2, g2⟩
    go_wp2
    go_ret2
    exact ⟨rfl, h2, g1.trans g2⟩
  have hlen : (s.extract k (someK digitP s k e)).size = someK digitP s k e - k := by simp; omega
  have ht0 : (s.extract k (someK digitP s k e)).toList.isEmpty = false := by
    rw [ByteArray.toList_eq]
    cases hq : (s.extract k (someK digitP s k e)).data.toList with
    | nil =>
      have : (s.extract k (someK digitP s k e)).data.size = 0 := by rw [← Array.length_toList, hq]; rfl
      have e3 : (s.extract k (someK digitP s k e)).data.size = (s.extract k (someK digitP s k e)).size := rfl
      omega
    | cons a l => rfl
  have hrl : (s.extract k (someK digitP s k e)).data.toList = runL digitP s k e := extract_list _ _ _
  have hall := runL_all digitP s k e
  have hjp : k < someK digitP s k e := by omega
  by_cases hm : ((someK digitP s k e - k : Nat) : Int) ≤ most ∧ most ≤ 18
  · have e1 : numB s k e most = true := decide_eq_true ⟨h0, hm⟩
    rw [e1]
    simp only [if_true]
    clear e1 h0 HL HF
    generalize someK digitP s k e = j at *
    generalize ht : s.extract k j = t at *
    generalize runL digitP s k e = L at *
    have hm1 : ¬ most < (t.size : Int) := by omega
    have hm2 : ¬ 18 < most := by omega
    have hsz18 : t.size ≤ 18 := by omega
    have HRL := Lib.hid hrl
    have HAll := Lib.hid hall
    clear ht hrl hall hlen hm hj
    go_enter Try.func77, Try.ntmps77
    go_wp2_with fail
    refine HA.out.mono ?_
    rintro x w1 ⟨rfl, rfl⟩
    go_wp2_with fail
    refine HS.out.mono ?_
    rintro x w1 ⟨rfl, h1, g1⟩
    obtain ⟨cap, C, hconv, hC⟩ := conv_bytes t w1
    have HC := Lib.hid hC
    have H1 := Lib.hid h1
    clear hC h1
    have hcell : ∀ (i : Nat) (x : UInt8), t.data.toList[i]? = some x → (w1.alloc (.cells C 5 (C.size, C.size + 1))).cell? ⟨w1.heap.size, i, none⟩ = some (.int .u8 (x.toNat : Int)) := by
      intro i x hx
      have h1 := heap_alloc_new w1 (.cells C 5 (C.size, C.size + 1))
      unfold World.cell?
      rw [h1]
      exact HC.out i x hx
    have HCell := Lib.hid hcell
    have htl : t.data.toList.length = t.size := Array.length_toList
    clear hcell
    go_wp2
    go_loop [8, 39] (fun v i => ∃ q : Nat, q ≤ t.size ∧ i = .int .i64 q ∧ v = .int .i64 (numOf (t.data.toList.take q))) (fun _ i => t.size - (intOf i).toNat)
    case atStart => exact ⟨0, Nat.zero_le _, rfl, rfl⟩
    case round =>
      obtain ⟨q, hq, rfl, rfl⟩ := hrel
      by_cases hlt : q < t.size
      · have hx : t.data.toList[q]? = some t[q] := byte_at t q hlt
        have c0 := HCell.out q _ hx
        have hd : digitP t[q] = true := HAll.out _ (HRL.out ▸ List.mem_of_getElem? hx)
        simp only [digitP, decide_eq_true_eq] at hd
        have hb1 : (48 : Int) ≤ (t[q].toNat : Int) := by omega
        have hb2 : (t[q].toNat : Int) ≤ 57 := by omega
        have hbd := numOf_bd (t.data.toList.take q) (fun c hc => HAll.out c (HRL.out ▸ List.mem_of_mem_take hc))
        rw [List.length_take_of_le (by omega)] at hbd
        have hp := pow_le17 (k := q) (by omega)
        have hs1 : t.data.toList.take (q + 1) = t.data.toList.take q ++ [t[q]] := by
          rw [List.take_add_one, hx]; rfl
        have HS1 : Hid (numOf (t.data.toList.take (q + 1)) = 10 * numOf (t.data.toList.take q) + ((t[q].toNat : Int) - 48)) := by
          show _ = _
          rw [hs1, numOf_snoc]
        have hlt' : (q : Int) < (t.size : Int) := by omega
        have hn1 : 0 ≤ numOf (t.data.toList.take q) := hbd.1
        have hn2 : numOf (t.data.toList.take q) ≤ 100000000000000000 := by omega
        clear hx hd hbd hp hs1 htl
        generalize hg : numOf (t.data.toList.take q) = nq at *
        clear hg
        generalize hc : (t[q].toNat : Int) = cq at *
        clear hc
        go_wp2
        go_round
        case rel => exact ⟨q + 1, by omega, by go_num, by rw [HS1.out]⟩
        case measure => simp [intOf]; omega
      · obtain rfl : q = t.size := by omega
        have HE : Hid (t.data.toList.take t.size = L) := by
          show _ = _
          rw [List.take_of_length_le (by omega), HRL.out]
        go_wp2
        go_ret2
        refine ⟨?_, ?_, ?_⟩
        · rw [← HE.out]; rfl
        · exact (H1.out.kept (((Below.refl _ w1).alloc (Nat.le_refl _) _).drew) H1.out.lt)
        · exact (g1.alloc _).drewN 1
  · have e1 : numB s k e most = false := decide_eq_false (fun h => hm h.2)
    have e2 : numErr s k e = 4 := if_neg h0
    rw [e1, e2]
    simp only [Bool.false_eq_true, if_false]
    clear e1 e2 h0 HL hall hrl
    generalize someK digitP s k e = j at *
    generalize ht : s.extract k j = t at *
    clear ht
    by_cases hm1 : most < (t.size : Int)
    · go_enter Try.func77, Try.ntmps77
      go_wp2_with fail
      refine HA.out.mono ?_
      rintro x w1 ⟨rfl, rfl⟩
      go_wp2_with fail
      refine HS.out.mono ?_
      rintro x w1 ⟨rfl, h1, g1⟩
      obtain ⟨c0, c1, c2, c3⟩ := h1.cells
      have f1 := h1.free 1
      have H1 := Lib.hid h1
      clear h1
      go_wp2_with fail
      refine (HF.out _ (H1.out.setAt k)).mono ?_
      rintro x w2 ⟨rfl, h2, g2⟩
      go_wp2
      go_ret2
      exact ⟨rfl, h2, (g1.set _ _).trans g2⟩
    · have hm2 : 18 < most := by omega
      go_enter Try.func77, Try.ntmps77
      go_wp2_with fail
      refine HA.out.mono ?_
      rintro x w1 ⟨rfl, rfl⟩
      go_wp2_with fail
      refine HS.out.mono ?_
      rintro x w1 ⟨rfl, h1, g1⟩
      obtain ⟨c0, c1, c2, c3⟩ := h1.cells
      have f1 := h1.free 1
      have H1 := Lib.hid h1
      clear h1
      go_wp2_with fail
      refine (HF.out _ (H1.out.setAt k)).mono ?_
      rintro x w2 ⟨rfl, h2, g2⟩
      go_wp2
      go_ret2
      exact ⟨rfl, h2, (g1.set _ _).trans g2⟩
end Go.Proofs.Ythkleinjddkhoaa
