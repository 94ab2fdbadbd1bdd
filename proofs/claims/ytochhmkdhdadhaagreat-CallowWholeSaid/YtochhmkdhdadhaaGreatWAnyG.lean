/- The walk of strings.IndexAny at two signs that are no letters, for any text. -/
import Derived.Test.YtochhmkdhdadhaaGreatRGoes
import Derived.Test.YtochhmkdhdadhaaGreatShelf
import Derived.Deep.LoopGhost
import Derived.Laws.RangeAny
import Derived.Laws.Cover4
import Derived.Laws.Runes
import Derived.Lib.OthersKept
import Derived.Lib.IndexAny
namespace Go.Proofs.YtochhmkdhdadhaaGreat
open Go.RowKit
set_option linter.unusedSimpArgs false
set_option linter.unusedVariables false

theorem enc_two (r : Int) (h : 128 ≤ r) : 2 ≤ (Utf8.encode r).size ∧ (Utf8.encode r).size ≤ 4 ∧ ∀ h1 : 1 < (Utf8.encode r).size, 128 ≤ ((Utf8.encode r)[1]'h1).toNat := by
  unfold Utf8.encode
  dsimp only
  have hc : 128 ≤ (if Utf8.valid r = true then r.toNat else Utf8.runeError) := by
    split
    · omega
    · decide
  generalize (if Utf8.valid r = true then r.toNat else Utf8.runeError) = c at *
  rw [if_neg (by omega)]
  split
  · refine ⟨by simp [ByteArray.size], by simp [ByteArray.size], fun h1 => ?_⟩
    show 128 ≤ (UInt8.ofNat (128 + c % 64)).toNat
    simp; omega
  · split
    · refine ⟨by simp [ByteArray.size], by simp [ByteArray.size], fun h1 => ?_⟩
      show 128 ≤ (UInt8.ofNat (128 + c / 64 % 64)).toNat
      simp; omega
    · refine ⟨by simp [ByteArray.size], by simp [ByteArray.size], fun h1 => ?_⟩
      show 128 ≤ (UInt8.ofNat (128 + c / 4096 % 64)).toNat
      simp; omega
/-- IndexRune of a rune that is no ASCII one, in a text of two ASCII bytes. -/
theorem iter_below (w : World) (t : ByteArray) (i : Nat) : Below w.heap.size w (w.iter t i) := (Below.refl _ w).alloc (Nat.le_refl _) _
set_option maxRecDepth 100000 in
set_option maxHeartbeats 1000000 in
theorem irune_fffd (t : ByteArray) (w : World) (h2 : t.size = 2) (h128 : ∀ (j : Nat) (hj : j < t.size), t[j].toNat < 128) :
    Calls Tryz.prog 145 #[.string t, .int .i32 65533] w (Ret (.int .i64 (-1)) w) := by
  have H2 := Lib.hid h2
  have H128 := Lib.hid h128
  clear h128 h2
  go_enter Tryz.func145, Tryz.ntmps145
  go_wp2
  go_loopg [5, 6] t.size (fun g _ _ wx => ∃ i : Nat, i + g = t.size ∧ wx = w.iter t i)
  case atStart => exact ⟨0, by omega, rfl⟩
  case round =>
    obtain ⟨i, hig, rfl⟩ := hrel
    cases gk with
    | zero =>
      obtain rfl : i = t.size := by omega
      have hnx := run_next_end (P := Tryz.prog) w t t.size
      go_wp2
      go_ret
      exact ⟨rfl, iter_below w t _⟩
    | succ g =>
      have hi : i < t.size := by omega
      have hx128 := H128.out i hi
      have hnx := fun ty => run_next_ascii (P := Tryz.prog) w t i ty hi hx128
      have hne : ((t[i].toNat : Int) == 65533) = false := by simp; omega
      go_wp2
      go_roundg g
      case measure => omega
      case rel => exact ⟨i + 1, by omega, rfl⟩
set_option maxRecDepth 100000 in
set_option maxHeartbeats 1000000 in
theorem irune_high (t : ByteArray) (r : Int) (w : World) (h2 : t.size = 2) (h128 : ∀ (j : Nat) (hj : j < t.size), t[j].toNat < 128) (hr0 : 128 ≤ r) (hr1 : r ≤ 2147483647) (hf : r ≠ 65533) :
    Calls Tryz.prog 145 #[.string t, .int .i32 r] w (Ret (.int .i64 (-1)) w) := by
  have h1 : ¬ r < 128 := by omega
  have he' : (r == 65533) = false := by simpa using hf
  obtain ⟨e1, e2, e3⟩ := enc_two r hr0
  have hV := Lib.hid (fun W => Tryz.utf8_ValidRune r W)
  have hcv := fun W => run_convert_int_string (P := Tryz.prog) W 21 9 .i32 r (by rw [Tryz.underlying21]; rfl) Tryz.underlying9
  generalize Utf8.encode r = rs at *
  cases hv : Lib.validRune r with
  | false =>
    rw [hv] at hV
    clear hv
    go_enter Tryz.func145, Tryz.ntmps145
    go_wp2_with fail
    refine (hV.out _).mono ?_
    rintro e w1 ⟨rfl, rfl⟩
    go_wp2
    go_ret
    exact ⟨rfl, Below.refl _ _⟩
  | true =>
    rw [hv] at hV
    clear hv
    by_cases hs2 : rs.size = 2
    · have hr2 : (rs.size : Int) = 2 := by omega
      have ht2 : (t.size : Int) = 2 := by omega
      have hi1 : 1 < t.size := by omega
      have hi2 : 1 < rs.size := by omega
      have hx := h128 1 hi1
      have hy := e3 hi2
      have hne : ((t[1].toNat : Int) != (rs[1].toNat : Int)) = true := by simp; omega
      have hB : Hid (∀ (x : ByteArray) W, x.data.toList = [] → Calls Tryz.prog 176 #[.string x, .int .u8 (rs[1].toNat : Int)] W (RetQ (.int .i64 (-1)) W)) := fun x W hx => by
        have := Tryz.strings_IndexByte x (rs[1].toNat : Int) W
        rw [hx, show ∀ c, Lib.indexByte [] c = -1 from fun c => rfl] at this
        exact this.mono fun _ _ hh => ⟨hh.1, hh.2.symm⟩
      have hw2 : IntKind.i64.wrap 2 = 2 := by decide
      go_enter Tryz.func145, Tryz.ntmps145
      go_wp2_with fail
      refine (hV.out _).mono ?_
      rintro e w1 ⟨rfl, rfl⟩
      go_wp2
      go_step3
      go_wp2
      refine wp_loop_rounds 1 ?_
      rw [rounds_succ]
      go_wp2
      go_step3
      go_wp2
      go_quiet (fail)
      have hbW : Below w1.heap.size w1 (w1.drewN nq) := below_drewN (Below.refl _ _) _
      generalize w1.drewN nq = W1 at *
      go_wp2
      go_quiet ((go_at_call 176; exact quietQ (hB.out ByteArray.empty _ rfl)))
      go_wp2
      (try rw [Exit.noGoto_ret])
      go_ret
      exact ⟨rfl, below_drewN hbW _⟩
    · have hr3 : ¬ (rs.size : Int) - 1 < 2 := by omega
      have ht2 : (t.size : Int) = 2 := by omega
      go_enter Tryz.func145, Tryz.ntmps145
      go_wp2_with fail
      refine (hV.out _).mono ?_
      rintro e w1 ⟨rfl, rfl⟩
      go_wp2
      go_step3
      go_wp2
      refine wp_loop_rounds 1 ?_
      rw [rounds_succ]
      go_wp2
      (try rw [Exit.noGoto_ret])
      go_ret
      exact ⟨rfl, Below.refl _ _⟩
theorem irune_any (t : ByteArray) (r : Int) (w : World) (h2 : t.size = 2) (h128 : ∀ (j : Nat) (hj : j < t.size), t[j].toNat < 128) (hr0 : 128 ≤ r) (hr1 : r ≤ 2147483647) :
    Calls Tryz.prog 145 #[.string t, .int .i32 r] w (Ret (.int .i64 (-1)) w) := by
  by_cases hf : r = 65533
  · subst hf; exact irune_fffd t w h2 h128
  · exact irune_high t r w h2 h128 hr0 hr1 hf
theorem get_in (s : ByteArray) (i : Nat) (h : i < s.size) : s.get! i = s[i] := get_at s i h
/-- The bytes of a rune that is no ASCII one are none of ASCII's. -/
theorem dec_bytes (s : ByteArray) (i : Nat) (h : i < s.size) (ha : 128 ≤ s[i].toNat) :
    i + (Utf8.decode s i).2 ≤ s.size ∧ 1 ≤ (Utf8.decode s i).2 ∧ ∀ k, k < (Utf8.decode s i).2 → 128 ≤ (s.get! (i + k)).toNat := by
  have h0 : ¬ (s[i]'h).toNat < 128 := by omega
  have e0 : s.get! (i + 0) = s[i]'h := get_at s i h
  have h00 : 128 ≤ (s.get! (i + 0)).toNat := by rw [e0]; exact ha
  simp only [Utf8.decode, e0, h0, if_false]
  have one : i + 1 ≤ s.size ∧ 1 ≤ 1 ∧ ∀ k, k < 1 → 128 ≤ (s.get! (i + k)).toNat := by
    refine ⟨by omega, Nat.le_refl _, fun k hk => ?_⟩
    obtain rfl : k = 0 := by omega
    exact h00
  by_cases c1 : ((s[i]'h).toNat / 32 == 6 && (decide (i + 1 < s.size) && (s.get! (i + 1)).toNat / 64 == 2)) = true
  · rw [if_pos c1]
    simp only [Bool.and_eq_true, decide_eq_true_eq, beq_iff_eq] at c1
    split
    · refine ⟨by dsimp only; omega, by dsimp only; omega, fun k hk => ?_⟩
      dsimp only at hk
      obtain rfl | rfl : k = 0 ∨ k = 1 := by omega
      · exact h00
      · omega
    · exact one
  · rw [if_neg c1]
    by_cases c2 : ((s[i]'h).toNat / 16 == 14 && (decide (i + 1 < s.size) && (s.get! (i + 1)).toNat / 64 == 2) && (decide (i + 2 < s.size) && (s.get! (i + 2)).toNat / 64 == 2)) = true
    · rw [if_pos c2]
      simp only [Bool.and_eq_true, decide_eq_true_eq, beq_iff_eq] at c2
      split
      · refine ⟨by dsimp only; omega, by dsimp only; omega, fun k hk => ?_⟩
        dsimp only at hk
        obtain rfl | rfl | rfl : k = 0 ∨ k = 1 ∨ k = 2 := by omega
        · exact h00
        · omega
        · omega
      · exact one
    · rw [if_neg c2]
      by_cases c3 : ((s[i]'h).toNat / 8 == 30 && (decide (i + 1 < s.size) && (s.get! (i + 1)).toNat / 64 == 2) && (decide (i + 2 < s.size) && (s.get! (i + 2)).toNat / 64 == 2) && (decide (i + 3 < s.size) && (s.get! (i + 3)).toNat / 64 == 2)) = true
      · rw [if_pos c3]
        simp only [Bool.and_eq_true, decide_eq_true_eq, beq_iff_eq] at c3
        split
        · refine ⟨by dsimp only; omega, by dsimp only; omega, fun k hk => ?_⟩
          dsimp only at hk
          obtain rfl | rfl | rfl | rfl : k = 0 ∨ k = 1 ∨ k = 2 ∨ k = 3 := by omega
          · exact h00
          · omega
          · omega
          · omega
        · exact one
      · rw [if_neg c3]; exact one
theorem below_iterAt {B k : Nat} {w w' : World} {s : ByteArray} {pos : Nat} (h : Below B w w') (hk : B ≤ k) : Below B w (w'.iterAt k s pos) :=
  ⟨h.os, h.tape, h.output, by simpa [World.iterAt] using h.size, fun i hi => by
    have : (w'.iterAt k s pos).heap[i]? = w'.heap[i]? := by
      simp only [World.iterAt]
      rw [Array.getElem?_setIfInBounds_ne (by omega)]
    rw [this]; exact h.block i hi⟩
theorem noAny_more {s : ByteArray} {chars : List UInt8} {i d : Nat} (hn : Lib.NoAny s.data.toList chars i) (hc : ∀ c ∈ chars, c.toNat < 128) (hd : i + d ≤ s.size) (hb : ∀ k, k < d → 128 ≤ (s.get! (i + k)).toNat) : Lib.NoAny s.data.toList chars (i + d) := by
  intro j c hj hx
  rcases Nat.lt_or_ge j i with h1 | h1
  · exact hn j c h1 hx
  · have := hb (j - i) (by omega)
    rw [show i + (j - i) = j from by omega, get_in s j (by omega)] at this
    rw [byte_at s j (by omega)] at hx
    cases hx
    cases hq : chars.contains s[j] with
    | false => rfl
    | true =>
      have := hc _ (List.contains_iff_mem.1 hq)
      omega
set_option maxRecDepth 100000 in
set_option maxHeartbeats 1000000 in
/-- IndexAny at two ASCII bytes, in any text. -/
theorem iany_any (s t : ByteArray) (w : World) (hs : s.size ≤ 1000000) (h2 : t.size = 2) (h128 : ∀ (j : Nat) (hj : j < t.size), t[j].toNat < 128) :
    Calls Tryz.prog 113 #[.string s, .string t] w (Ret (.int .i64 (Lib.indexAny s.data.toList t.data.toList)) w) := by
  have hac : ∀ (j : Nat) c, t.data.toList[j]? = some c → c.toNat < 128 := fun j c hc => by
    have hj : j < t.size := by rw [← len_data]; exact (List.getElem?_eq_some_iff.1 hc).1
    rw [byte_at t j hj] at hc
    cases hc; exact h128 j hj
  by_cases h8 : 8 < s.size
  · refine (Tryz.strings_IndexAny_long (zero_of_info (n := 256) (by kernel_rfl)).1 s t w (by omega) h8 (by omega) (by omega) hac).mono ?_
    rintro e w1 ⟨rfl, rfl⟩
    exact ⟨rfl, ((Below.refl _ _).alloc (Nat.le_refl _) _).alloc (by simp) _⟩
  · have hmem : ∀ c ∈ t.data.toList, c.toNat < 128 := fun c hc => by obtain ⟨j, hj⟩ := List.getElem?_of_mem hc; exact hac j c hj
    have HMem := Lib.hid hmem
    have HH := Lib.hid (fun r W h0 h1 => irune_any t r W h2 h128 h0 h1)
    have HL := Lib.hid (fun (x : UInt8) (hx : x.toNat < 128) W => Tryz.strings_IndexRune_ascii t (x.toNat : Int) W (by omega) (by omega))
    have hemp : t.toList.isEmpty = false := by
      rw [ByteArray.toList_eq]
      cases h : t.data.toList with
      | nil => have := len_data t; rw [h] at this; simp at this; omega
      | cons _ _ => rfl
    have hn1 : ((t.size : Int) == 1) = false := by simp; omega
    have h8z : decide ((8 : Int) < (s.size : Int)) = false := decide_eq_false (by omega)
    have HU := Lib.hid (fun W => Tryz.strings_shouldUseASCIISet (s.size : Int) W)
    rw [h8z] at HU
    clear hmem hac h128 h2
    go_enter Tryz.func113, Tryz.ntmps113
    go_wp2_with fail
    refine (HU.out _).mono ?_
    rintro e w1 ⟨rfl, rfl⟩
    go_wp2
    go_loopg [9, 10] s.size (fun g _ _ wx => ∃ i : Nat, i ≤ s.size ∧ s.size - i ≤ g ∧ Hid (wx.heap[w1.heap.size]? = some (.stringIter s i)) ∧ Below w1.heap.size w1 wx ∧ Hid (Lib.NoAny s.data.toList t.data.toList i))
    case atStart => exact ⟨0, Nat.zero_le _, by omega, World.iter_heap _ _ _, iter_below _ _ _, Lib.NoAny.zero _ _⟩
    case round =>
      obtain ⟨i, hi, hgi, HK, hb, HN⟩ := hrel
      by_cases hlt : i < s.size
      · obtain ⟨g, rfl⟩ : ∃ g, gk = g + 1 := ⟨gk - 1, by omega⟩
        have hx := byte_at s i hlt
        by_cases hx128 : s[i].toNat < 128
        · have hnx := fun ty => Lib.run_next_ascii_at (P := Tryz.prog) wr w1.heap.size s i ty HK.out hlt hx128
          have hcon := Lib.contains_iff_indexByte t.data.toList s[i]
          have hback : ((s[i].toNat : Int)).toNat.toUInt8 = s[i] := by simp
          have HI := Lib.hid (HL.out s[i] hx128)
          rw [hback] at HI
          have hb' := below_iterAt (s := s) (pos := i + 1) hb (Nat.le_refl _)
          have HK' := Lib.hid (Lib.iterAt_heap wr w1.heap.size s i (i + 1) HK.out)
          generalize wr.iterAt w1.heap.size s (i + 1) = W1 at *
          have Hx := Lib.hid hx
          clear hx hback
          generalize Lib.indexByte t.data.toList s[i] = q at *
          cases hin : t.data.toList.contains s[i] with
          | true =>
            rw [hin] at hcon
            have hq : (0 : Int) ≤ q := of_decide_eq_true hcon.symm
            have HE : Hid (Lib.indexAny s.data.toList t.data.toList = (i : Int)) := Lib.indexAny_hit HN.out Hx.out hin
            clear hcon hin hx128
            go_wp2_with fail
            refine (HI.out _).mono ?_
            rintro e w3 ⟨rfl, hw3⟩
            subst hw3
            go_wp2
            go_ret
            exact ⟨by rw [HE.out]; rfl, hb'⟩
          | false =>
            rw [hin] at hcon
            have hq : ¬ (0 : Int) ≤ q := of_decide_eq_false hcon.symm
            have HN' := Lib.hid (HN.out.succ Hx.out hin)
            clear hcon hin hx128
            go_wp2_with fail
            refine (HI.out _).mono ?_
            rintro e w3 ⟨rfl, hw3⟩
            subst hw3
            go_wp2
            go_roundg g
            case measure => omega
            case rel => exact ⟨i + 1, by omega, by omega, HK'.out, hb', HN'.out⟩
        · have ha : 128 ≤ s[i].toNat := by omega
          obtain ⟨d1, d2, d3⟩ := dec_bytes s i hlt ha
          have HN' := Lib.hid (noAny_more HN.out HMem.out d1 d3)
          have hnx := fun ty => Lib.run_next_any_at (P := Tryz.prog) wr w1.heap.size s i ty HK.out hlt
          have hd := (decode_high s i hlt ha).1
          have hle := decode_le s i
          generalize (Utf8.decode s i).1 = r at *
          generalize (Utf8.decode s i).2 = d at *
          have hb' := below_iterAt (s := s) (pos := i + d) hb (Nat.le_refl _)
          have HK' := Lib.hid (Lib.iterAt_heap wr w1.heap.size s i (i + d) HK.out)
          generalize wr.iterAt w1.heap.size s (i + d) = W1 at *
          have hkl : w1.heap.size < W1.heap.size := (Array.getElem?_eq_some_iff.1 HK'.out).1
          have HI := Lib.hid (fun W => HH.out (r : Int) W (by omega) (by omega))
          clear hx hx128 ha d3 hd hle
          go_wp2_with fail
          refine (HI.out _).mono ?_
          rintro e w3 ⟨rfl, hb3⟩
          have HK3 : Hid (w3.heap[w1.heap.size]? = some (.stringIter s (i + d))) := (hb3.block _ hkl).trans HK'.out
          go_wp2
          go_roundg g
          case measure => omega
          case rel => exact ⟨i + d, d1, by omega, HK3.out, bthen hb' hb3 (by omega), HN'.out⟩
      · obtain rfl : i = s.size := by omega
        have hnx := fun ty => Lib.run_next_end_at (P := Tryz.prog) wr w1.heap.size s s.size ty HK.out (Nat.lt_irrefl _)
        have HE : Hid (Lib.indexAny s.data.toList t.data.toList = -1) := Lib.indexAny_none (by rw [len_data]; exact HN.out)
        go_wp2
        go_ret
        exact ⟨by rw [HE.out]; rfl, hb⟩
end Go.Proofs.YtochhmkdhdadhaaGreat
