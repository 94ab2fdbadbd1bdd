/- The walks of package lex, on: what takes bytes. -/
import Derived.Test.YthkleinjddkhoaaWLex
namespace Go.Proofs.Ythkleinjddkhoaa
open Go.RowKit
set_option linter.unusedSimpArgs false
set_option linter.unusedVariables false

def byteEnc (c : UInt8) : List Value := [.int .u8 (c.toNat : Int)]
/-- A slice of bytes reads as a list. -/
abbrev RdBytes (w : World) (A : Option Addr) (n : Nat) (l : List UInt8) : Prop := Rd 1 byteEnc w A n l
theorem RdBytes.at_ {w : World} {A : Option Addr} {n : Nat} {l : List UInt8} (h : RdBytes w A n l) {i : Nat} (hi : i < n) :
    ∃ b o x, A = some ⟨b, o, none⟩ ∧ b < w.heap.size ∧ l[i]? = some x ∧ w.cell? ⟨b, o + i, none⟩ = some (.int .u8 (x.toNat : Int)) := one_at (f := fun (x : UInt8) => .int .u8 (x.toNat : Int)) h hi

theorem quietN {P : Program} {f : FuncId} {args : Array Value} {w : World} {n : Nat} {v : Value} (h : Calls P f args (w.drewN n) (RetN v (w.drewN n))) : Calls P f args (w.drewN n) fun e w'' => e = .returned v ∧ ∃ m, w'' = w.drewN m :=
  h.mono fun _ _ ⟨he, m, hm⟩ => ⟨he, n + m, by rw [hm, World.drewN_drewN]⟩
theorem quietQ {P : Program} {f : FuncId} {args : Array Value} {w : World} {n : Nat} {v : Value} (h : Calls P f args (w.drewN n) (RetQ v (w.drewN n))) : Calls P f args (w.drewN n) fun e w'' => e = .returned v ∧ ∃ m, w'' = w.drewN m :=
  h.mono fun _ _ ⟨he, hm⟩ => ⟨he, n, hm.symm⟩

def bidx (c : UInt8) (l : List UInt8) : Int := match l.idxOf? c with | some i => i | none => -1
theorem bidx_hit {c : UInt8} {l : List UInt8} {k : Nat} {x : UInt8} (H : ∀ j it, j < k → l[j]? = some it → decide (c = it) = false) (hx : l[k]? = some x) (h : c = x) : bidx c l = k := by
  subst h
  have : l.idxOf? c = some k := by
    rw [List.idxOf?_eq_some_iff]
    have hk := List.getElem?_eq_some_iff.1 hx
    refine ⟨hk.1, by simp [hk.2], fun j hj => ?_⟩
    have := H j _ hj (List.getElem?_eq_getElem (Nat.lt_trans hj hk.1))
    simp only [decide_eq_false_iff_not] at this
    simpa using fun e => this e.symm
  simp [bidx, this]
theorem bidx_miss {c : UInt8} {l : List UInt8} (H : ∀ j it, j < l.length → l[j]? = some it → decide (c = it) = false) : bidx c l = -1 := by
  have : l.idxOf? c = none := by
    rw [List.idxOf?_eq_none_iff]
    intro hx
    obtain ⟨j, hj⟩ := List.getElem?_of_mem hx
    have := H j c (List.getElem?_eq_some_iff.1 hj).1 hj
    simp at this
  simp [bidx, this]
theorem bidx_elem (c : UInt8) (l : List UInt8) : decide (0 ≤ bidx c l) = l.elem c := by
  unfold bidx
  cases h : l.idxOf? c with
  | none =>
    rw [List.idxOf?_eq_none_iff] at h
    simp [h]
  | some i =>
    have : c ∈ l := by
      rcases Decidable.em (c ∈ l) with h1 | h1
      · exact h1
      · rw [List.idxOf?_eq_none_iff.2 h1] at h; cases h
    simp [this]

theorem u8_eq (a b : UInt8) : (((a.toNat : Nat) : Int) == ((b.toNat : Nat) : Int)) = decide (a = b) := by
  rw [Bool.eq_iff_iff]
  simp only [beq_iff_eq, decide_eq_true_eq]
  exact ⟨fun h => UInt8.toNat_inj.1 (by omega), fun h => by rw [h]⟩

set_option maxHeartbeats 400000 in
theorem bindex_any (A : Option Addr) (n c : Nat) (l : List UInt8) (x : UInt8) (w : World) (hA : RdBytes w A n l) (hn : n ≤ 9223372036854775807) :
    Calls Try.prog 64 #[.slice A n c, .int .u8 (x.toNat : Int)] w (RetQ (.int .i64 (bidx x l)) w) := by
  have HL : Hid (l.length = n) := hA.1
  go_enter Try.func64, Try.ntmps64
  go_wp2
  go_loop [8] (fun i => ∃ k : Nat, k ≤ n ∧ i = .int .i64 k ∧ Hid (∀ j it, j < k → l[j]? = some it → decide (x = it) = false)) (fun i => n - (intOf i).toNat)
  case atStart => exact ⟨0, Nat.zero_le _, rfl, fun j _ h => absurd h (Nat.not_lt_zero _)⟩
  case round =>
    obtain ⟨k, hk, rfl, H⟩ := hrel
    by_cases hlt : k < n
    · obtain ⟨b, o, y, rfl, _, hx, c0⟩ := RdBytes.at_ hA hlt
      have hlt' : (k : Int) < (n : Int) := by omega
      have Hx := Lib.hid hx
      clear hx
      by_cases he : x = y
      · have He := Lib.hid he
        have hb : (((x.toNat : Nat) : Int) == ((y.toNat : Nat) : Int)) = true := by rw [u8_eq]; simpa using he
        clear he
        go_wp2
        go_ret
        exact ⟨ret_int (bidx_hit H.out Hx.out He.out).symm, rfl⟩
      · have He : Hid (decide (x = y) = false) := decide_eq_false he
        have hb : (((x.toNat : Nat) : Int) == ((y.toNat : Nat) : Int)) = false := by rw [u8_eq]; exact decide_eq_false he
        clear he
        go_wp2
        go_round
        case rel => exact ⟨k + 1, by omega, by go_num, all_succ (p := fun it => decide (x = it)) H.out Hx.out He.out⟩
        case measure => simp [intOf]; omega
    · obtain rfl : k = n := by omega
      go_wp2
      go_ret
      exact ⟨ret_int (bidx_miss (HL.out ▸ H.out)).symm, rfl⟩
theorem bcontains_any (A : Option Addr) (n c : Nat) (l : List UInt8) (x : UInt8) (w : World) (hA : RdBytes w A n l) (hn : n ≤ 9223372036854775807) :
    Calls Try.prog 47 #[.slice A n c, .int .u8 (x.toNat : Int)] w (RetQ (.bool (l.elem x)) w) := by
  have HC := Lib.hid (bindex_any A n c l x w hA hn)
  rw [← bidx_elem]
  generalize bidx x l = q at HC ⊢
  clear hA
  go_enter Try.func47, Try.ntmps47
  go_wp2_with (go_at_call 64; refine HC.out.mono ?_; rintro e w1 ⟨rfl, rfl⟩)
  go_ret
  exact ⟨rfl, rfl⟩

/-- What 'Is' answers. -/
def isB (s : ByteArray) (k : Nat) (e : Int) (cs : List UInt8) : Bool := if h : e = 0 ∧ k < s.size then cs.elem (s[k]'h.2) else false
theorem isB_done {s : ByteArray} {k : Nat} {e : Int} {cs : List UInt8} (h : doneB s k e = true) : isB s k e cs = false := by
  simp only [doneB, decide_eq_true_eq] at h
  exact dif_neg (by omega)
theorem isB_at {s : ByteArray} {k : Nat} {cs : List UInt8} (h : k < s.size) : isB s k 0 cs = cs.elem s[k] := dif_pos ⟨rfl, h⟩
theorem isB_lt {s : ByteArray} {k : Nat} {e : Int} {cs : List UInt8} (h : isB s k e cs = true) : e = 0 ∧ k < s.size := by
  unfold isB at h
  split at h
  · assumption
  · cases h
def isK (s : ByteArray) (k : Nat) (e : Int) (cs : List UInt8) : Nat := if isB s k e cs then k + 1 else k

set_option maxHeartbeats 400000 in
theorem is_any (b : Nat) (s : ByteArray) (k : Nat) (bad e : Int) (A : Option Addr) (n c : Nat) (cs : List UInt8) (w : World) (h : Rdr w b s k bad e) (hs : s.size ≤ 9223372036854775807) (hk : k ≤ s.size) (hA : RdBytes w A n cs) (hn : n ≤ 9223372036854775807) :
    Calls Try.prog 36 #[.pointer (some ⟨b, 0, none⟩), .slice A n c] w (RetR (.bool (isB s k e cs)) b s (isK s k e cs) bad e w) := by
  have HD := Lib.hid (fun q => done_any b s k bad e (w.drewN q) h)
  have H := Lib.hid h
  cases hd : doneB s k e with
  | true =>
    rw [hd] at HD
    have e1 := isB_done (cs := cs) hd
    rw [isK, e1]
    clear e1 hd h hA
    go_enter Try.func36, Try.ntmps36
    go_wp2
    go_quiet ((go_at_call 35; exact quietN (HD.out _)))
    go_wp2
    go_ret
    exact ⟨rfl, H.out.drewN _, (Chg.refl _ _).drewN _⟩
  | false =>
    rw [hd] at HD
    obtain ⟨rfl, hlt⟩ := doneB_no hk hd
    have hlt' : (k : Int) < (s.size : Int) := by omega
    have HC := Lib.hid (fun q => bcontains_any A n c cs s[k] (w.drewN q) hA hn)
    have e1 := isB_at (cs := cs) hlt
    rw [isK, e1]
    obtain ⟨c0, c1, c2, c3⟩ := h.cells
    have f1 := h.free 1
    clear e1 hd h hA hk
    cases hq : cs.elem s[k] with
    | false =>
      rw [hq] at HC
      clear hq
      go_enter Try.func36, Try.ntmps36
      go_wp2
      go_quiet ((first | (go_at_call 35; exact quietN (HD.out _)) | (go_at_call 47; exact quietQ (HC.out _))))
      go_wp2
      go_ret
      exact ⟨rfl, H.out.drewN _, (Chg.refl _ _).drewN _⟩
    | true =>
      rw [hq] at HC
      clear hq
      go_enter Try.func36, Try.ntmps36
      go_wp2
      go_quiet ((first | (go_at_call 35; exact quietN (HD.out _)) | (go_at_call 47; exact quietQ (HC.out _))))
      go_wp2
      go_ret
      exact ⟨rfl, (H.out.drewN _).setAt _, ((Chg.refl _ _).drewN _).set _ _⟩
end Go.Proofs.Ythkleinjddkhoaa
