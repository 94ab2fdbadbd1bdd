/- The walk of a reader's Number. -/
import Derived.Test.YtochhmkdhdadhaaGreatRows
import Derived.Test.YtochhmkdhdadhaaGreatWArr
import Derived.Shelf.Abstract
import Derived.Deep.LoopGhost
/- The walks of package lex: a reader's methods. -/
namespace Go.Proofs.YtochhmkdhdadhaaGreat
open Go.RowKit
set_option linter.unusedSimpArgs false
set_option linter.unusedVariables false

/-- A reader in memory: its text, where it stands, what is wrong, and where. -/
def Rdr (w : World) (b : Nat) (s : ByteArray) (k : Nat) (bad e : Int) : Prop :=
  w.heap[b]? = some (.cells #[.string s, .int .i64 k, .int .i64 bad, .int .i64 e] 124 (0, 0))
section
variable {w w' : World} {b : Nat} {s : ByteArray} {k : Nat} {bad e : Int}
theorem Rdr.lt (h : Rdr w b s k bad e) : b < w.heap.size := (Array.getElem?_eq_some_iff.1 h).1
theorem Rdr.cells (h : Rdr w b s k bad e) : w.cell? ⟨b, 0, none⟩ = some (.string s) ∧ w.cell? ⟨b, 1, none⟩ = some (.int .i64 k) ∧ w.cell? ⟨b, 2, none⟩ = some (.int .i64 bad) ∧ w.cell? ⟨b, 3, none⟩ = some (.int .i64 e) := by
  unfold Rdr at h
  simp [World.cell?, h]
theorem Rdr.free (h : Rdr w b s k bad e) (o : Nat) : w.frozen? ⟨b, o, none⟩ = false := by
  unfold Rdr at h
  simp [World.frozen?, h]
theorem Rdr.drewN (h : Rdr w b s k bad e) (q : Nat) : Rdr (w.drewN q) b s k bad e := h
theorem Rdr.kept (h : Rdr w b s k bad e) {B : Nat} (hb : Below B w w') (hB : b < B) : Rdr w' b s k bad e := (hb.block b hB).trans h
theorem heap_set {w : World} {b o : Nat} {cs : Array Value} {t : TypeId} {v : Value} (h : w.heap[b]? = some (.cells cs t (0, 0))) : (w.setCell ⟨b, o, none⟩ v).heap[b]? = some (.cells (cs.setIfInBounds o v) t (0, 0)) := by
  have hlt := (Array.getElem?_eq_some_iff.1 h).1
  have h' : w.heap[b] = .cells cs t (0, 0) := (Array.getElem?_eq_some_iff.1 h).2
  show (w.heap.modify b _)[b]? = _
  rw [Array.getElem?_eq_getElem (by simpa using hlt), Array.getElem_modify_self, h']
  rfl
theorem Rdr.setAt (h : Rdr w b s k bad e) (k' : Nat) : Rdr (w.setCell ⟨b, 1, none⟩ (.int .i64 k')) b s k' bad e := heap_set h
theorem Rdr.setBad (h : Rdr w b s k bad e) (x : Int) : Rdr (w.setCell ⟨b, 2, none⟩ (.int .i64 x)) b s k x e := heap_set h
theorem Rdr.setE (h : Rdr w b s k bad e) (x : Int) : Rdr (w.setCell ⟨b, 3, none⟩ (.int .i64 x)) b s k bad x := heap_set h
end

/-- Nothing has turned but block b, and what is new. -/
abbrev Chg (b : Nat) (w w' : World) : Prop := w.grownBy w' (some b)
theorem Chg.refl (b : Nat) (w : World) : Chg b w w := ⟨rfl, rfl, rfl, Nat.le_refl _, fun _ _ _ => rfl⟩
theorem Chg.trans {b : Nat} {w w1 w2 : World} (h : Chg b w w1) (g : Chg b w1 w2) : Chg b w w2 :=
  ⟨g.os.trans h.os, g.tape.trans h.tape, g.output.trans h.output, Nat.le_trans h.size g.size, fun k hk hn => (g.block k (Nat.lt_of_lt_of_le hk h.size) hn).trans (h.block k hk hn)⟩
theorem Chg.drewN {b : Nat} {w w1 : World} (h : Chg b w w1) (q : Nat) : Chg b w (w1.drewN q) := ⟨h.os, h.tape, h.output, h.size, h.block⟩
theorem Chg.set {b : Nat} {w w1 : World} (h : Chg b w w1) (o : Nat) (v : Value) : Chg b w (w1.setCell ⟨b, o, none⟩ v) :=
  h.trans ⟨rfl, rfl, rfl, by simp [World.setCell], fun k _ hn => Below.heap_setCell _ _ _ _ (fun e => hn (by simp [e]))⟩
theorem Chg.alloc {b : Nat} {w w1 : World} (h : Chg b w w1) (o : Obj) : Chg b w (w1.alloc o) := h.trans (World.grownBy_alloc _ _ _)
theorem Chg.of_below {b : Nat} {w w1 : World} (h : Below w.heap.size w w1) : Chg b w w1 := ⟨h.os, h.tape, h.output, h.size, fun k hk _ => h.block k hk⟩
theorem Chg.below {b B : Nat} {w w1 w2 : World} (h : Below B w w1) (g : Chg b w1 w2) (hB : B ≤ b) (hs : B ≤ w1.heap.size) : Below B w w2 :=
  h.trans ⟨g.os, g.tape, g.output, g.size, fun k hk => g.block k (by omega) (fun e => by injection e; omega)⟩

/-- Is nothing more taken? -/
def doneB (s : ByteArray) (k : Nat) (e : Int) : Bool := decide (e ≠ 0 ∨ k = s.size)
theorem doneB_err {s : ByteArray} {k : Nat} {e : Int} (h : e ≠ 0) : doneB s k e = true := decide_eq_true (.inl h)
theorem doneB_ok (s : ByteArray) (k : Nat) : doneB s k 0 = decide (k = s.size) := by simp [doneB]
theorem doneB_no {s : ByteArray} {k : Nat} {e : Int} (hk : k ≤ s.size) (h : doneB s k e = false) : e = 0 ∧ k < s.size := by
  simp only [doneB, decide_eq_false_iff_not] at h; omega

theorem done_nil (w : World) : Calls Tryz.prog 108 #[.pointer none] w (RetN (.bool true) w) := by
  go_enter Tryz.func108, Tryz.ntmps108
  go_wp2
  go_quiet (fail)
  go_wp2
  go_ret
  exact ⟨rfl, _, rfl⟩
theorem done_any (b : Nat) (s : ByteArray) (k : Nat) (bad e : Int) (w : World) (h : Rdr w b s k bad e) : Calls Tryz.prog 108 #[.pointer (some ⟨b, 0, none⟩)] w (RetN (.bool (doneB s k e)) w) := by
  obtain ⟨c0, c1, c2, c3⟩ := h.cells
  clear h
  by_cases he : e = 0
  · subst he
    rw [doneB_ok]
    have e1 : decide (k = s.size) = ((k : Int) == (s.size : Int)) := by rw [Bool.eq_iff_iff]; simp; omega
    rw [e1]
    generalize hq : ((k : Int) == (s.size : Int)) = q
    go_enter Tryz.func108, Tryz.ntmps108
    go_wp2
    go_quiet (fail)
    go_wp2
    go_ret
    exact ⟨rfl, _, rfl⟩
  · have he' : (e != 0) = true := by simpa using he
    rw [doneB_err he]
    clear he
    go_enter Tryz.func108, Tryz.ntmps108
    go_wp2
    go_quiet (fail)
    go_wp2
    go_ret
    exact ⟨rfl, _, rfl⟩

theorem at_nil (w : World) : Calls Tryz.prog 82 #[.pointer none] w (RetQ (.int .i64 0) w) := by
  go_enter Tryz.func82, Tryz.ntmps82
  go_wp2
  go_ret
  exact ⟨rfl, rfl⟩
theorem at_any (b : Nat) (s : ByteArray) (k : Nat) (bad e : Int) (w : World) (h : Rdr w b s k bad e) : Calls Tryz.prog 82 #[.pointer (some ⟨b, 0, none⟩)] w (RetQ (.int .i64 k) w) := by
  obtain ⟨c0, c1, c2, c3⟩ := h.cells
  clear h
  go_enter Tryz.func82, Tryz.ntmps82
  go_wp2
  go_ret
  exact ⟨rfl, rfl⟩
theorem wrong_nil (w : World) : Calls Tryz.prog 46 #[.pointer none] w (RetQ (.tuple #[.int .i64 0, .int .i64 0]) w) := by
  go_enter Tryz.func46, Tryz.ntmps46
  go_wp2
  go_ret2
  exact ⟨rfl, rfl⟩
theorem wrong_any (b : Nat) (s : ByteArray) (k : Nat) (bad e : Int) (w : World) (h : Rdr w b s k bad e) : Calls Tryz.prog 46 #[.pointer (some ⟨b, 0, none⟩)] w (RetN (.tuple #[.int .i64 bad, .int .i64 e]) w) := by
  obtain ⟨c0, c1, c2, c3⟩ := h.cells
  clear h
  go_enter Tryz.func46, Tryz.ntmps46
  go_wp2
  go_quiet (fail)
  go_wp2
  go_ret2
  exact ⟨rfl, _, rfl⟩

/-- A call of a reader's: it hands back v; the reader is then (k', bad', e'); nothing else has turned. -/
def RetR (v : Value) (b : Nat) (s : ByteArray) (k : Nat) (bad e : Int) (w : World) (x : Ending) (w' : World) : Prop := x = .returned v ∧ Rdr w' b s k bad e ∧ Chg b w w'

theorem fail_nil (p q : Int) (w : World) : Calls Tryz.prog 72 #[.pointer none, .int .i64 p, .int .i64 q] w (RetQ (.tuple #[]) w) := by
  go_enter Tryz.func72, Tryz.ntmps72
  go_wp2
  go_end0
  exact ⟨rfl, rfl⟩
/-- Where, and what, is wrong behind Fail. -/
def failBad (bad e p q : Int) : Int := if e = 0 ∧ q ≠ 0 then p else bad
def failE (e q : Int) : Int := if e = 0 then q else e
theorem fail_any (b : Nat) (s : ByteArray) (k : Nat) (bad e p q : Int) (w : World) (h : Rdr w b s k bad e) :
    Calls Tryz.prog 72 #[.pointer (some ⟨b, 0, none⟩), .int .i64 p, .int .i64 q] w (RetR (.tuple #[]) b s k (failBad bad e p q) (failE e q) w) := by
  obtain ⟨c0, c1, c2, c3⟩ := h.cells
  have f2 := h.free 2
  have f3 := h.free 3
  have H := Lib.hid h
  clear h
  by_cases he : e = 0
  · subst he
    by_cases hq : q = 0
    · subst hq
      have e1 : failBad bad 0 p 0 = bad := by simp [failBad]
      have e2 : failE 0 0 = 0 := by simp [failE]
      rw [e1, e2]
      clear e1 e2
      go_enter Tryz.func72, Tryz.ntmps72
      go_wp2
      go_end0
      exact ⟨rfl, H.out, Chg.refl _ _⟩
    · have hq' : (q != 0) = true := by simpa using hq
      have e1 : failBad bad 0 p q = p := by simp [failBad, hq]
      have e2 : failE 0 q = q := by simp [failE]
      rw [e1, e2]
      clear hq e1 e2
      go_enter Tryz.func72, Tryz.ntmps72
      go_wp2
      go_end0
      exact ⟨rfl, (H.out.setBad p).setE q, ((Chg.refl _ _).set _ _).set _ _⟩
  · have he' : (e == 0) = false := by simpa using he
    have e1 : failBad bad e p q = bad := by simp [failBad, he]
    have e2 : failE e q = e := by simp [failE, he]
    rw [e1, e2]
    clear he e1 e2
    go_enter Tryz.func72, Tryz.ntmps72
    go_wp2
    go_end0
    exact ⟨rfl, H.out, Chg.refl _ _⟩

theorem peek_nil (w : World) : Calls Tryz.prog 74 #[.pointer none] w (RetN (.int .u8 0) w) := by
  go_enter Tryz.func74, Tryz.ntmps74
  go_wp2_with fail
  refine (done_nil _).mono ?_
  rintro e w1 ⟨rfl, q, rfl⟩
  go_wp2
  go_ret
  exact ⟨rfl, _, rfl⟩
theorem peek_done (b : Nat) (s : ByteArray) (k : Nat) (bad e : Int) (w : World) (h : Rdr w b s k bad e) (hd : doneB s k e = true) : Calls Tryz.prog 74 #[.pointer (some ⟨b, 0, none⟩)] w (RetN (.int .u8 0) w) := by
  have HD := Lib.hid (done_any b s k bad e w h)
  rw [hd] at HD
  clear h hd
  go_enter Tryz.func74, Tryz.ntmps74
  go_wp2_with fail
  refine HD.out.mono ?_
  rintro e w1 ⟨rfl, q, rfl⟩
  go_wp2
  go_ret
  exact ⟨rfl, _, rfl⟩
theorem peek_byte (b : Nat) (s : ByteArray) (k : Nat) (bad : Int) (w : World) (h : Rdr w b s k bad 0) (hk : k < s.size) : Calls Tryz.prog 74 #[.pointer (some ⟨b, 0, none⟩)] w (RetN (.int .u8 (s[k].toNat : Int)) w) := by
  have HD := Lib.hid (done_any b s k bad 0 w h)
  rw [doneB_ok, decide_eq_false (by omega)] at HD
  obtain ⟨c0, c1, c2, c3⟩ := h.cells
  have hk' : (k : Int) < (s.size : Int) := by omega
  clear h
  go_enter Tryz.func74, Tryz.ntmps74
  go_wp2_with fail
  refine HD.out.mono ?_
  rintro e w1 ⟨rfl, q, rfl⟩
  go_wp2
  go_quiet (fail)
  go_wp2
  go_ret
  exact ⟨rfl, _, World.drewN_drewN ..⟩
end Go.Proofs.YtochhmkdhdadhaaGreat

/- The walks of package lex, on: what takes bytes. -/
namespace Go.Proofs.YtochhmkdhdadhaaGreat
open Go.RowKit
set_option linter.unusedSimpArgs false
set_option linter.unusedVariables false

def byteEnc (c : UInt8) : List Value := [.int .u8 (c.toNat : Int)]
/-- A slice of bytes reads as a list. -/
abbrev RdBytes (w : World) (A : Option Addr) (n : Nat) (l : List UInt8) : Prop := Rd 1 byteEnc w A n l
theorem RdBytes.at_ {w : World} {A : Option Addr} {n : Nat} {l : List UInt8} (h : RdBytes w A n l) {i : Nat} (hi : i < n) :
    ∃ b o x, A = some ⟨b, o, none⟩ ∧ b < w.heap.size ∧ l[i]? = some x ∧ w.cell? ⟨b, o + i, none⟩ = some (.int .u8 (x.toNat : Int)) := one_at (f := fun (x : UInt8) => .int .u8 (x.toNat : Int)) h hi

theorem quietN {P : Program} {f : FuncId} {args : Array Value} {w : World} {n : Nat} {v : Value} (h : Calls P f args (w.drewN n) (RetN v (w.drewN n))) : Calls P f args (w.drewN n) fun e w'' => e = .returned v ∧ ∃ m, w'' = w.drewN m :=
  h.mono fun _ _ ⟨he, m, hm⟩ => ⟨he, n + m, by rw [hm, World.drewN_drewN]⟩
theorem quietQ {P : Program} {f : FuncId} {args : Array Value} {w : World} {n : Nat} {v : Value} (h : Calls P f args (w.drewN n) (RetQ v (w.drewN n))) : Calls P f args (w.drewN n) fun e w'' => e = .returned v ∧ ∃ m, w'' = w.drewN m :=
  h.mono fun _ _ ⟨he, hm⟩ => ⟨he, n, hm.symm⟩

def bidx (c : UInt8) (l : List UInt8) : Int := match l.idxOf? c with | some i => i | none => -1
theorem bidx_hit {c : UInt8} {l : List UInt8} {k : Nat} {x : UInt8} (H : ∀ j it, j < k → l[j]? = some it → decide (c = it) = false) (hx : l[k]? = some x) (h : c = x) : bidx c l = k := by
  subst h
  have : l.idxOf? c = some k := by
    rw [List.idxOf?_eq_some_iff]
    have hk := List.getElem?_eq_some_iff.1 hx
    refine ⟨hk.1, by simp [hk.2], fun j hj => ?_⟩
    have := H j _ hj (List.getElem?_eq_getElem (Nat.lt_trans hj hk.1))
    simp only [decide_eq_false_iff_not] at this
    simpa using fun e => this e.symm
  simp [bidx, this]
theorem bidx_miss {c : UInt8} {l : List UInt8} (H : ∀ j it, j < l.length → l[j]? = some it → decide (c = it) = false) : bidx c l = -1 := by
  have : l.idxOf? c = none := by
    rw [List.idxOf?_eq_none_iff]
    intro hx
    obtain ⟨j, hj⟩ := List.getElem?_of_mem hx
    have := H j c (List.getElem?_eq_some_iff.1 hj).1 hj
    simp at this
  simp [bidx, this]
theorem bidx_elem (c : UInt8) (l : List UInt8) : decide (0 ≤ bidx c l) = l.elem c := by
  unfold bidx
  cases h : l.idxOf? c with
  | none =>
    rw [List.idxOf?_eq_none_iff] at h
    simp [h]
  | some i =>
    have : c ∈ l := by
      rcases Decidable.em (c ∈ l) with h1 | h1
      · exact h1
      · rw [List.idxOf?_eq_none_iff.2 h1] at h; cases h
    simp [this]

theorem u8_eq (a b : UInt8) : (((a.toNat : Nat) : Int) == ((b.toNat : Nat) : Int)) = decide (a = b) := by
  rw [Bool.eq_iff_iff]
  simp only [beq_iff_eq, decide_eq_true_eq]
  exact ⟨fun h => UInt8.toNat_inj.1 (by omega), fun h => by rw [h]⟩

set_option maxHeartbeats 400000 in
theorem bindex_any (A : Option Addr) (n c : Nat) (l : List UInt8) (x : UInt8) (w : World) (hA : RdBytes w A n l) (hn : n ≤ 9223372036854775807) :
    Calls Tryz.prog 170 #[.slice A n c, .int .u8 (x.toNat : Int)] w (RetQ (.int .i64 (bidx x l)) w) := by
  have HL : Hid (l.length = n) := hA.1
  go_enter Tryz.func170, Tryz.ntmps170
  go_wp2
  go_loop [8] (fun i => ∃ k : Nat, k ≤ n ∧ i = .int .i64 k ∧ Hid (∀ j it, j < k → l[j]? = some it → decide (x = it) = false)) (fun i => n - (intOf i).toNat)
  case atStart => exact ⟨0, Nat.zero_le _, rfl, fun j _ h => absurd h (Nat.not_lt_zero _)⟩
  case round =>
    obtain ⟨k, hk, rfl, H⟩ := hrel
    by_cases hlt : k < n
    · obtain ⟨b, o, y, rfl, _, hx, c0⟩ := RdBytes.at_ hA hlt
      have hlt' : (k : Int) < (n : Int) := by omega
      have Hx := Lib.hid hx
      clear hx
      by_cases he : x = y
      · have He := Lib.hid he
        have hb : (((x.toNat : Nat) : Int) == ((y.toNat : Nat) : Int)) = true := by rw [u8_eq]; simpa using he
        clear he
        go_wp2
        go_ret
        exact ⟨ret_int (bidx_hit H.out Hx.out He.out).symm, rfl⟩
      · have He : Hid (decide (x = y) = false) := decide_eq_false he
        have hb : (((x.toNat : Nat) : Int) == ((y.toNat : Nat) : Int)) = false := by rw [u8_eq]; exact decide_eq_false he
        clear he
        go_wp2
        go_round
        case rel => exact ⟨k + 1, by omega, by go_num, all_succ (p := fun it => decide (x = it)) H.out Hx.out He.out⟩
        case measure => simp [intOf]; omega
    · obtain rfl : k = n := by omega
      go_wp2
      go_ret
      exact ⟨ret_int (bidx_miss (HL.out ▸ H.out)).symm, rfl⟩
theorem bcontains_any (A : Option Addr) (n c : Nat) (l : List UInt8) (x : UInt8) (w : World) (hA : RdBytes w A n l) (hn : n ≤ 9223372036854775807) :
    Calls Tryz.prog 140 #[.slice A n c, .int .u8 (x.toNat : Int)] w (RetQ (.bool (l.elem x)) w) := by
  have HC := Lib.hid (bindex_any A n c l x w hA hn)
  rw [← bidx_elem]
  generalize bidx x l = q at HC ⊢
  clear hA
  go_enter Tryz.func140, Tryz.ntmps140
  go_wp2_with (go_at_call 170; refine HC.out.mono ?_; rintro e w1 ⟨rfl, rfl⟩)
  go_ret
  exact ⟨rfl, rfl⟩

/-- What 'Is' answers. -/
def isB (s : ByteArray) (k : Nat) (e : Int) (cs : List UInt8) : Bool := if h : e = 0 ∧ k < s.size then cs.elem (s[k]'h.2) else false
theorem isB_done {s : ByteArray} {k : Nat} {e : Int} {cs : List UInt8} (h : doneB s k e = true) : isB s k e cs = false := by
  simp only [doneB, decide_eq_true_eq] at h
  exact dif_neg (by omega)
theorem isB_at {s : ByteArray} {k : Nat} {cs : List UInt8} (h : k < s.size) : isB s k 0 cs = cs.elem s[k] := dif_pos ⟨rfl, h⟩
theorem isB_lt {s : ByteArray} {k : Nat} {e : Int} {cs : List UInt8} (h : isB s k e cs = true) : e = 0 ∧ k < s.size := by
  unfold isB at h
  split at h
  · assumption
  · cases h
def isK (s : ByteArray) (k : Nat) (e : Int) (cs : List UInt8) : Nat := if isB s k e cs then k + 1 else k

set_option maxHeartbeats 400000 in
theorem is_any (b : Nat) (s : ByteArray) (k : Nat) (bad e : Int) (A : Option Addr) (n c : Nat) (cs : List UInt8) (w : World) (h : Rdr w b s k bad e) (hs : s.size ≤ 9223372036854775807) (hk : k ≤ s.size) (hA : RdBytes w A n cs) (hn : n ≤ 9223372036854775807) :
    Calls Tryz.prog 109 #[.pointer (some ⟨b, 0, none⟩), .slice A n c] w (RetR (.bool (isB s k e cs)) b s (isK s k e cs) bad e w) := by
  have HD := Lib.hid (fun q => done_any b s k bad e (w.drewN q) h)
  have H := Lib.hid h
  cases hd : doneB s k e with
  | true =>
    rw [hd] at HD
    have e1 := isB_done (cs := cs) hd
    rw [isK, e1]
    clear e1 hd h hA
    go_enter Tryz.func109, Tryz.ntmps109
    go_wp2
    go_quiet ((go_at_call 108; exact quietN (HD.out _)))
    go_wp2
    go_ret
    exact ⟨rfl, H.out.drewN _, (Chg.refl _ _).drewN _⟩
  | false =>
    rw [hd] at HD
    obtain ⟨rfl, hlt⟩ := doneB_no hk hd
    have hlt' : (k : Int) < (s.size : Int) := by omega
    have HC := Lib.hid (fun q => bcontains_any A n c cs s[k] (w.drewN q) hA hn)
    have e1 := isB_at (cs := cs) hlt
    rw [isK, e1]
    obtain ⟨c0, c1, c2, c3⟩ := h.cells
    have f1 := h.free 1
    clear e1 hd h hA hk
    cases hq : cs.elem s[k] with
    | false =>
      rw [hq] at HC
      clear hq
      go_enter Tryz.func109, Tryz.ntmps109
      go_wp2
      go_quiet ((first | (go_at_call 108; exact quietN (HD.out _)) | (go_at_call 140; exact quietQ (HC.out _))))
      go_wp2
      go_ret
      exact ⟨rfl, H.out.drewN _, (Chg.refl _ _).drewN _⟩
    | true =>
      rw [hq] at HC
      clear hq
      go_enter Tryz.func109, Tryz.ntmps109
      go_wp2
      go_quiet ((first | (go_at_call 108; exact quietN (HD.out _)) | (go_at_call 140; exact quietQ (HC.out _))))
      go_wp2
      go_ret
      exact ⟨rfl, (H.out.drewN _).setAt _, ((Chg.refl _ _).drewN _).set _ _⟩
end Go.Proofs.YtochhmkdhdadhaaGreat

/- The walks of package lex, on: runs of bytes, numbers, words, texts. -/
namespace Go.Proofs.YtochhmkdhdadhaaGreat
open Go.RowKit
set_option linter.unusedSimpArgs false
set_option linter.unusedVariables false

/-- A predicate on bytes that leaves the world alone. -/
def PredU (g : Nat) (p : UInt8 → Bool) : Prop := ∀ (W : World) (x : UInt8), Calls Tryz.prog g #[.int .u8 (x.toNat : Int)] W (RetQ (.bool (p x)) W)

def blankP (c : UInt8) : Bool := decide (c = 32 ∨ c = 9)
def digitP (c : UInt8) : Bool := decide (48 ≤ c.toNat ∧ c.toNat ≤ 57)
def letterP (c : UInt8) : Bool := decide ((97 ≤ c.toNat ∧ c.toNat ≤ 122) ∨ (65 ≤ c.toNat ∧ c.toNat ≤ 90))

theorem u8_lit (a : UInt8) (b : Nat) (hb : b < 256) : (a.toNat = b) ↔ a = UInt8.ofNat b := by
  constructor
  · intro h; apply UInt8.toNat_inj.1; rw [h]; simp; omega
  · rintro rfl; simp; omega

theorem digit1_any : PredU 192 digitP := by
  intro W x
  have e : digitP x = decide (48 ≤ (x.toNat : Int) ∧ (x.toNat : Int) ≤ 57) := by
    unfold digitP
    rw [Bool.eq_iff_iff]
    simp only [decide_eq_true_eq]
    omega
  rw [e]
  generalize hc : (x.toNat : Int) = c
  clear e hc
  by_cases h1 : 48 ≤ c
  · have e2 : decide (48 ≤ c ∧ c ≤ 57) = decide (c ≤ 57) := by rw [Bool.eq_iff_iff]; simp [h1]
    rw [e2]
    clear e2
    go_enter Tryz.func192, Tryz.ntmps192
    go_wp2
    go_ret
    exact ⟨rfl, rfl⟩
  · have e2 : decide (48 ≤ c ∧ c ≤ 57) = false := by simp [h1]
    rw [e2]
    clear e2
    go_enter Tryz.func192, Tryz.ntmps192
    go_wp2
    go_ret
    exact ⟨rfl, rfl⟩
theorem letter1_any : PredU 172 letterP := by
  intro W x
  have e : letterP x = decide ((97 ≤ (x.toNat : Int) ∧ (x.toNat : Int) ≤ 122) ∨ (65 ≤ (x.toNat : Int) ∧ (x.toNat : Int) ≤ 90)) := by
    unfold letterP
    rw [Bool.eq_iff_iff]
    simp only [decide_eq_true_eq]
    omega
  rw [e]
  generalize hc : (x.toNat : Int) = c
  clear e hc
  generalize hq : decide ((97 ≤ c ∧ c ≤ 122) ∨ (65 ≤ c ∧ c ≤ 90)) = q
  have HQ := Lib.hid hq
  clear hq
  go_enter Tryz.func172, Tryz.ntmps172
  go_wp2
  all_goals go_ret
  all_goals (refine ⟨ret_bool ?_, rfl⟩; rw [← HQ.out]; ((try simp only [beq_iff_eq, beq_eq_false_iff_ne, bne_iff_ne, ne_eq, decide_eq_true_eq, decide_eq_true_eq, decide_eq_false_iff_not, Bool.and_eq_true, Bool.or_eq_true, Bool.not_eq_true', Bool.not_eq_false', Bool.and_eq_false_iff, Bool.or_eq_false_iff] at *)
                                                        rw [Bool.eq_iff_iff]
                                                        (try simp only [decide_eq_true_eq, decide_eq_true_eq, beq_iff_eq, bne_iff_ne, ne_eq, Bool.and_eq_true, Bool.or_eq_true, Bool.not_eq_true', Bool.not_eq_false', beq_eq_false_iff_ne, decide_eq_false_iff_not, iff_true, true_iff, Bool.false_eq_true, false_iff, iff_false, reduceCtorEq])
                                                        omega))

/-- How far a run goes on from k. -/
def runLen (p : UInt8 → Bool) (s : ByteArray) (k : Nat) : Nat := ((s.data.toList.drop k).takeWhile p).length
/-- Where a reader stands behind a run. -/
def someK (p : UInt8 → Bool) (s : ByteArray) (k : Nat) (e : Int) : Nat := if doneB s k e then k else k + runLen p s k

theorem run_stop {p : UInt8 → Bool} {l : List UInt8} {j : Nat} (H : ∀ i x, i < j → l[i]? = some x → p x = true) (hj : j ≤ l.length) (h : ∀ x, l[j]? = some x → p x = false) : (l.takeWhile p).length = j := by
  induction l generalizing j with
  | nil => simp at hj ⊢; omega
  | cons a l ih =>
    cases j with
    | zero =>
      have := h a rfl
      simp [List.takeWhile_cons, this]
    | succ j =>
      have h0 := H 0 a (by omega) rfl
      rw [List.takeWhile_cons, h0]
      simp only [if_true, List.length_cons]
      rw [ih (j := j) (fun i x hi hx => H (i + 1) x (by omega) (by simpa using hx)) (by simpa using hj) (fun x hx => h x (by simpa using hx))]
theorem runLen_stop {p : UInt8 → Bool} {s : ByteArray} {k j : Nat} (hkj : k ≤ j) (hj : j ≤ s.size) (H : ∀ i x, k ≤ i → i < j → s.data.toList[i]? = some x → p x = true) (h : ∀ x, s.data.toList[j]? = some x → p x = false) : runLen p s k = j - k := by
  unfold runLen
  apply run_stop
  · intro i x hi hx
    rw [List.getElem?_drop] at hx
    exact H (k + i) x (by omega) (by omega) hx
  · simp; have : s.data.size = s.size := rfl; omega
  · intro x hx
    rw [List.getElem?_drop] at hx
    exact h x (by rw [show j = k + (j - k) from by omega]; exact hx)

theorem byte_at (s : ByteArray) (k : Nat) (h : k < s.size) : s.data.toList[k]? = some s[k] := by
  rw [List.getElem?_eq_getElem (by simpa using h)]
  rfl
theorem extract_none (s : ByteArray) (k : Nat) : s.extract k k = ⟨#[]⟩ := by
  apply ByteArray.ext
  simp

set_option maxHeartbeats 1000000 in
theorem some_any (b : Nat) (s : ByteArray) (k : Nat) (bad e : Int) (g : Nat) (p : UInt8 → Bool) (w : World) (h : Rdr w b s k bad e) (hs : s.size ≤ 9223372036854775807) (hk : k ≤ s.size)
    (eg : ∀ args w, (callFunc g args).run Tryz.prog w = .ok (.enter g args) w) (hp : PredU g p) :
    Calls Tryz.prog 171 #[.pointer (some ⟨b, 0, none⟩), .func (.func g) #[] #[]] w (RetR (.string (s.extract k (someK p s k e))) b s (someK p s k e) bad e w) := by
  have HD := Lib.hid (done_any b s k bad e w h)
  have H := Lib.hid h
  cases hd : doneB s k e with
  | true =>
    rw [hd] at HD
    rw [someK, hd, if_pos rfl, extract_none]
    clear hd h hp eg
    go_enter Tryz.func171, Tryz.ntmps171
    go_wp2_with fail
    refine HD.out.mono ?_
    rintro e w1 ⟨rfl, q, rfl⟩
    go_wp2
    go_ret
    exact ⟨rfl, H.out.drewN _, (Chg.refl _ _).drewN _⟩
  | false =>
    rw [hd] at HD
    obtain ⟨rfl, hlt⟩ := doneB_no hk hd
    rw [someK, hd, if_neg (by decide)]
    obtain ⟨c0, c1, c2, c3⟩ := h.cells
    have HP := Lib.hid hp
    clear hd h hk hp
    generalize hr : k + runLen p s k = r
    have HR := Lib.hid hr
    clear hr
    go_enter Tryz.func171, Tryz.ntmps171
    go_wp2_with fail
    refine HD.out.mono ?_
    rintro e w1 ⟨rfl, q, rfl⟩
    go_wp2
    go_loopg [] (s.size - k) (fun gg wr => ∃ j : Nat, k ≤ j ∧ j ≤ s.size ∧ gg = s.size - j ∧ Hid (∀ i x, k ≤ i → i < j → s.data.toList[i]? = some x → p x = true) ∧ Hid (Rdr wr b s j bad 0) ∧ Hid (Chg b w wr))
    case atStart => exact ⟨k, Nat.le_refl _, by omega, rfl, fun i x h1 h2 => by omega, H.out.drewN _, (Chg.refl _ _).drewN _⟩
    case round =>
      obtain ⟨j, hkj, hj, hgj, HI, HJ, HC⟩ := hrel
      obtain ⟨d0, d1, d2, d3⟩ := HJ.out.cells
      have f1 := HJ.out.free 1
      by_cases hlj : j < s.size
      · have hlj' : (j : Int) < (s.size : Int) := by omega
        have HQ := Lib.hid (fun W => HP.out W s[j])
        cases hq : p s[j] with
        | true =>
          have Hq : Hid (p s[j] = true) := hq
          rw [hq] at HQ
          clear hq
          go_wp2
          go_quiet ((go_at_fn g; exact quietQ (HQ.out _)))
          go_wp2
          go_roundg (s.size - (j + 1))
          case measure => omega
          case rel =>
            exact ⟨j + 1, by omega, by omega, rfl, (fun i x h1 h2 hx => by
              rcases Nat.lt_or_ge i j with h3 | h3
              · exact HI.out i x h1 h3 hx
              · obtain rfl : i = j := by omega
                rw [byte_at s i hlj] at hx; cases hx
                exact Hq.out), (HJ.out.drewN _).setAt _, (HC.out.drewN _).set _ _⟩
        | false =>
          have Hr : Hid (r = j) := by
            show r = j
            rw [← HR.out, runLen_stop hkj hj HI.out (fun x hx => by rw [byte_at s j hlj] at hx; cases hx; exact hq)]
            omega
          rw [hq] at HQ
          clear hq
          go_wp2
          go_quiet ((go_at_fn g; exact quietQ (HQ.out _)))
          go_wp2
          go_quiet (fail)
          go_wp2
          go_ret
          refine ⟨?_, ?_, ?_⟩
          · rw [Hr.out]; rfl
          · rw [Hr.out]; exact HJ.out
          · exact (HC.out.drewN _).drewN _
      · obtain rfl : j = s.size := by omega
        have Hr : Hid (r = s.size) := by
          show r = s.size
          rw [← HR.out, runLen_stop hkj (Nat.le_refl _) HI.out (fun x hx => by
            have := (List.getElem?_eq_some_iff.1 hx).1
            rw [Array.length_toList] at this; have e : s.data.size = s.size := rfl; omega)]
          omega
        go_wp2
        go_quiet (fail)
        go_wp2
        go_quiet (fail)
        go_wp2
        go_ret
        refine ⟨?_, ?_, ?_⟩
        · rw [Hr.out]; rfl
        · rw [Hr.out]; exact HJ.out
        · exact (HC.out.drewN _).drewN _
end Go.Proofs.YtochhmkdhdadhaaGreat

/- The walks of package lex, on: what must stand there, numbers, words, texts, the end. -/
namespace Go.Proofs.YtochhmkdhdadhaaGreat
open Go.RowKit
set_option linter.unusedSimpArgs false
set_option linter.unusedVariables false

theorem lacks_nil (w : World) : Calls Tryz.prog 144 #[.pointer none] w (RetQ (.tuple #[]) w) := by
  go_enter Tryz.func144, Tryz.ntmps144
  go_wp2
  go_end0
  exact ⟨rfl, rfl⟩
/-- What lacks where it stands. -/
def lackE (s : ByteArray) (k : Nat) : Int := if k = s.size then 2 else 3
set_option maxHeartbeats 400000 in
theorem lacks_any (b : Nat) (s : ByteArray) (k : Nat) (bad e : Int) (w : World) (h : Rdr w b s k bad e) :
    Calls Tryz.prog 144 #[.pointer (some ⟨b, 0, none⟩)] w (RetR (.tuple #[]) b s k (failBad bad e k (lackE s k)) (failE e (lackE s k)) w) := by
  obtain ⟨c0, c1, c2, c3⟩ := h.cells
  have HF := Lib.hid (fun W q (h : Rdr W b s k bad e) => fail_any b s k bad e k q W h)
  have H := Lib.hid h
  clear h
  by_cases he : k = s.size
  · have he' : ((k : Int) == (s.size : Int)) = true := by simp; omega
    have e1 : lackE s k = 2 := if_pos he
    rw [e1]
    clear he e1
    go_enter Tryz.func144, Tryz.ntmps144
    go_wp2
    go_quiet (fail)
    go_wp2_with fail
    refine (HF.out _ _ (H.out.drewN _)).mono ?_
    rintro x w1 ⟨rfl, h1, g1⟩
    go_wp2
    first | go_end0 | (refine bodyPost_ret (results_none rfl _ _ _) rfl ?_)
    exact ⟨rfl, h1, ((Chg.refl _ _).drewN _).trans g1⟩
  · have he' : ((k : Int) == (s.size : Int)) = false := by simp; omega
    have e1 : lackE s k = 3 := if_neg he
    rw [e1]
    clear he e1
    go_enter Tryz.func144, Tryz.ntmps144
    go_wp2
    go_quiet (fail)
    go_wp2_with fail
    refine (HF.out _ _ (H.out.drewN _)).mono ?_
    rintro x w1 ⟨rfl, h1, g1⟩
    go_wp2
    first | go_end0 | (refine bodyPost_ret (results_none rfl _ _ _) rfl ?_)
    exact ⟨rfl, h1, ((Chg.refl _ _).drewN _).trans g1⟩

/-- The byte where it stands; 0. -/
def peekN (s : ByteArray) (k : Nat) (e : Int) : Int := if h : e = 0 ∧ k < s.size then ((s[k]'h.2).toNat : Int) else 0
theorem peekN_done {s : ByteArray} {k : Nat} {e : Int} (h : doneB s k e = true) : peekN s k e = 0 := by
  simp only [doneB, decide_eq_true_eq] at h
  exact dif_neg (by omega)
theorem peekN_at {s : ByteArray} {k : Nat} (h : k < s.size) : peekN s k 0 = (s[k].toNat : Int) := dif_pos ⟨rfl, h⟩
theorem peek_any (b : Nat) (s : ByteArray) (k : Nat) (bad e : Int) (w : World) (h : Rdr w b s k bad e) (hk : k ≤ s.size) : Calls Tryz.prog 74 #[.pointer (some ⟨b, 0, none⟩)] w (RetN (.int .u8 (peekN s k e)) w) := by
  cases hd : doneB s k e with
  | true => rw [peekN_done hd]; exact peek_done b s k bad e w h hd
  | false =>
    obtain ⟨rfl, hlt⟩ := doneB_no hk hd
    rw [peekN_at hlt]; exact peek_byte b s k bad w h hlt

set_option maxHeartbeats 400000 in
theorem must_any (b : Nat) (s : ByteArray) (k : Nat) (bad e : Int) (A : Option Addr) (n c : Nat) (cs : List UInt8) (w : World) (h : Rdr w b s k bad e) (hs : s.size ≤ 9223372036854775807) (hk : k ≤ s.size) (hA : RdBytes w A n cs) (hn : n ≤ 9223372036854775807) :
    Calls Tryz.prog 112 #[.pointer (some ⟨b, 0, none⟩), .slice A n c] w
      (RetR (.int .u8 (if isB s k e cs then peekN s k e else 0)) b s (isK s k e cs) (if isB s k e cs then bad else failBad bad e k (lackE s k)) (if isB s k e cs then e else failE e (lackE s k)) w) := by
  have HP := Lib.hid (peek_any b s k bad e w h hk)
  have HI := Lib.hid (fun q => is_any b s k bad e A n c cs (w.drewN q) h hs hk hA hn)
  have HL := Lib.hid (fun W (h : Rdr W b s k bad e) => lacks_any b s k bad e W h)
  unfold isK at HI ⊢
  clear h hA
  cases hq : isB s k e cs with
  | true =>
    rw [hq] at HI
    rw [if_pos rfl] at HI
    simp only [if_true]
    clear hq
    go_enter Tryz.func112, Tryz.ntmps112
    go_wp2_with fail
    refine HP.out.mono ?_
    rintro x w1 ⟨rfl, q, rfl⟩
    go_wp2_with fail
    refine (HI.out _).mono ?_
    rintro x w1 ⟨rfl, h1, g1⟩
    go_wp2
    go_ret
    exact ⟨rfl, h1, ((Chg.refl _ _).drewN _).trans g1⟩
  | false =>
    rw [hq] at HI
    rw [if_neg (by decide)] at HI
    simp only [Bool.false_eq_true, if_false]
    clear hq
    go_enter Tryz.func112, Tryz.ntmps112
    go_wp2_with fail
    refine HP.out.mono ?_
    rintro x w1 ⟨rfl, q, rfl⟩
    go_wp2_with fail
    refine (HI.out _).mono ?_
    rintro x w1 ⟨rfl, h1, g1⟩
    go_wp2_with fail
    refine (HL.out _ h1).mono ?_
    rintro x w2 ⟨rfl, h2, g2⟩
    go_wp2
    go_ret
    exact ⟨rfl, h2, (((Chg.refl _ _).drewN _).trans g1).trans g2⟩

theorem word_any (b : Nat) (s : ByteArray) (k : Nat) (bad e : Int) (w : World) (h : Rdr w b s k bad e) (hs : s.size ≤ 9223372036854775807) (hk : k ≤ s.size) :
    Calls Tryz.prog 141 #[.pointer (some ⟨b, 0, none⟩)] w (RetR (.string (s.extract k (someK letterP s k e))) b s (someK letterP s k e) bad e w) := by
  have HS := Lib.hid (some_any b s k bad e 172 letterP w h hs hk (enters_of Tryz.func172 (by kernel_rfl) rfl) letter1_any)
  generalize someK letterP s k e = j at HS ⊢
  clear h
  go_enter Tryz.func141, Tryz.ntmps141
  go_wp2_with fail
  refine HS.out.mono ?_
  rintro x w1 ⟨rfl, h1, g1⟩
  go_wp2
  go_ret
  exact ⟨rfl, h1, g1⟩

/-- A new reader: its block is new. -/
def RetNew (s : ByteArray) (bad e : Int) (w : World) (x : Ending) (w' : World) : Prop := ∃ b, w.heap.size ≤ b ∧ x = .returned (.pointer (some ⟨b, 0, none⟩)) ∧ Rdr w' b s 0 bad e ∧ Below w.heap.size w w'
def newBad (s : ByteArray) : Int := if 8192 < s.size then 8192 else 0
def newE (s : ByteArray) : Int := if 8192 < s.size then 5 else 0
theorem new_any (s : ByteArray) (w : World) (hs : s.size ≤ 9223372036854775807) : Calls Tryz.prog 44 #[.string s] w (RetNew s (newBad s) (newE s) w) := by
  have HF := Lib.hid (fun W b h => fail_any b s 0 0 0 8192 5 W h)
  rw [show failBad 0 0 8192 5 = 8192 from by simp [failBad], show failE 0 5 = 5 from by simp [failE]] at HF
  by_cases hl : 8192 < s.size
  · have hl' : (8192 : Int) < (s.size : Int) := by omega
    rw [newBad, newE, if_pos hl, if_pos hl]
    clear hl
    go_enter Tryz.func44, Tryz.ntmps44
    go_wp2_with fail
    refine (HF.out _ _ (heap_alloc_new w _)).mono ?_
    rintro x w1 ⟨rfl, h1, g1⟩
    go_wp2
    go_ret
    exact ⟨w.heap.size, Nat.le_refl _, rfl, h1, Chg.below ((Below.refl _ w).alloc (Nat.le_refl _) _) g1 (Nat.le_refl _) (by simp)⟩
  · have hl' : ¬ (8192 : Int) < (s.size : Int) := by omega
    rw [newBad, newE, if_neg hl, if_neg hl]
    clear hl
    go_enter Tryz.func44, Tryz.ntmps44
    go_wp2
    go_ret
    exact ⟨w.heap.size, Nat.le_refl _, rfl, heap_alloc_new w _, (Below.refl _ w).alloc (Nat.le_refl _) _⟩
end Go.Proofs.YtochhmkdhdadhaaGreat

namespace Go.Proofs.YtochhmkdhdadhaaGreat
open Go.RowKit
set_option linter.unusedSimpArgs false
set_option linter.unusedVariables false

/-- The number that digits tell. -/
def numOf (l : List UInt8) : Int := l.foldl (fun n c => 10 * n + ((c.toNat : Int) - 48)) 0
theorem numOf_snoc (l : List UInt8) (c : UInt8) : numOf (l ++ [c]) = 10 * numOf l + ((c.toNat : Int) - 48) := by simp [numOf, List.foldl_append]
theorem numOf_go (l : List UInt8) (h : ∀ c ∈ l, digitP c = true) (a : Int) (ha : 0 ≤ a) :
    0 ≤ l.foldl (fun n (c : UInt8) => 10 * n + ((c.toNat : Int) - 48)) a ∧ l.foldl (fun n (c : UInt8) => 10 * n + ((c.toNat : Int) - 48)) a < (a + 1) * 10 ^ l.length := by
  induction l generalizing a with
  | nil => simp; omega
  | cons c l ih =>
    have h2 := h c (by simp)
    simp only [digitP, decide_eq_true_eq] at h2
    have h3 := ih (fun c hc => h c (List.mem_cons_of_mem _ hc)) (10 * a + ((c.toNat : Int) - 48)) (by omega)
    rw [List.foldl_cons, List.length_cons, Int.pow_succ]
    refine ⟨h3.1, Int.lt_of_lt_of_le h3.2 ?_⟩
    have h4 : (0 : Int) ≤ 10 ^ l.length := Int.pow_nonneg (by decide)
    generalize (10 : Int) ^ l.length = q at h4 ⊢
    calc (10 * a + ((c.toNat : Int) - 48) + 1) * q ≤ ((a + 1) * 10) * q := Int.mul_le_mul_of_nonneg_right (by omega) h4
      _ = (a + 1) * (q * 10) := by rw [Int.mul_assoc, Int.mul_comm 10 q]
theorem numOf_bd (l : List UInt8) (h : ∀ c ∈ l, digitP c = true) : 0 ≤ numOf l ∧ numOf l < 10 ^ l.length := by
  have := numOf_go l h 0 (by decide)
  simpa [numOf] using this
theorem pow_le17 {k : Nat} (h : k ≤ 17) : (10 : Int) ^ k ≤ 100000000000000000 := by
  have : k = 0 ∨ k = 1 ∨ k = 2 ∨ k = 3 ∨ k = 4 ∨ k = 5 ∨ k = 6 ∨ k = 7 ∨ k = 8 ∨ k = 9 ∨ k = 10 ∨ k = 11 ∨ k = 12 ∨ k = 13 ∨ k = 14 ∨ k = 15 ∨ k = 16 ∨ k = 17 := by omega
  rcases this with rfl | rfl | rfl | rfl | rfl | rfl | rfl | rfl | rfl | rfl | rfl | rfl | rfl | rfl | rfl | rfl | rfl | rfl <;> decide

theorem run_all {p : UInt8 → Bool} (l : List UInt8) : ∀ x ∈ l.takeWhile p, p x = true := by
  induction l with
  | nil => simp
  | cons a l ih =>
    intro x hx
    rw [List.takeWhile_cons] at hx
    split at hx
    · simp only [List.mem_cons] at hx
      rcases hx with rfl | hx
      · assumption
      · exact ih x hx
    · simp at hx
theorem someK_le (p : UInt8 → Bool) (s : ByteArray) (k : Nat) (e : Int) (hk : k ≤ s.size) : k ≤ someK p s k e ∧ someK p s k e ≤ s.size := by
  unfold someK
  split
  · exact ⟨Nat.le_refl _, hk⟩
  · refine ⟨Nat.le_add_right _ _, ?_⟩
    have h1 : ((s.data.toList.drop k).takeWhile p).length ≤ (s.data.toList.drop k).length := (List.takeWhile_prefix p).length_le
    rw [List.length_drop] at h1
    have e0 : s.data.toList.length = s.data.size := Array.length_toList
    have e : s.data.size = s.size := rfl
    have e2 : runLen p s k = ((s.data.toList.drop k).takeWhile p).length := rfl
    omega
/-- The bytes of a run. -/
def runL (p : UInt8 → Bool) (s : ByteArray) (k : Nat) (e : Int) : List UInt8 := (s.data.toList.drop k).take (someK p s k e - k)
theorem runL_all (p : UInt8 → Bool) (s : ByteArray) (k : Nat) (e : Int) : ∀ x ∈ runL p s k e, p x = true := by
  unfold runL someK
  split
  · simp
  · rw [show k + runLen p s k - k = runLen p s k from by omega]
    unfold runLen
    rw [show (s.data.toList.drop k).take ((s.data.toList.drop k).takeWhile p).length = (s.data.toList.drop k).takeWhile p from (List.prefix_iff_eq_take.1 (List.takeWhile_prefix p)).symm]
    exact run_all _
theorem extract_list (s : ByteArray) (k j : Nat) : (s.extract k j).data.toList = (s.data.toList.drop k).take (j - k) := by
  rw [ByteArray.data_extract, Array.toList_extract, List.extract_eq_take_drop]

/-- Is a number taken? -/
def numB (s : ByteArray) (k : Nat) (e most : Int) : Bool := decide (someK digitP s k e ≠ k ∧ ((someK digitP s k e - k : Nat) : Int) ≤ most ∧ most ≤ 18)
def numErr (s : ByteArray) (k : Nat) (e : Int) : Int := if someK digitP s k e = k then lackE s k else 4

/-- The bytes of a text, as a new slice. -/
theorem conv_bytes (t : ByteArray) (w : World) : ∃ cap C, (convert 9 164 (.string t)).run Tryz.prog w = .ok (.slice (some ⟨w.heap.size, 0, none⟩) t.size cap) (w.drew.alloc (.cells C 5 (C.size, C.size + 1))) ∧
    ∀ (i : Nat) (x : UInt8), t.data.toList[i]? = some x → C[i]? = some (Value.int .u8 (x.toNat : Int)) := by
  refine ⟨_, _, run_bytes_of_string w 9 164 5 t Tryz.underlying9 Tryz.underlying164 Tryz.underlying5, ?_⟩
  intro i x hx
  have hi := (List.getElem?_eq_some_iff.1 hx).1
  rw [Array.length_toList] at hi
  rw [bytesRow, Array.getElem?_append_left (by simpa using hi), Array.getElem?_map]
  simp only [Array.getElem?_toList] at hx
  rw [hx]
  rfl

theorem some_nil (g : Nat) (w : World) : Calls Tryz.prog 171 #[.pointer none, .func (.func g) #[] #[]] w (RetN (.string ⟨#[]⟩) w) := by
  go_enter Tryz.func171, Tryz.ntmps171
  go_wp2_with fail
  refine (done_nil _).mono ?_
  rintro x w1 ⟨rfl, q, rfl⟩
  go_wp2
  go_ret
  exact ⟨rfl, _, rfl⟩
theorem number_nil (most : Int) (w : World) : Calls Tryz.prog 183 #[.pointer none, .int .i64 most] w (RetN (.tuple #[.int .i64 0, .bool false]) w) := by
  have HS := Lib.hid (fun W => some_nil 192 W)
  go_enter Tryz.func183, Tryz.ntmps183
  go_wp2_with fail
  refine (at_nil _).mono ?_
  rintro x w1 ⟨rfl, rfl⟩
  go_wp2_with fail
  refine (HS.out _).mono ?_
  rintro x w1 ⟨rfl, q, rfl⟩
  go_wp2_with fail
  refine (lacks_nil _).mono ?_
  rintro x w1 ⟨rfl, rfl⟩
  go_wp2
  go_ret2
  exact ⟨rfl, _, rfl⟩

set_option maxRecDepth 100000 in
set_option maxHeartbeats 1000000 in
theorem number_any (b : Nat) (s : ByteArray) (k : Nat) (bad e most : Int) (w : World) (h : Rdr w b s k bad e) (hs : s.size ≤ 9223372036854775807) (hk : k ≤ s.size) :
    Calls Tryz.prog 183 #[.pointer (some ⟨b, 0, none⟩), .int .i64 most] w
      (RetR (.tuple #[.int .i64 (if numB s k e most then numOf (runL digitP s k e) else 0), .bool (numB s k e most)]) b s (if numB s k e most then someK digitP s k e else k)
        (if numB s k e most then bad else failBad bad e k (numErr s k e)) (if numB s k e most then e else failE e (numErr s k e)) w) := by
  have HA := Lib.hid (at_any b s k bad e w h)
  have HS := Lib.hid (some_any b s k bad e 192 digitP w h hs hk (enters_of Tryz.func192 (by kernel_rfl) rfl) digit1_any)
  have hj := someK_le digitP s k e hk
  have HL := Lib.hid (fun W (h : Rdr W b s k bad e) => lacks_any b s k bad e W h)
  have HF := Lib.hid (fun W (h : Rdr W b s k bad e) => fail_any b s k bad e k 4 W h)
  clear h
  by_cases h0 : someK digitP s k e = k
  · have e1 : numB s k e most = false := by simp [numB, h0]
    have e2 : numErr s k e = lackE s k := if_pos h0
    rw [e1, e2]
    simp only [Bool.false_eq_true, if_false]
    rw [h0, extract_none] at HS
    clear h0 e1 e2 hj
    go_enter Tryz.func183, Tryz.ntmps183
    go_wp2_with fail
    refine HA.out.mono ?_
    rintro x w1 ⟨rfl, rfl⟩
    go_wp2_with fail
    refine HS.out.mono ?_
    rintro x w1 ⟨rfl, h1, g1⟩
    go_wp2_with fail
    refine (HL.out _ h1).mono ?_
    rintro x w2 ⟨rfl, h2, g2⟩
    go_wp2
    go_ret2
    exact ⟨rfl, h2, g1.trans g2⟩
  have hlen : (s.extract k (someK digitP s k e)).size = someK digitP s k e - k := by simp; omega
  have ht0 : (s.extract k (someK digitP s k e)).toList.isEmpty = false := by
    rw [ByteArray.toList_eq]
    cases hq : (s.extract k (someK digitP s k e)).data.toList with
    | nil =>
      have : (s.extract k (someK digitP s k e)).data.size = 0 := by rw [← Array.length_toList, hq]; rfl
      have e3 : (s.extract k (someK digitP s k e)).data.size = (s.extract k (someK digitP s k e)).size := rfl
      omega
    | cons a l => rfl
  have hrl : (s.extract k (someK digitP s k e)).data.toList = runL digitP s k e := extract_list _ _ _
  have hall := runL_all digitP s k e
  have hjp : k < someK digitP s k e := by omega
  by_cases hm : ((someK digitP s k e - k : Nat) : Int) ≤ most ∧ most ≤ 18
  · have e1 : numB s k e most = true := decide_eq_true ⟨h0, hm⟩
    rw [e1]
    simp only [if_true]
    clear e1 h0 HL HF
    generalize someK digitP s k e = j at *
    generalize ht : s.extract k j = t at *
    generalize runL digitP s k e = L at *
    have hm1 : ¬ most < (t.size : Int) := by omega
    have hm2 : ¬ 18 < most := by omega
    have hsz18 : t.size ≤ 18 := by omega
    have HRL := Lib.hid hrl
    have HAll := Lib.hid hall
    clear ht hrl hall hlen hm hj
    go_enter Tryz.func183, Tryz.ntmps183
    go_wp2_with fail
    refine HA.out.mono ?_
    rintro x w1 ⟨rfl, rfl⟩
    go_wp2_with fail
    refine HS.out.mono ?_
    rintro x w1 ⟨rfl, h1, g1⟩
    obtain ⟨cap, C, hconv, hC⟩ := conv_bytes t w1
    have HC := Lib.hid hC
    have H1 := Lib.hid h1
    clear hC h1
    have hcell : ∀ (i : Nat) (x : UInt8), t.data.toList[i]? = some x → (w1.alloc (.cells C 5 (C.size, C.size + 1))).cell? ⟨w1.heap.size, i, none⟩ = some (.int .u8 (x.toNat : Int)) := by
      intro i x hx
      have h1 := heap_alloc_new w1 (.cells C 5 (C.size, C.size + 1))
      unfold World.cell?
      rw [h1]
      exact HC.out i x hx
    have HCell := Lib.hid hcell
    have htl : t.data.toList.length = t.size := Array.length_toList
    clear hcell
    go_wp2
    go_loop [8, 39] (fun v i => ∃ q : Nat, q ≤ t.size ∧ i = .int .i64 q ∧ v = .int .i64 (numOf (t.data.toList.take q))) (fun _ i => t.size - (intOf i).toNat)
    case atStart => exact ⟨0, Nat.zero_le _, rfl, rfl⟩
    case round =>
      obtain ⟨q, hq, rfl, rfl⟩ := hrel
      by_cases hlt : q < t.size
      · have hx : t.data.toList[q]? = some t[q] := byte_at t q hlt
        have c0 := HCell.out q _ hx
        have hd : digitP t[q] = true := HAll.out _ (HRL.out ▸ List.mem_of_getElem? hx)
        simp only [digitP, decide_eq_true_eq] at hd
        have hb1 : (48 : Int) ≤ (t[q].toNat : Int) := by omega
        have hb2 : (t[q].toNat : Int) ≤ 57 := by omega
        have hbd := numOf_bd (t.data.toList.take q) (fun c hc => HAll.out c (HRL.out ▸ List.mem_of_mem_take hc))
        rw [List.length_take_of_le (by omega)] at hbd
        have hp := pow_le17 (k := q) (by omega)
        have hs1 : t.data.toList.take (q + 1) = t.data.toList.take q ++ [t[q]] := by
          rw [List.take_add_one, hx]; rfl
        have HS1 : Hid (numOf (t.data.toList.take (q + 1)) = 10 * numOf (t.data.toList.take q) + ((t[q].toNat : Int) - 48)) := by
          show _ = _
          rw [hs1, numOf_snoc]
        have hlt' : (q : Int) < (t.size : Int) := by omega
        have hn1 : 0 ≤ numOf (t.data.toList.take q) := hbd.1
        have hn2 : numOf (t.data.toList.take q) ≤ 100000000000000000 := by omega
        clear hx hd hbd hp hs1 htl
        generalize hg : numOf (t.data.toList.take q) = nq at *
        clear hg
        generalize hc : (t[q].toNat : Int) = cq at *
        clear hc
        go_wp2
        go_round
        case rel => exact ⟨q + 1, by omega, by go_num, by rw [HS1.out]⟩
        case measure => simp [intOf]; omega
      · obtain rfl : q = t.size := by omega
        have HE : Hid (t.data.toList.take t.size = L) := by
          show _ = _
          rw [List.take_of_length_le (by omega), HRL.out]
        go_wp2
        go_ret2
        refine ⟨?_, ?_, ?_⟩
        · rw [← HE.out]; rfl
        · exact (H1.out.kept (((Below.refl _ w1).alloc (Nat.le_refl _) _).drew) H1.out.lt)
        · exact (g1.alloc _).drewN 1
  · have e1 : numB s k e most = false := decide_eq_false (fun h => hm h.2)
    have e2 : numErr s k e = 4 := if_neg h0
    rw [e1, e2]
    simp only [Bool.false_eq_true, if_false]
    clear e1 e2 h0 HL hall hrl
    generalize someK digitP s k e = j at *
    generalize ht : s.extract k j = t at *
    clear ht
    by_cases hm1 : most < (t.size : Int)
    · go_enter Tryz.func183, Tryz.ntmps183
      go_wp2_with fail
      refine HA.out.mono ?_
      rintro x w1 ⟨rfl, rfl⟩
      go_wp2_with fail
      refine HS.out.mono ?_
      rintro x w1 ⟨rfl, h1, g1⟩
      obtain ⟨c0, c1, c2, c3⟩ := h1.cells
      have f1 := h1.free 1
      have H1 := Lib.hid h1
      clear h1
      go_wp2_with fail
      refine (HF.out _ (H1.out.setAt k)).mono ?_
      rintro x w2 ⟨rfl, h2, g2⟩
      go_wp2
      go_ret2
      exact ⟨rfl, h2, (g1.set _ _).trans g2⟩
    · have hm2 : 18 < most := by omega
      go_enter Tryz.func183, Tryz.ntmps183
      go_wp2_with fail
      refine HA.out.mono ?_
      rintro x w1 ⟨rfl, rfl⟩
      go_wp2_with fail
      refine HS.out.mono ?_
      rintro x w1 ⟨rfl, h1, g1⟩
      obtain ⟨c0, c1, c2, c3⟩ := h1.cells
      have f1 := h1.free 1
      have H1 := Lib.hid h1
      clear h1
      go_wp2_with fail
      refine (HF.out _ (H1.out.setAt k)).mono ?_
      rintro x w2 ⟨rfl, h2, g2⟩
      go_wp2
      go_ret2
      exact ⟨rfl, h2, (g1.set _ _).trans g2⟩
end Go.Proofs.YtochhmkdhdadhaaGreat
