/- The walks of package lex: a reader's methods. -/
import Derived.Test.YthkleinjddkhoaaRows
import Derived.Test.YthkleinjddkhoaaPlain
import Derived.Shelf.Abstract
namespace Go.Proofs.Ythkleinjddkhoaa
open Go.RowKit
set_option linter.unusedSimpArgs false
set_option linter.unusedVariables false

/-- A reader in memory: its text, where it stands, what is wrong, and where. -/
def Rdr (w : World) (b : Nat) (s : ByteArray) (k : Nat) (bad e : Int) : Prop :=
  w.heap[b]? = some (.cells #[.string s, .int .i64 k, .int .i64 bad, .int .i64 e] 50 (0, 0))
section
variable {w w' : World} {b : Nat} {s : ByteArray} {k : Nat} {bad e : Int}
theorem Rdr.lt (h : Rdr w b s k bad e) : b < w.heap.size := (Array.getElem?_eq_some_iff.1 h).1
theorem Rdr.cells (h : Rdr w b s k bad e) : w.cell? ⟨b, 0, none⟩ = some (.string s) ∧ w.cell? ⟨b, 1, none⟩ = some (.int .i64 k) ∧ w.cell? ⟨b, 2, none⟩ = some (.int .i64 bad) ∧ w.cell? ⟨b, 3, none⟩ = some (.int .i64 e) := by
  unfold Rdr at h
  simp [World.cell?, h]
theorem Rdr.free (h : Rdr w b s k bad e) (o : Nat) : w.frozen? ⟨b, o, none⟩ = false := by
  unfold Rdr at h
  simp [World.frozen?, h]
theorem Rdr.drewN (h : Rdr w b s k bad e) (q : Nat) : Rdr (w.drewN q) b s k bad e := h
theorem Rdr.kept (h : Rdr w b s k bad e) {B : Nat} (hb : Below B w w') (hB : b < B) : Rdr w' b s k bad e := (hb.block b hB).trans h
theorem heap_set {w : World} {b o : Nat} {cs : Array Value} {t : TypeId} {v : Value} (h : w.heap[b]? = some (.cells cs t (0, 0))) : (w.setCell ⟨b, o, none⟩ v).heap[b]? = some (.cells (cs.setIfInBounds o v) t (0, 0)) := by
  have hlt := (Array.getElem?_eq_some_iff.1 h).1
  have h' : w.heap[b] = .cells cs t (0, 0) := (Array.getElem?_eq_some_iff.1 h).2
  show (w.heap.modify b _)[b]? = _
  rw [Array.getElem?_eq_getElem (by simpa using hlt), Array.getElem_modify_self, h']
  rfl
theorem Rdr.setAt (h : Rdr w b s k bad e) (k' : Nat) : Rdr (w.setCell ⟨b, 1, none⟩ (.int .i64 k')) b s k' bad e := heap_set h
theorem Rdr.setBad (h : Rdr w b s k bad e) (x : Int) : Rdr (w.setCell ⟨b, 2, none⟩ (.int .i64 x)) b s k x e := heap_set h
theorem Rdr.setE (h : Rdr w b s k bad e) (x : Int) : Rdr (w.setCell ⟨b, 3, none⟩ (.int .i64 x)) b s k bad x := heap_set h
end

/-- Nothing has turned but block b, and what is new. -/
abbrev Chg (b : Nat) (w w' : World) : Prop := w.grownBy w' (some b)
theorem Chg.refl (b : Nat) (w : World) : Chg b w w := ⟨rfl, rfl, rfl, Nat.le_refl _, fun _ _ _ => rfl⟩
theorem Chg.trans {b : Nat} {w w1 w2 : World} (h : Chg b w w1) (g : Chg b w1 w2) : Chg b w w2 :=
  ⟨g.os.trans h.os, g.tape.trans h.tape, g.output.trans h.output, Nat.le_trans h.size g.size, fun k hk hn => (g.block k (Nat.lt_of_lt_of_le hk h.size) hn).trans (h.block k hk hn)⟩
theorem Chg.drewN {b : Nat} {w w1 : World} (h : Chg b w w1) (q : Nat) : Chg b w (w1.drewN q) := ⟨h.os, h.tape, h.output, h.size, h.block⟩
theorem Chg.set {b : Nat} {w w1 : World} (h : Chg b w w1) (o : Nat) (v : Value) : Chg b w (w1.setCell ⟨b, o, none⟩ v) :=
  h.trans ⟨rfl, rfl, rfl, by simp [World.setCell], fun k _ hn => Below.heap_setCell _ _ _ _ (fun e => hn (by simp [e]))⟩
theorem Chg.alloc {b : Nat} {w w1 : World} (h : Chg b w w1) (o : Obj) : Chg b w (w1.alloc o) := h.trans (World.grownBy_alloc _ _ _)
theorem Chg.of_below {b : Nat} {w w1 : World} (h : Below w.heap.size w w1) : Chg b w w1 := ⟨h.os, h.tape, h.output, h.size, fun k hk _ => h.block k hk⟩
theorem Chg.below {b B : Nat} {w w1 w2 : World} (h : Below B w w1) (g : Chg b w1 w2) (hB : B ≤ b) (hs : B ≤ w1.heap.size) : Below B w w2 :=
  h.trans ⟨g.os, g.tape, g.output, g.size, fun k hk => g.block k (by omega) (fun e => by injection e; omega)⟩

/-- Is nothing more taken? -/
def doneB (s : ByteArray) (k : Nat) (e : Int) : Bool := decide (e ≠ 0 ∨ k = s.size)
theorem doneB_err {s : ByteArray} {k : Nat} {e : Int} (h : e ≠ 0) : doneB s k e = true := decide_eq_true (.inl h)
theorem doneB_ok (s : ByteArray) (k : Nat) : doneB s k 0 = decide (k = s.size) := by simp [doneB]
theorem doneB_no {s : ByteArray} {k : Nat} {e : Int} (hk : k ≤ s.size) (h : doneB s k e = false) : e = 0 ∧ k < s.size := by
  simp only [doneB, decide_eq_false_iff_not] at h; omega

theorem done_nil (w : World) : Calls Try.prog 35 #[.pointer none] w (RetN (.bool true) w) := by
  go_enter Try.func35, Try.ntmps35
  go_wp2
  go_quiet (fail)
  go_wp2
  go_ret
  exact ⟨rfl, _, rfl⟩
theorem done_any (b : Nat) (s : ByteArray) (k : Nat) (bad e : Int) (w : World) (h : Rdr w b s k bad e) : Calls Try.prog 35 #[.pointer (some ⟨b, 0, none⟩)] w (RetN (.bool (doneB s k e)) w) := by
  obtain ⟨c0, c1, c2, c3⟩ := h.cells
  clear h
  by_cases he : e = 0
  · subst he
    rw [doneB_ok]
    have e1 : decide (k = s.size) = ((k : Int) == (s.size : Int)) := by rw [Bool.eq_iff_iff]; simp; omega
    rw [e1]
    generalize hq : ((k : Int) == (s.size : Int)) = q
    go_enter Try.func35, Try.ntmps35
    go_wp2
    go_quiet (fail)
    go_wp2
    go_ret
    exact ⟨rfl, _, rfl⟩
  · have he' : (e != 0) = true := by simpa using he
    rw [doneB_err he]
    clear he
    go_enter Try.func35, Try.ntmps35
    go_wp2
    go_quiet (fail)
    go_wp2
    go_ret
    exact ⟨rfl, _, rfl⟩

theorem at_nil (w : World) : Calls Try.prog 28 #[.pointer none] w (RetQ (.int .i64 0) w) := by
  go_enter Try.func28, Try.ntmps28
  go_wp2
  go_ret
  exact ⟨rfl, rfl⟩
theorem at_any (b : Nat) (s : ByteArray) (k : Nat) (bad e : Int) (w : World) (h : Rdr w b s k bad e) : Calls Try.prog 28 #[.pointer (some ⟨b, 0, none⟩)] w (RetQ (.int .i64 k) w) := by
  obtain ⟨c0, c1, c2, c3⟩ := h.cells
  clear h
  go_enter Try.func28, Try.ntmps28
  go_wp2
  go_ret
  exact ⟨rfl, rfl⟩
theorem wrong_nil (w : World) : Calls Try.prog 12 #[.pointer none] w (RetQ (.tuple #[.int .i64 0, .int .i64 0]) w) := by
  go_enter Try.func12, Try.ntmps12
  go_wp2
  go_ret2
  exact ⟨rfl, rfl⟩
theorem wrong_any (b : Nat) (s : ByteArray) (k : Nat) (bad e : Int) (w : World) (h : Rdr w b s k bad e) : Calls Try.prog 12 #[.pointer (some ⟨b, 0, none⟩)] w (RetN (.tuple #[.int .i64 bad, .int .i64 e]) w) := by
  obtain ⟨c0, c1, c2, c3⟩ := h.cells
  clear h
  go_enter Try.func12, Try.ntmps12
  go_wp2
  go_quiet (fail)
  go_wp2
  go_ret2
  exact ⟨rfl, _, rfl⟩

/-- A call of a reader's: it hands back v; the reader is then (k', bad', e'); nothing else has turned. -/
def RetR (v : Value) (b : Nat) (s : ByteArray) (k : Nat) (bad e : Int) (w : World) (x : Ending) (w' : World) : Prop := x = .returned v ∧ Rdr w' b s k bad e ∧ Chg b w w'

theorem fail_nil (p q : Int) (w : World) : Calls Try.prog 18 #[.pointer none, .int .i64 p, .int .i64 q] w (RetQ (.tuple #[]) w) := by
  go_enter Try.func18, Try.ntmps18
  go_wp2
  go_end0
  exact ⟨rfl, rfl⟩
/-- Where, and what, is wrong behind Fail. -/
def failBad (bad e p q : Int) : Int := if e = 0 ∧ q ≠ 0 then p else bad
def failE (e q : Int) : Int := if e = 0 then q else e
theorem fail_any (b : Nat) (s : ByteArray) (k : Nat) (bad e p q : Int) (w : World) (h : Rdr w b s k bad e) :
    Calls Try.prog 18 #[.pointer (some ⟨b, 0, none⟩), .int .i64 p, .int .i64 q] w (RetR (.tuple #[]) b s k (failBad bad e p q) (failE e q) w) := by
  obtain ⟨c0, c1, c2, c3⟩ := h.cells
  have f2 := h.free 2
  have f3 := h.free 3
  have H := Lib.hid h
  clear h
  by_cases he : e = 0
  · subst he
    by_cases hq : q = 0
    · subst hq
      have e1 : failBad bad 0 p 0 = bad := by simp [failBad]
      have e2 : failE 0 0 = 0 := by simp [failE]
      rw [e1, e2]
      clear e1 e2
      go_enter Try.func18, Try.ntmps18
      go_wp2
      go_end0
      exact ⟨rfl, H.out, Chg.refl _ _⟩
    · have hq' : (q != 0) = true := by simpa using hq
      have e1 : failBad bad 0 p q = p := by simp [failBad, hq]
      have e2 : failE 0 q = q := by simp [failE]
      rw [e1, e2]
      clear hq e1 e2
      go_enter Try.func18, Try.ntmps18
      go_wp2
      go_end0
      exact ⟨rfl, (H.out.setBad p).setE q, ((Chg.refl _ _).set _ _).set _ _⟩
  · have he' : (e == 0) = false := by simpa using he
    have e1 : failBad bad e p q = bad := by simp [failBad, he]
    have e2 : failE e q = e := by simp [failE, he]
    rw [e1, e2]
    clear he e1 e2
    go_enter Try.func18, Try.ntmps18
    go_wp2
    go_end0
    exact ⟨rfl, H.out, Chg.refl _ _⟩

theorem peek_nil (w : World) : Calls Try.prog 20 #[.pointer none] w (RetN (.int .u8 0) w) := by
  go_enter Try.func20, Try.ntmps20
  go_wp2_with fail
  refine (done_nil _).mono ?_
  rintro e w1 ⟨rfl, q, rfl⟩
  go_wp2
  go_ret
  exact ⟨rfl, _, rfl⟩
theorem peek_done (b : Nat) (s : ByteArray) (k : Nat) (bad e : Int) (w : World) (h : Rdr w b s k bad e) (hd : doneB s k e = true) : Calls Try.prog 20 #[.pointer (some ⟨b, 0, none⟩)] w (RetN (.int .u8 0) w) := by
  have HD := Lib.hid (done_any b s k bad e w h)
  rw [hd] at HD
  clear h hd
  go_enter Try.func20, Try.ntmps20
  go_wp2_with fail
  refine HD.out.mono ?_
  rintro e w1 ⟨rfl, q, rfl⟩
  go_wp2
  go_ret
  exact ⟨rfl, _, rfl⟩
theorem peek_byte (b : Nat) (s : ByteArray) (k : Nat) (bad : Int) (w : World) (h : Rdr w b s k bad 0) (hk : k < s.size) : Calls Try.prog 20 #[.pointer (some ⟨b, 0, none⟩)] w (RetN (.int .u8 (s[k].toNat : Int)) w) := by
  have HD := Lib.hid (done_any b s k bad 0 w h)
  rw [doneB_ok, decide_eq_false (by omega)] at HD
  obtain ⟨c0, c1, c2, c3⟩ := h.cells
  have hk' : (k : Int) < (s.size : Int) := by omega
  clear h
  go_enter Try.func20, Try.ntmps20
  go_wp2_with fail
  refine HD.out.mono ?_
  rintro e w1 ⟨rfl, q, rfl⟩
  go_wp2
  go_quiet (fail)
  go_wp2
  go_ret
  exact ⟨rfl, _, World.drewN_drewN ..⟩
end Go.Proofs.Ythkleinjddkhoaa
