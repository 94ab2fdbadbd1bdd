/- The walk of package ruleread's reader's part. -/
import Derived.Test.YtnelecjjbmjhaaaGreatWRrG
import Derived.Test.YtnelecjjbmjhaaaGreatWRrE2
import Derived.Test.YtnelecjjbmjhaaaGreatWRrE3
import Derived.Test.YtnelecjjbmjhaaaGreatWRrE4
import Derived.Test.YtnelecjjbmjhaaaGreatWRrE5
namespace Go.Proofs.YtnelecjjbmjhaaaGreat
open Go.RowKit
set_option linter.unusedSimpArgs false
set_option linter.unusedVariables false

/-- The map of the parts that are there. -/
def thF (T : List (List UInt8)) (y : List UInt8) : Option Value := if y ∈ T then some (.bool true) else none
theorem thF_cons (x : List UInt8) (T : List (List UInt8)) : (fun y => if y = x then some (Value.bool true) else thF T y) = thF (x :: T) := by
  funext y
  unfold thF
  by_cases h : y = x
  · rw [if_pos h, if_pos (by rw [h]; simp)]
  · rw [if_neg h]
    by_cases h2 : y ∈ T
    · rw [if_pos h2, if_pos (List.mem_cons_of_mem _ h2)]
    · rw [if_neg h2, if_neg (by simp [h, h2])]
/-- Nothing has turned but blocks b, C and D, and what is new. -/
structure Chg3 (b C D : Nat) (w w' : World) : Prop where
  os : w'.os = w.os
  tape : w'.tape = w.tape
  output : w'.output = w.output
  size : w.heap.size ≤ w'.heap.size
  block : ∀ k, k < w.heap.size → k ≠ b → k ≠ C → k ≠ D → w'.heap[k]? = w.heap[k]?
section
variable {w w' w'' : World} {b C D : Nat}
theorem Chg3.trans (h : Chg3 b C D w w') (g : Chg3 b C D w' w'') : Chg3 b C D w w'' :=
  ⟨g.os.trans h.os, g.tape.trans h.tape, g.output.trans h.output, Nat.le_trans h.size g.size, fun k hk hb hc hd => (g.block k (Nat.lt_of_lt_of_le hk h.size) hb hc hd).trans (h.block k hk hb hc hd)⟩
theorem Chg2.three (h : Chg2 b C w w') (D : Nat) : Chg3 b C D w w' := ⟨h.os, h.tape, h.output, h.size, fun k hk hb hc _ => h.block k hk hb hc⟩
theorem Chg.three (h : Chg b w w') (C D : Nat) : Chg3 b C D w w' := (h.two C).three D
theorem Chg.third (h : Chg D w w') (b C : Nat) : Chg3 b C D w w' := ⟨h.os, h.tape, h.output, h.size, fun k hk _ _ hd => h.block k hk (fun e => hd (by injection e))⟩
theorem MapAt.block {mb n : Nat} {f : List UInt8 → Option Value} (h : MapAt w mb n f) (e : w'.heap[mb]? = w.heap[mb]?) : MapAt w' mb n f := by
  obtain ⟨D, ⟨es, clock, hb, F⟩, h2⟩ := h
  exact ⟨D, ⟨es, clock, e.trans hb, F⟩, h2⟩
end
/-- The blocks are apart. -/
structure Sep (X P b R B mb tb : Nat) : Prop where
  hX : X ≠ b
  hXR : X ≠ R
  hXt : X ≠ tb
  hP : P ≠ b
  hPR : P ≠ R
  hPt : P ≠ tb
  hM : mb ≠ b
  hMR : mb ≠ R
  hMt : mb ≠ tb
  hT : tb ≠ b
  hTR : tb ≠ R
  hR : R ≠ b
  hbB : b < B
  hRB : R < B
  hTB : tb < B
/-- How a reader of parts stands, in memory. -/
structure RrSt (w : World) (X P b R B mb tb : Nat) (s : ByteArray) (S : RS) (n : Nat) : Prop where
  rd : RdP w b s S.σ
  ru : RuF w R B S.r
  kx : KBox w X b s
  kp : w.cell? ⟨P, 0, none⟩ = some (.pointer (some ⟨R, 0, none⟩))
  pm : MapAt w mb 11 (parF X P b s)
  tm : MapAt w tb n (thF S.T)
  hB : B ≤ w.heap.size
section
variable {w w' : World} {X P b R B mb tb n : Nat} {s : ByteArray} {σ τ : PS} {r r' : RuV} {T : List (List UInt8)}
theorem RrSt.alloc (h : RrSt w X P b R B mb tb s ⟨σ, r, T⟩ n) (o : Obj) : RrSt (w.alloc o) X P b R B mb tb s ⟨σ, r, T⟩ n :=
  ⟨h.rd.alloc o, h.ru.alloc o, h.kx.alloc o, cell_old h.kp, h.pm.alloc o, h.tm.alloc o, by have := h.hB; simp; omega⟩
theorem RrSt.chg (h : RrSt w X P b R B mb tb s ⟨σ, r, T⟩ n) (e : Sep X P b R B mb tb) (g : Chg b w w') (hd : RdP w' b s τ) : RrSt w' X P b R B mb tb s ⟨τ, r, T⟩ n :=
  ⟨hd, h.ru.chg g e.hR e.hbB, h.kx.chg g e.hX, g.cell e.hP h.kp, h.pm.chg g e.hM, h.tm.chg g e.hT, Nat.le_trans h.hB g.size⟩
theorem RrSt.inn (h : RrSt w X P b R B mb tb s ⟨σ, r, T⟩ n) (e : Sep X P b R B mb tb) : RrIn w X P b R B s := ⟨h.kx, h.kp, e.hX, e.hP, e.hR, e.hbB, e.hRB, h.hB⟩
end
theorem fnK_enters (k : Nat) (hk : k < 10) : ∀ args w, (callFunc (fnK k) args).run Tryz.prog w = .ok (.enter (fnK k) args) w := by
  obtain rfl | rfl | rfl | rfl | rfl | rfl | rfl | rfl | rfl | rfl : k = 0 ∨ k = 1 ∨ k = 2 ∨ k = 3 ∨ k = 4 ∨ k = 5 ∨ k = 6 ∨ k = 7 ∨ k = 8 ∨ k = 9 := by omega
  · exact enters_of Tryz.func31 (by kernel_rfl) rfl
  · exact enters_of Tryz.func34 (by kernel_rfl) rfl
  · exact enters_of Tryz.func36 (by kernel_rfl) rfl
  · exact enters_of Tryz.func37 (by kernel_rfl) rfl
  · exact enters_of Tryz.func38 (by kernel_rfl) rfl
  · exact enters_of Tryz.func40 (by kernel_rfl) rfl
  · exact enters_of Tryz.func44 (by kernel_rfl) rfl
  · exact enters_of Tryz.func47 (by kernel_rfl) rfl
  · exact enters_of Tryz.func48 (by kernel_rfl) rfl
  · exact enters_of Tryz.func49 (by kernel_rfl) rfl
theorem fnK_rr {w : World} {b X P R B : Nat} {s : ByteArray} {σ : PS} {r : RuV} (hs : s.size ≤ 1000000) (hin : RrIn w X P b R B s) (hru : RuF w R B r) (k : Nat) (hk : k < 10) (h : RdP w b s σ) :
    Calls Tryz.prog (fnK k) #[.pointer (some ⟨X, 0, none⟩), .pointer (some ⟨P, 0, none⟩)] w (RetRu b R B s (partK s.size k r σ).1 (partK s.size k r σ).2 w) := by
  obtain rfl | rfl | rfl | rfl | rfl | rfl | rfl | rfl | rfl | rfl : k = 0 ∨ k = 1 ∨ k = 2 ∨ k = 3 ∨ k = 4 ∨ k = 5 ∨ k = 6 ∨ k = 7 ∨ k = 8 ∨ k = 9 := by omega
  · exact part1_rr hs hin hru h
  · exact part2_rr hs hin hru h
  · exact part3_rr hs hin hru h
  · exact part4_rr hs hin hru h
  · exact part5_rr hs hin hru h
  · exact part6_rr hs hin hru h
  · exact part7_rr hs hin hru h
  · exact part8_rr hs hin hru h
  · exact part9_rr hs hin hru h
  · exact part10_rr hs hin hru h
theorem containsS_eq (x : List UInt8) : Lib.containsS (paLeft.map strB) (strB x) = decide (x ∈ paLeft) := by
  rw [Bool.eq_iff_iff, Lib.containsS_iff, decide_eq_true_eq, List.mem_map]
  constructor
  · rintro ⟨y, hy, e⟩
    rwa [← strB_inj' e]
  · intro h
    exact ⟨x, h, rfl⟩
theorem rcontains_any (B c : Nat) (x : List UInt8) (W : World) (hA : StrsAt W B paLeft) : Calls Tryz.prog 52 #[.slice (some ⟨B, 0, none⟩) 3 c, .string (strB x)] W (RetQ (.bool (decide (x ∈ paLeft))) W) := by
  have := Tryz.slices_Contains_string B 0 3 c (paLeft.map strB) (strB x) W (by decide) (by decide) (fun j hj => by
    have hj : j < paLeft.length := by simpa using hj
    rw [getD_strB paLeft j hj, Nat.zero_add]
    exact hA j hj)
  rw [List.take_of_length_le (by decide), containsS_eq] at this
  refine this.mono ?_
  rintro e w1 ⟨rfl, rfl⟩
  exact ⟨rfl, rfl⟩
/-- A part is read. -/
def RetPt (X P b R B mb tb : Nat) (s : ByteArray) (S : RS) (n : Nat) (w : World) (x : Ending) (w' : World) : Prop := x = .returned (.tuple #[]) ∧ (∃ n', n' ≤ n + 1 ∧ RrSt w' X P b R B mb tb s S n') ∧ Chg3 b R tb w w'
end Go.Proofs.YtnelecjjbmjhaaaGreat
