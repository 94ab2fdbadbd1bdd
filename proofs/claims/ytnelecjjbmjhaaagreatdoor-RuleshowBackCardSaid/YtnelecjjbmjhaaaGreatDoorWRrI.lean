/- The walk of package ruleread's reader's part: one part. -/
import Derived.Test.YtnelecjjbmjhaaaGreatDoorWRrG
import Derived.Test.YtnelecjjbmjhaaaGreatDoorWRrE2
import Derived.Test.YtnelecjjbmjhaaaGreatDoorWRrE4
import Derived.Test.YtnelecjjbmjhaaaGreatDoorWRrE5
/- The walk of package ruleread's reader's part. -/
namespace Go.Proofs.YtnelecjjbmjhaaaGreatDoor
open Go.RowKit
set_option linter.unusedSimpArgs false
set_option linter.unusedVariables false

/-- The map of the parts that are there. -/
def thF (T : List (List UInt8)) (y : List UInt8) : Option Value := if y ∈ T then some (.bool true) else none
theorem thF_cons (x : List UInt8) (T : List (List UInt8)) : (fun y => if y = x then some (Value.bool true) else thF T y) = thF (x :: T) := by
  funext y
  unfold thF
  by_cases h : y = x
  · rw [if_pos h, if_pos (by rw [h]; simp)]
  · rw [if_neg h]
    by_cases h2 : y ∈ T
    · rw [if_pos h2, if_pos (List.mem_cons_of_mem _ h2)]
    · rw [if_neg h2, if_neg (by simp [h, h2])]
/-- Nothing has turned but blocks b, C and D, and what is new. -/
structure Chg3 (b C D : Nat) (w w' : World) : Prop where
  os : w'.os = w.os
  tape : w'.tape = w.tape
  output : w'.output = w.output
  size : w.heap.size ≤ w'.heap.size
  block : ∀ k, k < w.heap.size → k ≠ b → k ≠ C → k ≠ D → w'.heap[k]? = w.heap[k]?
section
variable {w w' w'' : World} {b C D : Nat}
theorem Chg3.trans (h : Chg3 b C D w w') (g : Chg3 b C D w' w'') : Chg3 b C D w w'' :=
  ⟨g.os.trans h.os, g.tape.trans h.tape, g.output.trans h.output, Nat.le_trans h.size g.size, fun k hk hb hc hd => (g.block k (Nat.lt_of_lt_of_le hk h.size) hb hc hd).trans (h.block k hk hb hc hd)⟩
theorem Chg2.three (h : Chg2 b C w w') (D : Nat) : Chg3 b C D w w' := ⟨h.os, h.tape, h.output, h.size, fun k hk hb hc _ => h.block k hk hb hc⟩
theorem Chg.three (h : Chg b w w') (C D : Nat) : Chg3 b C D w w' := (h.two C).three D
theorem Chg.third (h : Chg D w w') (b C : Nat) : Chg3 b C D w w' := ⟨h.os, h.tape, h.output, h.size, fun k hk _ _ hd => h.block k hk (fun e => hd (by injection e))⟩
theorem MapAt.block {mb n : Nat} {f : List UInt8 → Option Value} (h : MapAt w mb n f) (e : w'.heap[mb]? = w.heap[mb]?) : MapAt w' mb n f := by
  obtain ⟨D, ⟨es, clock, hb, F⟩, h2⟩ := h
  exact ⟨D, ⟨es, clock, e.trans hb, F⟩, h2⟩
end
/-- The blocks are apart. -/
structure Sep (X P b R B mb tb : Nat) : Prop where
  hX : X ≠ b
  hXR : X ≠ R
  hXt : X ≠ tb
  hP : P ≠ b
  hPR : P ≠ R
  hPt : P ≠ tb
  hM : mb ≠ b
  hMR : mb ≠ R
  hMt : mb ≠ tb
  hT : tb ≠ b
  hTR : tb ≠ R
  hR : R ≠ b
  hbB : b < B
  hRB : R < B
  hTB : tb < B
/-- How a reader of parts stands, in memory. -/
structure RrSt (w : World) (X P b R B mb tb : Nat) (s : ByteArray) (S : RS) (n : Nat) : Prop where
  rd : RdP w b s S.σ
  ru : RuF w R B S.r
  kx : KBox w X b s
  kp : w.cell? ⟨P, 0, none⟩ = some (.pointer (some ⟨R, 0, none⟩))
  pm : MapAt w mb 11 (parF X P b s)
  tm : MapAt w tb n (thF S.T)
  hB : B ≤ w.heap.size
section
variable {w w' : World} {X P b R B mb tb n : Nat} {s : ByteArray} {σ τ : PS} {r r' : RuV} {T : List (List UInt8)}
theorem RrSt.alloc (h : RrSt w X P b R B mb tb s ⟨σ, r, T⟩ n) (o : Obj) : RrSt (w.alloc o) X P b R B mb tb s ⟨σ, r, T⟩ n :=
  ⟨h.rd.alloc o, h.ru.alloc o, h.kx.alloc o, cell_old h.kp, h.pm.alloc o, h.tm.alloc o, by have := h.hB; simp; omega⟩
theorem RrSt.chg (h : RrSt w X P b R B mb tb s ⟨σ, r, T⟩ n) (e : Sep X P b R B mb tb) (g : Chg b w w') (hd : RdP w' b s τ) : RrSt w' X P b R B mb tb s ⟨τ, r, T⟩ n :=
  ⟨hd, h.ru.chg g e.hR e.hbB, h.kx.chg g e.hX, g.cell e.hP h.kp, h.pm.chg g e.hM, h.tm.chg g e.hT, Nat.le_trans h.hB g.size⟩
theorem RrSt.inn (h : RrSt w X P b R B mb tb s ⟨σ, r, T⟩ n) (e : Sep X P b R B mb tb) : RrIn w X P b R B s := ⟨h.kx, h.kp, e.hX, e.hP, e.hR, e.hbB, e.hRB, h.hB⟩
end
theorem fnK_enters (k : Nat) (hk : k < 10) : ∀ args w, (callFunc (fnK k) args).run Tryz.prog w = .ok (.enter (fnK k) args) w := by
  obtain rfl | rfl | rfl | rfl | rfl | rfl | rfl | rfl | rfl | rfl : k = 0 ∨ k = 1 ∨ k = 2 ∨ k = 3 ∨ k = 4 ∨ k = 5 ∨ k = 6 ∨ k = 7 ∨ k = 8 ∨ k = 9 := by omega
  · exact enters_of Tryz.func74 (by kernel_rfl) rfl
  · exact enters_of Tryz.func77 (by kernel_rfl) rfl
  · exact enters_of Tryz.func79 (by kernel_rfl) rfl
  · exact enters_of Tryz.func80 (by kernel_rfl) rfl
  · exact enters_of Tryz.func81 (by kernel_rfl) rfl
  · exact enters_of Tryz.func83 (by kernel_rfl) rfl
  · exact enters_of Tryz.func87 (by kernel_rfl) rfl
  · exact enters_of Tryz.func90 (by kernel_rfl) rfl
  · exact enters_of Tryz.func91 (by kernel_rfl) rfl
  · exact enters_of Tryz.func92 (by kernel_rfl) rfl
theorem fnK_rr {w : World} {b X P R B : Nat} {s : ByteArray} {σ : PS} {r : RuV} (hs : s.size ≤ 1000000) (hin : RrIn w X P b R B s) (hru : RuF w R B r) (k : Nat) (hk : k < 10) (h : RdP w b s σ) :
    Calls Tryz.prog (fnK k) #[.pointer (some ⟨X, 0, none⟩), .pointer (some ⟨P, 0, none⟩)] w (RetRu b R B s (partK s.size k r σ).1 (partK s.size k r σ).2 w) := by
  obtain rfl | rfl | rfl | rfl | rfl | rfl | rfl | rfl | rfl | rfl : k = 0 ∨ k = 1 ∨ k = 2 ∨ k = 3 ∨ k = 4 ∨ k = 5 ∨ k = 6 ∨ k = 7 ∨ k = 8 ∨ k = 9 := by omega
  · exact part1_rr hs hin hru h
  · exact part2_rr hs hin hru h
  · exact part3_rr hs hin hru h
  · exact part4_rr hs hin hru h
  · exact part5_rr hs hin hru h
  · exact part6_rr hs hin hru h
  · exact part7_rr hs hin hru h
  · exact part8_rr hs hin hru h
  · exact part9_rr hs hin hru h
  · exact part10_rr hs hin hru h
theorem containsS_eq (x : List UInt8) : Lib.containsS (paLeft.map strB) (strB x) = decide (x ∈ paLeft) := by
  rw [Bool.eq_iff_iff, Lib.containsS_iff, decide_eq_true_eq, List.mem_map]
  constructor
  · rintro ⟨y, hy, e⟩
    rwa [← strB_inj' e]
  · intro h
    exact ⟨x, h, rfl⟩
theorem rcontains_any (B c : Nat) (x : List UInt8) (W : World) (hA : StrsAt W B paLeft) : Calls Tryz.prog 95 #[.slice (some ⟨B, 0, none⟩) 3 c, .string (strB x)] W (RetQ (.bool (decide (x ∈ paLeft))) W) := by
  have := Tryz.slices_Contains_string B 0 3 c (paLeft.map strB) (strB x) W (by decide) (by decide) (fun j hj => by
    have hj : j < paLeft.length := by simpa using hj
    rw [getD_strB paLeft j hj, Nat.zero_add]
    exact hA j hj)
  rw [List.take_of_length_le (by decide), containsS_eq] at this
  refine this.mono ?_
  rintro e w1 ⟨rfl, rfl⟩
  exact ⟨rfl, rfl⟩
/-- A part is read. -/
def RetPt (X P b R B mb tb : Nat) (s : ByteArray) (S : RS) (n : Nat) (w : World) (x : Ending) (w' : World) : Prop := x = .returned (.tuple #[]) ∧ (∃ n', n' ≤ n + 1 ∧ RrSt w' X P b R B mb tb s S n') ∧ Chg3 b R tb w w'
end Go.Proofs.YtnelecjjbmjhaaaGreatDoor

namespace Go.Proofs.YtnelecjjbmjhaaaGreatDoor
open Go.RowKit
set_option linter.unusedSimpArgs false
set_option linter.unusedVariables false

theorem word_len {w : World} {b : Nat} {s : ByteArray} {σ : PS} (h : RdP w b s σ) : (someP letterP σ).2.length ≤ s.size := by
  have := h.len
  unfold someP
  split
  · have := take_len letterP σ.l
    dsimp only
    omega
  · simp
theorem strs3_new (w : World) (t : TypeId) : StrsAt (w.alloc (.cells #[.string ⟨#[66, 89, 83, 69, 84, 80, 79, 83]⟩, .string ⟨#[66, 89, 89, 69, 65, 82, 68, 65, 89]⟩, .string ⟨#[66, 89, 87, 69, 69, 75, 78, 79]⟩] t)) w.heap.size paLeft := by
  intro j hj
  obtain rfl | rfl | rfl : j = 0 ∨ j = 1 ∨ j = 2 := by simp [paLeft] at hj; omega
  all_goals exact cell_new rfl rfl
theorem thF_get (T : List (List UInt8)) (x : List UInt8) : (thF T x).getD (.bool false) = .bool (decide (x ∈ T)) := by
  unfold thF
  by_cases h : x ∈ T
  · rw [if_pos h, decide_eq_true h]; rfl
  · rw [if_neg h, decide_eq_false h]; rfl
section
variable {w : World} {X P b R B mb tb n : Nat} {s : ByteArray} {σ : PS} {r : RuV} {T : List (List UInt8)} (hs : s.size ≤ 1000000) (sep : Sep X P b R B mb tb) (hn : n < 1000100)
include hs sep hn
set_option maxRecDepth 20000 in
set_option maxHeartbeats 8000000 in
theorem part_rr (st : RrSt w X P b R B mb tb s ⟨σ, r, T⟩ n) : Calls Tryz.prog 40 #[kV b s, .map (some mb), .map (some tb)] w (RetPt X P b R B mb tb s (partP s.size ⟨σ, r, T⟩) n w) := by
  have hs9 : s.size ≤ 9223372036854775807 := by omega
  have h := st.rd
  have hlt := h.lt
  have hne : ¬ w.heap.size = b := by omega
  have HSt := Lib.hid st
  have hxl := word_len h
  have HA := Lib.hid (fun W (h : RdP W b s σ) => at_ps h)
  have HW := Lib.hid (fun W (h : RdP W b s σ) => word_ps hs9 h)
  have HR : Hid (partP s.size ⟨σ, r, T⟩ = if (someP letterP σ).2 = [] then ⟨lackP s.size (someP letterP σ).1, r, T⟩ else if (someP letterP σ).2 ∈ paLeft then ⟨failP (atP s.size σ) 9 (someP letterP σ).1, r, T⟩ else if wIdx (someP letterP σ).2 paN < 0 then ⟨failP (atP s.size σ) 6 (someP letterP σ).1, r, T⟩ else if (someP letterP σ).2 ∈ T then ⟨failP (atP s.size σ) 10 (someP letterP σ).1, r, T⟩ else ⟨(partK s.size (wIdx (someP letterP σ).2 paN).toNat r (mustP s.size [61] (someP letterP σ).1).1).1, (partK s.size (wIdx (someP letterP σ).2 paN).toNat r (mustP s.size [61] (someP letterP σ).1).1).2, (someP letterP σ).2 :: T⟩) := rfl
  generalize partP s.size ⟨σ, r, T⟩ = Q at *
  generalize atP s.size σ = at0 at *
  generalize someP letterP σ = u at *
  obtain ⟨τ, x⟩ := u
  dsimp only at *
  have hxz : (strB x).size ≤ maxLen := by rw [strB_size]; simp only [maxLen]; omega
  have HLk : Hid (∀ W, MapAt W mb 11 (parF X P b s) → (Instr.lookup 71 (.map (some mb)) (.string (strB x)) true).run Tryz.prog W = .ok (.tuple #[(parF X P b s x).getD .nilFunc, .bool (parF X P b s x).isSome]) W) := fun W hm => by
    have := hm.look Tryz.underlying71 (zero_func W) hxz
    rwa [strB_data] at this
  have HTh : Hid (∀ W, MapAt W tb n (thF T) → (Instr.lookup 74 (.map (some tb)) (.string (strB x)) false).run Tryz.prog W = .ok (.bool (decide (x ∈ T))) W) := fun W hm => by
    have := hm.look1 Tryz.underlying74 (zero_bool W) hxz
    rwa [strB_data, thF_get] at this
  have HC := Lib.hid (fun W B c (hA : StrsAt W B paLeft) => rcontains_any B c x W hA)
  have HF := Lib.hid (fun q W (h : RdP W b s τ) => fail_ps at0 q h)
  have HSep := Lib.hid sep
  clear h st
  by_cases hx : x = []
  · subst hx
    have HE : Hid (Q = ⟨lackP s.size τ, r, T⟩) := by show _ = _; rw [HR.out, if_pos rfl]
    have HL := Lib.hid (fun W (h : RdP W b s τ) => lacks_rr hs h)
    have hp : parF X P b s [] = none := rfl
    rw [hp] at HLk
    have hem : (strB ([] : List UInt8)) = ⟨#[]⟩ := rfl
    rw [hem] at HW HLk
    clear HR HTh HC HF hp hem sep hxz
    go_enter Tryz.func40, Tryz.ntmps40
    go_wp2_with fail
    refine (HA.out _ (HSt.out.rd.alloc _)).mono ?_
    rintro e w0 ⟨rfl, rfl⟩
    go_wp2_with fail
    refine (HW.out _ (HSt.out.rd.alloc _)).mono ?_
    rintro e w1 ⟨rfl, h1, g1⟩
    have st1 := (HSt.out.alloc _).chg HSep.out g1 h1
    have kb1 : KBox w1 w.heap.size b s := (kbox_new w b s _).chg g1 hne
    obtain ⟨kc0, kc1⟩ := kb1.cells2
    have hz1 : w.heap.size < w1.heap.size := kb1.lt
    have lk := HLk.out w1 st1.pm
    go_wp2_with fail
    refine (HL.out _ h1).mono ?_
    rintro e w4 ⟨rfl, h4, g4⟩
    go_wp2
    first | go_end0 | (refine bodyPost_ret (results_none rfl _ _ _) rfl ?_)
    exact ⟨rfl, ⟨n, by omega, by rw [HE.out]; exact st1.chg HSep.out g4 h4⟩, ((((Chg.refl b w).alloc _).trans g1).trans g4).three R tb⟩
  · have hemp : (strB x).toList.isEmpty = false := by
      rw [ByteArray.toList_eq, strB_data]
      cases x with
      | nil => exact absurd rfl hx
      | cons a l => rfl
    rw [if_neg hx] at HR
    by_cases hl : x ∈ paLeft
    · have HE : Hid (Q = ⟨failP at0 9 τ, r, T⟩) := by show _ = _; rw [HR.out, if_pos hl]
      rw [decide_eq_true hl] at HC
      clear HR HTh sep hxz hx hl
      generalize strB x = Xs at *
      generalize (parF X P b s x).getD .nilFunc = fv at *
      generalize (parF X P b s x).isSome = ok at *
      go_enter Tryz.func40, Tryz.ntmps40
      go_wp2_with fail
      refine (HA.out _ (HSt.out.rd.alloc _)).mono ?_
      rintro e w0 ⟨rfl, rfl⟩
      go_wp2_with fail
      refine (HW.out _ (HSt.out.rd.alloc _)).mono ?_
      rintro e w1 ⟨rfl, h1, g1⟩
      have st1 := (HSt.out.alloc _).chg HSep.out g1 h1
      have kb1 : KBox w1 w.heap.size b s := (kbox_new w b s _).chg g1 hne
      obtain ⟨kc0, kc1⟩ := kb1.cells2
      have hz1 : w.heap.size < w1.heap.size := kb1.lt
      have lk := HLk.out w1 st1.pm
      go_wp2_with fail
      refine (HC.out _ _ _ (strs3_new w1 _)).mono ?_
      rintro e w2 ⟨rfl, hw2⟩
      have g2 : Chg b w1 w2 := by rw [← hw2]; exact (Chg.refl b w1).alloc _
      have h2 : RdP w2 b s τ := by rw [← hw2]; exact h1.alloc _
      have st2 := st1.chg HSep.out g2 h2
      have kb2 : KBox w2 w.heap.size b s := kb1.chg g2 hne
      clear hw2 kc0 kc1
      obtain ⟨kc0, kc1⟩ := kb2.cells2
      have hz2 : w.heap.size < w2.heap.size := kb2.lt
      go_wp2_with fail
      refine (HF.out 9 _ h2).mono ?_
      rintro e w4 ⟨rfl, h4, g4⟩
      go_wp2
      first | go_end0 | (refine bodyPost_ret (results_none rfl _ _ _) rfl ?_)
      exact ⟨rfl, ⟨n, by omega, by rw [HE.out]; exact st2.chg HSep.out g4 h4⟩, (((((Chg.refl b w).alloc _).trans g1).trans g2).trans g4).three R tb⟩
    · rw [if_neg hl] at HR
      rw [decide_eq_false hl] at HC
      by_cases hi : wIdx x paN < 0
      · have HE : Hid (Q = ⟨failP at0 6 τ, r, T⟩) := by show _ = _; rw [HR.out, if_pos hi]
        have hp : parF X P b s x = none := if_pos hi
        rw [hp] at HLk
        clear HR HTh sep hxz hx hl hi hp
        generalize strB x = Xs at *
        go_enter Tryz.func40, Tryz.ntmps40
        go_wp2_with fail
        refine (HA.out _ (HSt.out.rd.alloc _)).mono ?_
        rintro e w0 ⟨rfl, rfl⟩
        go_wp2_with fail
        refine (HW.out _ (HSt.out.rd.alloc _)).mono ?_
        rintro e w1 ⟨rfl, h1, g1⟩
        have st1 := (HSt.out.alloc _).chg HSep.out g1 h1
        have kb1 : KBox w1 w.heap.size b s := (kbox_new w b s _).chg g1 hne
        obtain ⟨kc0, kc1⟩ := kb1.cells2
        have hz1 : w.heap.size < w1.heap.size := kb1.lt
        have lk := HLk.out w1 st1.pm
        go_wp2_with fail
        refine (HC.out _ _ _ (strs3_new w1 _)).mono ?_
        rintro e w2 ⟨rfl, hw2⟩
        have g2 : Chg b w1 w2 := by rw [← hw2]; exact (Chg.refl b w1).alloc _
        have h2 : RdP w2 b s τ := by rw [← hw2]; exact h1.alloc _
        have st2 := st1.chg HSep.out g2 h2
        have kb2 : KBox w2 w.heap.size b s := kb1.chg g2 hne
        clear hw2 kc0 kc1
        obtain ⟨kc0, kc1⟩ := kb2.cells2
        have hz2 : w.heap.size < w2.heap.size := kb2.lt
        go_wp2_with fail
        refine (HF.out 6 _ h2).mono ?_
        rintro e w4 ⟨rfl, h4, g4⟩
        go_wp2
        first | go_end0 | (refine bodyPost_ret (results_none rfl _ _ _) rfl ?_)
        exact ⟨rfl, ⟨n, by omega, by rw [HE.out]; exact st2.chg HSep.out g4 h4⟩, (((((Chg.refl b w).alloc _).trans g1).trans g2).trans g4).three R tb⟩
      · rw [if_neg hi] at HR
        have hp : parF X P b s x = some (clV X P b s (wIdx x paN).toNat) := if_neg hi
        rw [hp] at HLk
        have hk11 := wIdx_lt x paN
        have hpl : (paN.length : Int) = 11 := rfl
        generalize hkk : (wIdx x paN).toNat = k at *
        have hk : k < 11 := by omega
        clear hi hp hk11 hpl hkk
        by_cases hm : x ∈ T
        · have HE : Hid (Q = ⟨failP at0 10 τ, r, T⟩) := by show _ = _; rw [HR.out, if_pos hm]
          rw [decide_eq_true hm] at HTh
          clear HR sep hxz hx hl hm
          generalize strB x = Xs at *
          simp only [Option.getD_some, Option.isSome_some] at HLk
          generalize clV X P b s k = fv at *
          go_enter Tryz.func40, Tryz.ntmps40
          go_wp2_with fail
          refine (HA.out _ (HSt.out.rd.alloc _)).mono ?_
          rintro e w0 ⟨rfl, rfl⟩
          go_wp2_with fail
          refine (HW.out _ (HSt.out.rd.alloc _)).mono ?_
          rintro e w1 ⟨rfl, h1, g1⟩
          have st1 := (HSt.out.alloc _).chg HSep.out g1 h1
          have kb1 : KBox w1 w.heap.size b s := (kbox_new w b s _).chg g1 hne
          obtain ⟨kc0, kc1⟩ := kb1.cells2
          have hz1 : w.heap.size < w1.heap.size := kb1.lt
          have lk := HLk.out w1 st1.pm
          go_wp2_with fail
          have lt2 := fun w2 (h : MapAt w2 tb n (thF T)) => HTh.out w2 h
          refine (HC.out _ _ _ (strs3_new w1 _)).mono ?_
          rintro e w2 ⟨rfl, hw2⟩
          have g2 : Chg b w1 w2 := by rw [← hw2]; exact (Chg.refl b w1).alloc _
          have h2 : RdP w2 b s τ := by rw [← hw2]; exact h1.alloc _
          have st2 := st1.chg HSep.out g2 h2
          have kb2 : KBox w2 w.heap.size b s := kb1.chg g2 hne
          clear hw2 kc0 kc1
          obtain ⟨kc0, kc1⟩ := kb2.cells2
          have hz2 : w.heap.size < w2.heap.size := kb2.lt
          have lt3 := lt2 w2 st2.tm
          clear lt2
          go_wp2_with fail
          refine (HF.out 10 _ h2).mono ?_
          rintro e w4 ⟨rfl, h4, g4⟩
          go_wp2
          first | go_end0 | (refine bodyPost_ret (results_none rfl _ _ _) rfl ?_)
          exact ⟨rfl, ⟨n, by omega, by rw [HE.out]; exact st2.chg HSep.out g4 h4⟩, (((((Chg.refl b w).alloc _).trans g1).trans g2).trans g4).three R tb⟩
        · rw [if_neg hm] at HR
          rw [decide_eq_false hm] at HTh
          have htl : tb < w.heap.size := HSt.out.tm.lt
          have HSto : Hid (∀ W, MapAt W tb n (thF T) → ∃ W', (Instr.mapUpdate 74 (.map (some tb)) (.string (strB x)) (.bool true)).run Tryz.prog W = .ok () W' ∧ MapAt W' tb (n + 1) (thF (x :: T)) ∧ Chg tb W W') := fun W hm => by
            obtain ⟨W', h1, h2, h3⟩ := hm.store Tryz.underlying74 (by simp only [maxLen]; omega) hxz (.bool true)
            rw [strB_data, thF_cons] at h2
            exact ⟨W', h1, h2, h3⟩
          have HMu := Lib.hid (fun W A n cp (h : RdP W b s τ) (hA : RdBytes W A n [61]) (hn : n ≤ 9223372036854775807) => must_ps (cp := cp) hs9 h hA hn)
          have HE : Hid (Q = ⟨(partK s.size k r (mustP s.size [61] τ).1).1, (partK s.size k r (mustP s.size [61] τ).1).2, x :: T⟩) := by show _ = _; rw [HR.out]
          generalize mustP s.size [61] τ = u at *
          obtain ⟨υ, c⟩ := u
          dsimp only at *
          simp only [Option.getD_some, Option.isSome_some] at HLk
          by_cases hk10 : k < 10
          · have HK := Lib.hid (fun W hin (hru : RuF W R B r) (h : RdP W b s υ) => fnK_rr (X := X) (P := P) hs hin hru k hk10 h)
            have eg := fnK_enters k hk10
            have hcl : clV X P b s k = .func (.func (fnK k)) #[] #[.pointer (some ⟨X, 0, none⟩), .pointer (some ⟨P, 0, none⟩)] := if_pos hk10
            rw [hcl] at HLk
            generalize partK s.size k r υ = pq at *
            clear HR sep hxz hx hl hm HF hcl
            generalize fnK k = fn at *
            generalize strB x = Xs at *
            go_enter Tryz.func40, Tryz.ntmps40
            go_wp2_with fail
            refine (HA.out _ (HSt.out.rd.alloc _)).mono ?_
            rintro e w0 ⟨rfl, rfl⟩
            go_wp2_with fail
            refine (HW.out _ (HSt.out.rd.alloc _)).mono ?_
            rintro e w1 ⟨rfl, h1, g1⟩
            have st1 := (HSt.out.alloc _).chg HSep.out g1 h1
            have kb1 : KBox w1 w.heap.size b s := (kbox_new w b s _).chg g1 hne
            obtain ⟨kc0, kc1⟩ := kb1.cells2
            have hz1 : w.heap.size < w1.heap.size := kb1.lt
            have lk := HLk.out w1 st1.pm
            go_wp2_with fail
            refine (HC.out _ _ _ (strs3_new w1 _)).mono ?_
            rintro e w2 ⟨rfl, hw2⟩
            have g2 : Chg b w1 w2 := by rw [← hw2]; exact (Chg.refl b w1).alloc _
            have h2 : RdP w2 b s τ := by rw [← hw2]; exact h1.alloc _
            have st2 := st1.chg HSep.out g2 h2
            have kb2 : KBox w2 w.heap.size b s := kb1.chg g2 hne
            clear hw2 kc0 kc1
            obtain ⟨kc0, kc1⟩ := kb2.cells2
            have hz2 : w.heap.size < w2.heap.size := kb2.lt
            have lt3 := HTh.out w2 st2.tm
            obtain ⟨w3, hst, tm3, c3⟩ := HSto.out w2 st2.tm
            have sp := HSep.out
            have st3 : RrSt w3 X P b R B mb tb s ⟨τ, r, x :: T⟩ (n + 1) := ⟨st2.rd.grown c3 (by simpa using sp.hT), st2.ru.chg c3 (Ne.symm sp.hTR) sp.hTB, st2.kx.grown c3 (by simpa using Ne.symm sp.hXt), c3.cell sp.hPt st2.kp, st2.pm.chg c3 sp.hMt, tm3, Nat.le_trans st2.hB c3.size⟩
            have kb3 : KBox w3 w.heap.size b s := kb2.grown c3 (by simp; omega)
            obtain ⟨kd0, kd1⟩ := kb3.cells2
            have hz3 : w.heap.size < w3.heap.size := kb3.lt
            go_wp2_with fail
            refine (HMu.out _ _ _ _ (st3.rd.alloc _) (rdB1 (c := 61) (cell_new rfl rfl)) (by decide)).mono ?_
            rintro e w4 ⟨rfl, h4, g4⟩
            have st4 := (st3.alloc _).chg sp g4 h4
            go_wp2_with fail
            refine (HK.out _ (st4.inn sp) st4.ru h4).mono ?_
            rintro e w5 ⟨rfl, h5, ru5, g5⟩
            go_wp2
            first | go_end0 | (refine bodyPost_ret (results_none rfl _ _ _) rfl ?_)
            refine ⟨rfl, ⟨n + 1, Nat.le_refl _, ?_⟩, (((((Chg.refl b w).alloc _).trans g1).trans g2).three R tb).trans ((c3.third b R).trans (((((Chg.refl b w3).alloc _).trans g4).three R tb).trans (g5.three tb)))⟩
            rw [HE.out]
            exact ⟨h5, ru5, ⟨g5.cell sp.hX sp.hXR st4.kx.1, g5.cell sp.hX sp.hXR st4.kx.2⟩, g5.cell sp.hP sp.hPR st4.kp, st4.pm.block (g5.block mb st4.pm.lt sp.hM sp.hMR), st4.tm.block (g5.block tb st4.tm.lt sp.hT sp.hTR), Nat.le_trans st4.hB g5.size⟩
          · obtain rfl : k = 10 := by omega
            have HK := Lib.hid (fun W (hin : RrIn W X P b R B s) (hru : RuF W R B r) (h : RdP W b s υ) => part11_rr hs hin hru h)
            have hcl : clV X P b s 10 = .func (.func 93) #[kV b s] #[] := if_neg (by decide)
            rw [hcl] at HLk
            generalize partK s.size 10 r υ = pq at *
            clear HR sep hxz hx hl hm HF hcl
            generalize strB x = Xs at *
            go_enter Tryz.func40, Tryz.ntmps40
            go_wp2_with fail
            refine (HA.out _ (HSt.out.rd.alloc _)).mono ?_
            rintro e w0 ⟨rfl, rfl⟩
            go_wp2_with fail
            refine (HW.out _ (HSt.out.rd.alloc _)).mono ?_
            rintro e w1 ⟨rfl, h1, g1⟩
            have st1 := (HSt.out.alloc _).chg HSep.out g1 h1
            have kb1 : KBox w1 w.heap.size b s := (kbox_new w b s _).chg g1 hne
            obtain ⟨kc0, kc1⟩ := kb1.cells2
            have hz1 : w.heap.size < w1.heap.size := kb1.lt
            have lk := HLk.out w1 st1.pm
            go_wp2_with fail
            refine (HC.out _ _ _ (strs3_new w1 _)).mono ?_
            rintro e w2 ⟨rfl, hw2⟩
            have g2 : Chg b w1 w2 := by rw [← hw2]; exact (Chg.refl b w1).alloc _
            have h2 : RdP w2 b s τ := by rw [← hw2]; exact h1.alloc _
            have st2 := st1.chg HSep.out g2 h2
            have kb2 : KBox w2 w.heap.size b s := kb1.chg g2 hne
            clear hw2 kc0 kc1
            obtain ⟨kc0, kc1⟩ := kb2.cells2
            have hz2 : w.heap.size < w2.heap.size := kb2.lt
            have lt3 := HTh.out w2 st2.tm
            obtain ⟨w3, hst, tm3, c3⟩ := HSto.out w2 st2.tm
            have sp := HSep.out
            have st3 : RrSt w3 X P b R B mb tb s ⟨τ, r, x :: T⟩ (n + 1) := ⟨st2.rd.grown c3 (by simpa using sp.hT), st2.ru.chg c3 (Ne.symm sp.hTR) sp.hTB, st2.kx.grown c3 (by simpa using Ne.symm sp.hXt), c3.cell sp.hPt st2.kp, st2.pm.chg c3 sp.hMt, tm3, Nat.le_trans st2.hB c3.size⟩
            have kb3 : KBox w3 w.heap.size b s := kb2.grown c3 (by simp; omega)
            obtain ⟨kd0, kd1⟩ := kb3.cells2
            have hz3 : w.heap.size < w3.heap.size := kb3.lt
            go_wp2_with fail
            refine (HMu.out _ _ _ _ (st3.rd.alloc _) (rdB1 (c := 61) (cell_new rfl rfl)) (by decide)).mono ?_
            rintro e w4 ⟨rfl, h4, g4⟩
            have st4 := (st3.alloc _).chg sp g4 h4
            go_wp2_with fail
            refine (HK.out _ (st4.inn sp) st4.ru h4).mono ?_
            rintro e w5 ⟨rfl, h5, ru5, g5⟩
            go_wp2
            first | go_end0 | (refine bodyPost_ret (results_none rfl _ _ _) rfl ?_)
            refine ⟨rfl, ⟨n + 1, Nat.le_refl _, ?_⟩, (((((Chg.refl b w).alloc _).trans g1).trans g2).three R tb).trans ((c3.third b R).trans (((((Chg.refl b w3).alloc _).trans g4).three R tb).trans (g5.three tb)))⟩
            rw [HE.out]
            exact ⟨h5, ru5, ⟨g5.cell sp.hX sp.hXR st4.kx.1, g5.cell sp.hX sp.hXR st4.kx.2⟩, g5.cell sp.hP sp.hPR st4.kp, st4.pm.block (g5.block mb st4.pm.lt sp.hM sp.hMR), st4.tm.block (g5.block tb st4.tm.lt sp.hT sp.hTR), Nat.le_trans st4.hB g5.size⟩
end
end Go.Proofs.YtnelecjjbmjhaaaGreatDoor
