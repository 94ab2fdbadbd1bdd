/- The walk of ruleread.Read: words for it. -/
import Derived.Test.YtnelecjjbmjhaaaGreatDoorWRrI
import Derived.Test.YtnelecjjbmjhaaaGreatDoorWRuG
namespace Go.Proofs.YtnelecjjbmjhaaaGreatDoor
open Go.RowKit
set_option linter.unusedSimpArgs false
set_option linter.unusedVariables false

theorem isp_dead {cs : List UInt8} {σ : PS} (h : σ.e ≠ 0) : isP cs σ = (σ, false) := by unfold isP; rw [if_neg h]
theorem parts_fuel (N : Nat) : ∀ (q : Nat) (S : RS), S.σ.l.length ≤ q → partsP N (q + 1) S = partsP N q S
  | 0, S, h => by
    have hl : S.σ.l = [] := List.length_eq_zero_iff.1 (by omega)
    have he : (partP N S).σ.e ≠ 0 := by
      intro he
      have := ((gos_part (N := N) S).z he).2.1
      apply this
      unfold someP
      split
      · rw [hl]; rfl
      · rfl
    unfold partsP
    rw [isp_dead he]
    rfl
  | q + 1, S, h => by
    have E : ∀ q, partsP N (q + 1) S = if (isP [59] (partP N S).σ).2 = true then partsP N q ⟨(isP [59] (partP N S).σ).1, (partP N S).r, (partP N S).T⟩ else ⟨(isP [59] (partP N S).σ).1, (partP N S).r, (partP N S).T⟩ := fun _ => rfl
    rw [E (q + 1), E q]
    by_cases hi : (isP [59] (partP N S).σ).2 = true
    · rw [if_pos hi, if_pos hi]
      have l1 := (is_len [59] (partP N S).σ).2 hi
      have l2 := (gos_part (N := N) S).len
      exact parts_fuel N q _ (by dsimp only; omega)
    · rw [if_neg hi, if_neg hi]
/-- What comes behind a part: more parts, or the end. -/
def goonP (N q : Nat) (S : RS) : RS := if (isP [59] S.σ).2 = true then partsP N q ⟨(isP [59] S.σ).1, S.r, S.T⟩ else ⟨(isP [59] S.σ).1, S.r, S.T⟩
theorem goon_start (N : Nat) (S : RS) (h : S.σ.l.length ≤ N) : partsP N N S = goonP N N (partP N S) ∧ (partP N S).σ.l.length ≤ N := by
  rw [← parts_fuel N N S h]
  exact ⟨rfl, Nat.le_trans (gos_part (N := N) S).len h⟩
theorem goon_step (N q : Nat) (S : RS) (h : S.σ.l.length ≤ q) (hi : (isP [59] S.σ).2 = true) : ∃ p, q = p + 1 ∧ goonP N q S = goonP N p (partP N ⟨(isP [59] S.σ).1, S.r, S.T⟩) ∧ (partP N ⟨(isP [59] S.σ).1, S.r, S.T⟩).σ.l.length ≤ p := by
  have l1 := (is_len [59] S.σ).2 hi
  obtain ⟨p, rfl⟩ : ∃ p, q = p + 1 := ⟨q - 1, by omega⟩
  refine ⟨p, rfl, ?_, ?_⟩
  · unfold goonP
    rw [if_pos hi]
    rfl
  · have := (gos_part (N := N) ⟨(isP [59] S.σ).1, S.r, S.T⟩).len
    dsimp only at this
    omega
/-- A rule's lists are no longer than may be. -/
def RuLen (r : RuV) : Prop := r.mo.length ≤ 64 ∧ r.da.length ≤ 64 ∧ r.wk.length ≤ 64 ∧ r.ho.length ≤ 64 ∧ r.mi.length ≤ 64 ∧ r.se.length ≤ 64
theorem rlist_len {α : Type} (N : Nat) (one : PS → PS × α) : ∀ (q : Nat) (σ : PS), (rlistP N one q σ).2.length ≤ q + 1
  | 0, σ => by unfold rlistP; simp
  | q + 1, σ => by
    unfold rlistP
    split
    · have := rlist_len N one q (isP [44] (one σ).1).1
      simp only [List.length_cons]
      omega
    · simp
theorem partK_len (N k : Nat) (r : RuV) (σ : PS) (h : RuLen r) : RuLen (partK N k r σ).2 := by
  obtain ⟨h1, h2, h3, h4, h5, h6⟩ := h
  unfold partK
  repeat' split
  · exact ⟨h1, h2, h3, h4, h5, h6⟩
  · exact ⟨h1, h2, h3, h4, h5, h6⟩
  · exact ⟨h1, h2, h3, h4, h5, h6⟩
  · exact ⟨h1, h2, h3, h4, h5, h6⟩
  · exact ⟨rlist_len N _ 63 σ, h2, h3, h4, h5, h6⟩
  · exact ⟨h1, rlist_len N _ 63 σ, h3, h4, h5, h6⟩
  · exact ⟨h1, h2, rlist_len N _ 63 σ, h4, h5, h6⟩
  · exact ⟨h1, h2, h3, rlist_len N _ 63 σ, h5, h6⟩
  · exact ⟨h1, h2, h3, h4, rlist_len N _ 63 σ, h6⟩
  · exact ⟨h1, h2, h3, h4, h5, rlist_len N _ 63 σ⟩
  · exact ⟨h1, h2, h3, h4, h5, h6⟩
theorem partP_len (N : Nat) (S : RS) (h : RuLen S.r) : RuLen (partP N S).r := by
  unfold partP
  dsimp only
  repeat' split
  all_goals first | exact h | exact partK_len _ _ _ _ h
theorem partsP_len (N : Nat) : ∀ (q : Nat) (S : RS), RuLen S.r → RuLen (partsP N q S).r
  | 0, S, h => partP_len N S h
  | q + 1, S, h => by
    unfold partsP
    split
    · exact partsP_len N q _ (partP_len N S h)
    · exact partP_len N S h
/-- A rule that is read: its cells, its lists. -/
theorem RuF.rd {w : World} {R B : Nat} {r : RuV} (h : RuF w R B r) (hl : RuLen r) : ∃ (A : Nat → Option Addr) (n c : Nat → Nat), RuAt w R r A n c ∧ RdRu w A n r ∧ (∀ k, n k ≤ 64) ∧ (∀ k, (k < 5 ∨ 10 < k) → n k = 0) ∧ ∀ k a, A k = some a → B ≤ a.block := by
  obtain ⟨g, ha, hg⟩ := h
  have i5 : OwnInts w B (g 5) r.mo := hg 5 (by decide)
  have i6 : OwnInts w B (g 6) r.da := hg 6 (by decide)
  have i7 : OwnNths w B (g 7) r.wk := hg 7 (by decide)
  have i8 : OwnInts w B (g 8) r.ho := hg 8 (by decide)
  have i9 : OwnInts w B (g 9) r.mi := hg 9 (by decide)
  have i10 : OwnInts w B (g 10) r.se := hg 10 (by decide)
  obtain ⟨A5, c5, e5, _, _, d5, b5⟩ := OwnInts.rd i5
  obtain ⟨A6, c6, e6, _, _, d6, b6⟩ := OwnInts.rd i6
  obtain ⟨A7, c7, e7, _, _, d7, b7⟩ := Rd.of_own (enc := nthEnc) (k := 2) (fun _ => rfl) i7 rfl
  obtain ⟨A8, c8, e8, _, _, d8, b8⟩ := OwnInts.rd i8
  obtain ⟨A9, c9, e9, _, _, d9, b9⟩ := OwnInts.rd i9
  obtain ⟨A10, c10, e10, _, _, d10, b10⟩ := OwnInts.rd i10
  obtain ⟨h1, h2, h3, h4, h5, h6⟩ := hl
  refine ⟨fun k => if k = 5 then A5 else if k = 6 then A6 else if k = 7 then A7 else if k = 8 then A8 else if k = 9 then A9 else if k = 10 then A10 else none, fun k => if k = 5 then r.mo.length else if k = 6 then r.da.length else if k = 7 then r.wk.length else if k = 8 then r.ho.length else if k = 9 then r.mi.length else if k = 10 then r.se.length else 0, fun k => if k = 5 then c5 else if k = 6 then c6 else if k = 7 then c7 else if k = 8 then c8 else if k = 9 then c9 else c10, ?_, ?_, ?_, ?_, ?_⟩
  · exact ⟨(ha.1 0 (by decide)).trans (congrArg some (hg 0 (by decide))), (ha.1 1 (by decide)).trans (congrArg some (hg 1 (by decide))), (ha.1 2 (by decide)).trans (congrArg some (hg 2 (by decide))), (ha.1 3 (by decide)).trans (congrArg some (hg 3 (by decide))), (ha.1 4 (by decide)).trans (congrArg some (hg 4 (by decide))), (ha.1 5 (by decide)).trans (congrArg some e5), (ha.1 6 (by decide)).trans (congrArg some e6), (ha.1 7 (by decide)).trans (congrArg some e7), (ha.1 8 (by decide)).trans (congrArg some e8), (ha.1 9 (by decide)).trans (congrArg some e9), (ha.1 10 (by decide)).trans (congrArg some e10)⟩
  · exact ⟨d5, d6, d7, d8, d9, d10⟩
  · intro k
    dsimp only
    repeat' split
    all_goals omega
  · intro k hk
    dsimp only
    rw [if_neg (by omega), if_neg (by omega), if_neg (by omega), if_neg (by omega), if_neg (by omega), if_neg (by omega)]
  · intro k a
    dsimp only
    repeat' split
    · exact b5 a
    · exact b6 a
    · exact b7 a
    · exact b8 a
    · exact b9 a
    · exact b10 a
    · intro h; cases h
/-- The cells of a rule as it begins. -/
def ruG (st iv un : Int) (j : Nat) : Value := if j = 0 then .int .i64 st else if j = 2 then .int .i64 iv else if j = 4 then .int .i64 un else if j < 5 then .int .i64 0 else .slice none 0 0
theorem ruArr_new (w : World) (iv un : Int) (t : TypeId) : Arr (w.alloc (.cells #[.int .i64 0, .int .i64 0, .int .i64 iv, .int .i64 0, .int .i64 un, .slice none 0 0, .slice none 0 0, .slice none 0 0, .slice none 0 0, .slice none 0 0, .slice none 0 0] t)) w.heap.size 11 (ruG 0 iv un) :=
  arr_new w #[.int .i64 0, .int .i64 0, .int .i64 iv, .int .i64 0, .int .i64 un, .slice none 0 0, .slice none 0 0, .slice none 0 0, .slice none 0 0, .slice none 0 0, .slice none 0 0] t (ruG 0 iv un) (by
    intro j hj
    obtain rfl | rfl | rfl | rfl | rfl | rfl | rfl | rfl | rfl | rfl | rfl := eleven (show j < 11 from by simpa using hj)
    all_goals rfl)
theorem ruF_of {w : World} {R B : Nat} {st : Int} (h : Arr w R 11 (ruG st 1 (-1))) : RuF w R B { ruOne with st := st } :=
  ⟨_, h, fun j hj => by
    obtain rfl | rfl | rfl | rfl | rfl | rfl | rfl | rfl | rfl | rfl | rfl := eleven hj
    · rfl
    · rfl
    · rfl
    · rfl
    · rfl
    all_goals exact World.ownsRow_nil _ _ _ _⟩
/-- How Read stands: the reader, its box, the rule's block, the result's block. -/
structure HdSt (w W : World) (b X R Z : Nat) (s : ByteArray) (σ : PS) (st : Int) : Prop where
  rd : RdP W b s σ
  kx : KBox W X b s
  ra : Arr W R 11 (ruG st 1 (-1))
  za : Arr W Z 11 (ruG 0 0 0)
  bl : Below w.heap.size w W
  hX : X ≠ b
  hR : R ≠ b
  hZ : Z ≠ b
  hXR : X ≠ R
  hXZ : X ≠ Z
  hRZ : R ≠ Z
  hb : w.heap.size ≤ b
  hRw : w.heap.size ≤ R
  hZw : w.heap.size ≤ Z
section
variable {w W W' : World} {b X R Z : Nat} {s : ByteArray} {σ τ : PS} {st : Int}
theorem HdSt.chg (h : HdSt w W b X R Z s σ st) (g : Chg b W W') (hd : RdP W' b s τ) : HdSt w W' b X R Z s τ st :=
  ⟨hd, h.kx.chg g h.hX, Arr.chg h.ra (by decide) g h.hR, Arr.chg h.za (by decide) g h.hZ, Chg.below h.bl g h.hb h.bl.size, h.hX, h.hR, h.hZ, h.hXR, h.hXZ, h.hRZ, h.hb, h.hRw, h.hZw⟩
theorem HdSt.alloc (h : HdSt w W b X R Z s σ st) (o : Obj) : HdSt w (W.alloc o) b X R Z s σ st := h.chg ((Chg.refl b W).alloc o) (h.rd.alloc o)
theorem HdSt.below (h : HdSt w W b X R Z s σ st) (hb : Below W.heap.size W W') : HdSt w W' b X R Z s σ st := h.chg (chg_of hb) (h.rd.below hb)
theorem HdSt.start (h : HdSt w W b X R Z s σ 0) (v : Int) : HdSt w (W.setCell ⟨R, 0, none⟩ (.int .i64 v)) b X R Z s σ v :=
  ⟨h.rd.set h.hR _, h.kx.set (Ne.symm h.hXR) _, Arr.set h.ra 0 (by decide) _ rfl (fun j hj hn => by unfold ruG; rw [if_neg hn, if_neg hn]), Arr.other h.za h.hRZ, Chg.below h.bl ((Chg.refl R W).set 0 _) h.hRw h.bl.size, h.hX, h.hR, h.hZ, h.hXR, h.hXZ, h.hRZ, h.hb, h.hRw, h.hZw⟩
end
theorem Rd.chgR {α : Type} {k : Nat} {enc : α → List Value} {w w' : World} {A : Option Addr} {n b : Nat} {l : List α} (h : Rd k enc w A n l) (hg : Chg b w w') (hb : ∀ a, A = some a → a.block ≠ b) : Rd k enc w' A n l :=
  ⟨h.1, fun hn => by
    obtain ⟨B, o, e, hB, hc⟩ := h.2 hn
    exact ⟨B, o, e, Nat.lt_of_lt_of_le hB hg.size, fun i x hx j v hj => hg.cell (hb _ e) (hc i x hx j v hj)⟩⟩
theorem RdRu.chgR {w w' : World} {A : Nat → Option Addr} {n : Nat → Nat} {r : RuV} {b B : Nat} (h : RdRu w A n r) (hg : Chg b w w') (hA : ∀ k a, A k = some a → B ≤ a.block) (hb : b < B) : RdRu w' A n r := by
  have hh : ∀ k a, A k = some a → a.block ≠ b := fun k a e => by have := hA k a e; omega
  exact ⟨h.mo.chgR hg (hh 5), h.da.chgR hg (hh 6), h.wk.chgR hg (hh 7), h.ho.chgR hg (hh 8), h.mi.chgR hg (hh 9), h.se.chgR hg (hh 10)⟩
theorem chg_set11 (w : World) (Z : Nat) (v0 v1 v2 v3 v4 v5 v6 v7 v8 v9 v10 : Value) : Chg Z w (((((((((((w.setCell ⟨Z, 0, none⟩ v0).setCell ⟨Z, 1, none⟩ v1).setCell ⟨Z, 2, none⟩ v2).setCell ⟨Z, 3, none⟩ v3).setCell ⟨Z, 4, none⟩ v4).setCell ⟨Z, 5, none⟩ v5).setCell ⟨Z, 6, none⟩ v6).setCell ⟨Z, 7, none⟩ v7).setCell ⟨Z, 8, none⟩ v8).setCell ⟨Z, 9, none⟩ v9).setCell ⟨Z, 10, none⟩ v10) :=
  ((((((((((((Chg.refl Z w).set 0 v0).set 1 v1).set 2 v2).set 3 v3).set 4 v4).set 5 v5).set 6 v6).set 7 v7).set 8 v8).set 9 v9).set 10 v10)
/-- How Read stands in the loop. -/
structure LpSt (w W : World) (X Z Xp P b R B mb tb : Nat) (s : ByteArray) (S : RS) (n : Nat) : Prop where
  rr : RrSt W Xp P b R B mb tb s S n
  kx : KBox W X b s
  za : Arr W Z 11 (ruG 0 0 0)
  bl : Below w.heap.size w W
/-- Its blocks are apart. -/
structure Sep2 (w : World) (X Z b R B tb : Nat) : Prop where
  hX : X ≠ b
  hXR : X ≠ R
  hXt : X ≠ tb
  hZ : Z ≠ b
  hZR : Z ≠ R
  hZt : Z ≠ tb
  hb : w.heap.size ≤ b
  hR : w.heap.size ≤ R
  ht : w.heap.size ≤ tb
  hZw : w.heap.size ≤ Z
  hZB : Z < B
section
variable {w W W' : World} {X Z Xp P b R B mb tb n n' : Nat} {s : ByteArray} {S S' : RS} {σ τ : PS} {r : RuV} {T : List (List UInt8)}
theorem LpSt.chg (h : LpSt w W X Z Xp P b R B mb tb s ⟨σ, r, T⟩ n) (e : Sep Xp P b R B mb tb) (f : Sep2 w X Z b R B tb) (g : Chg b W W') (hd : RdP W' b s τ) : LpSt w W' X Z Xp P b R B mb tb s ⟨τ, r, T⟩ n :=
  ⟨h.rr.chg e g hd, h.kx.chg g f.hX, Arr.chg h.za (by decide) g f.hZ, Chg.below h.bl g f.hb h.bl.size⟩
theorem LpSt.chg3 (h : LpSt w W X Z Xp P b R B mb tb s S n) (f : Sep2 w X Z b R B tb) (g : Chg3 b R tb W W') (hr : RrSt W' Xp P b R B mb tb s S' n') : LpSt w W' X Z Xp P b R B mb tb s S' n' := by
  have hx := h.kx.lt
  have hz := h.za.lt (by decide)
  have ex : W'.heap[X]? = W.heap[X]? := g.block X hx f.hX f.hXR f.hXt
  have ez : W'.heap[Z]? = W.heap[Z]? := g.block Z hz f.hZ f.hZR f.hZt
  refine ⟨hr, ⟨(World.cell?_of_block ex).trans h.kx.1, (World.cell?_of_block ex).trans h.kx.2⟩, ⟨fun j hj => (World.cell?_of_block ez).trans (h.za.1 j hj), fun j => ?_⟩, h.bl.trans ⟨g.os, g.tape, g.output, g.size, fun k hk => g.block k (by have := h.bl.size; omega) (by have := f.hb; omega) (by have := f.hR; omega) (by have := f.ht; omega)⟩⟩
  have := h.za.2 j
  unfold World.frozen? at this ⊢
  rw [ez]
  exact this
end
end Go.Proofs.YtnelecjjbmjhaaaGreatDoor
