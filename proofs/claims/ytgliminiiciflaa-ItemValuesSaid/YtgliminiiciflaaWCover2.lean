/- The walks of cover.Len and cover.Of. -/
import Derived.Test.YtgliminiiciflaaWCover
import Derived.Test.YtgliminiiciflaaWMask
namespace Go.Proofs.Ytgliminiiciflaa
open Go.RowKit
set_option linter.unusedSimpArgs false
set_option linter.unusedVariables false

/-- How many numbers a piece has. -/
def LenP (p : Pc) : Prop := 0 ≤ p.f ∧ p.f ≤ p.t ∧ p.t ≤ 9999 ∧ 1 ≤ p.s ∧ (p.t - p.f) % p.s = 0
instance (p : Pc) : Decidable (LenP p) := by unfold LenP; infer_instance
def lenC (p : Pc) : Int := if LenP p then (p.t - p.f) / p.s + 1 else 0

set_option maxHeartbeats 1000000 in
theorem clen_any (p : Pc) (w : World) : Calls Try.prog 80 #[.agg #[.int .i64 p.f, .int .i64 p.t, .int .i64 p.s]] w (Ret (.int .i64 (lenC p)) w) := by
  by_cases h : LenP p
  · have HE : Hid (lenC p = (p.t - p.f) / p.s + 1) := if_pos h
    obtain ⟨h1, h2, h3, h4, h5⟩ := h
    have h5' : ((p.t - p.f) % p.s == 0) = true := by simpa using h5
    have h6 : ¬ p.f < 0 := by omega
    have h7 : ¬ p.t < p.f := by omega
    have h8 : ¬ 9999 < p.t := by omega
    have h9 : ¬ p.s < 1 := by omega
    have h10 : (p.s == 0) = false := by simp; omega
    have hd0 : 0 ≤ (p.t - p.f) / p.s := Int.ediv_nonneg (by omega) (by omega)
    have hd1 : (p.t - p.f) / p.s ≤ 9999 := by have := Int.ediv_le_self (a := p.t - p.f) p.s (by omega); omega
    clear h5
    go_enter Try.func80, Try.ntmps80
    go_wp2
    go_ret
    exact ⟨by rw [HE.out]; rfl, by (repeat' (first | (with_reducible exact Below.refl _ _) | (with_reducible assumption) | (with_reducible refine below_drewN ?_ _) | (with_reducible refine Below.alloc ?_ ?_ _) | (with_reducible refine Below.drew ?_) | (with_reducible refine Below.setCell ?_ ?_ _) | go_size))⟩
  · have HE : Hid (lenC p = 0) := if_neg h
    unfold LenP at h
    by_cases h6 : p.f < 0
    · go_enter Try.func80, Try.ntmps80
      go_wp2
      go_ret
      exact ⟨by rw [HE.out]; rfl, by (repeat' (first | (with_reducible exact Below.refl _ _) | (with_reducible assumption) | (with_reducible refine below_drewN ?_ _) | (with_reducible refine Below.alloc ?_ ?_ _) | (with_reducible refine Below.drew ?_) | (with_reducible refine Below.setCell ?_ ?_ _) | go_size))⟩
    by_cases h7 : p.t < p.f
    · go_enter Try.func80, Try.ntmps80
      go_wp2
      go_ret
      exact ⟨by rw [HE.out]; rfl, by (repeat' (first | (with_reducible exact Below.refl _ _) | (with_reducible assumption) | (with_reducible refine below_drewN ?_ _) | (with_reducible refine Below.alloc ?_ ?_ _) | (with_reducible refine Below.drew ?_) | (with_reducible refine Below.setCell ?_ ?_ _) | go_size))⟩
    by_cases h8 : 9999 < p.t
    · go_enter Try.func80, Try.ntmps80
      go_wp2
      go_ret
      exact ⟨by rw [HE.out]; rfl, by (repeat' (first | (with_reducible exact Below.refl _ _) | (with_reducible assumption) | (with_reducible refine below_drewN ?_ _) | (with_reducible refine Below.alloc ?_ ?_ _) | (with_reducible refine Below.drew ?_) | (with_reducible refine Below.setCell ?_ ?_ _) | go_size))⟩
    by_cases h9 : p.s < 1
    · go_enter Try.func80, Try.ntmps80
      go_wp2
      go_ret
      exact ⟨by rw [HE.out]; rfl, by (repeat' (first | (with_reducible exact Below.refl _ _) | (with_reducible assumption) | (with_reducible refine below_drewN ?_ _) | (with_reducible refine Below.alloc ?_ ?_ _) | (with_reducible refine Below.drew ?_) | (with_reducible refine Below.setCell ?_ ?_ _) | go_size))⟩
    have h5 : ((p.t - p.f) % p.s == 0) = false := by simp; omega
    have h10 : (p.s == 0) = false := by simp; omega
    have h11 : 0 ≤ p.f := by omega
    have h12 : p.f ≤ p.t := by omega
    have h13 : p.t ≤ 9999 := by omega
    have h14 : 1 ≤ p.s := by omega
    clear h
    go_enter Try.func80, Try.ntmps80
    go_wp2
    go_ret
    exact ⟨by rw [HE.out]; rfl, by (repeat' (first | (with_reducible exact Below.refl _ _) | (with_reducible assumption) | (with_reducible refine below_drewN ?_ _) | (with_reducible refine Below.alloc ?_ ?_ _) | (with_reducible refine Below.drew ?_) | (with_reducible refine Below.setCell ?_ ?_ _) | go_size))⟩

/-- The pieces of numbers that may be told so (k rounds at most). -/
def coverF : Nat → List Int → List Pc
  | 0, _ => []
  | _, [] => []
  | k + 1, a :: l => (pieceC a l).1 :: coverF k ((a :: l).drop (pieceC a l).2)
def coverL (l : List Int) : List Pc := if mayC none l then coverF l.length l else []
abbrev OwnPcs (w : World) (B : Nat) (v : Value) (l : List Pc) : Prop := w.ownsRow B 104 3 v l.length (l.flatMap pcEnc)
def RetOwnPcs (l : List Pc) (w : World) (e : Ending) (w' : World) : Prop := ∃ v, e = .returned v ∧ OwnPcs w' w.heap.size v l ∧ Below w.heap.size w w'
theorem info_pc : (Try.prog.info? 104).map (fun i => (i.zero, i.size, i.bytes)) = some (some (.agg #[.int .i64 0, .int .i64 0, .int .i64 0]), 3, 24) := by kernel_rfl
theorem mayC_in {l : List Int} : ∀ {p : Option Int}, mayC p l = true → InC l := by
  induction l with
  | nil => intro p _ j x h; simp at h
  | cons a l ih =>
    intro p h j x hx
    simp only [mayC, Bool.and_eq_true, decide_eq_true_eq] at h
    rcases j with _ | j
    · obtain rfl : a = x := by simpa using hx
      exact ⟨h.1.1, h.1.2.1⟩
    · exact ih h.2 j x (by simpa using hx)
theorem InC.drop {l : List Int} (h : InC l) (m : Nat) : InC (l.drop m) := fun j x hx => h (m + j) x (by rw [List.getElem?_drop] at hx; exact hx)
theorem RdInts.drop {w : World} {b o n : Nat} {l : List Int} (h : RdInts w (some ⟨b, o, none⟩) n l) (m : Nat) : RdInts w (some ⟨b, o + m, none⟩) (n - m) (l.drop m) :=
  ⟨by rw [List.length_drop, h.1], fun hn => by
    obtain ⟨b', o', e, hlt, hc⟩ := h.2 (by omega)
    cases e
    exact ⟨b, o + m, rfl, hlt, fun i x hi j v hj => by
      have := hc (m + i) x (by rw [List.getElem?_drop] at hi; exact hi) j v hj
      rwa [show o + (m + i) * 1 + j = o + m + i * 1 + j by omega] at this⟩⟩

set_option maxRecDepth 20000 in
set_option maxHeartbeats 2000000 in
theorem cover_any (A : Option Addr) (n c : Nat) (l : List Int) (w : World) (hA : RdInts w A n l) (hn : n ≤ 1000000) (hnc : n ≤ c) (hc : c ≤ maxLen) :
    Calls Try.prog 79 #[.slice A n c] w (RetOwnPcs (coverL l) w) := by
  have hL : l.length = n := hA.1
  obtain ⟨i0, hi0, hz0, hz1, hz2⟩ := info_parts info_pc
  have HI0 := Lib.hid hi0
  have HZ0 := Lib.hid hz0
  have HZ1 := Lib.hid hz1
  have HZ2 := Lib.hid hz2
  clear hi0 hz0 hz1 hz2
  have HMay := Lib.hid (fun W (hW : Below w.heap.size w W) => cmay_any A n c l W (hA.below hW (Nat.le_refl _)) (by omega))
  cases hm : mayC none l with
  | false =>
    have HE : Hid (coverL l = []) := by show _ = _; simp [coverL, hm]
    rw [hm] at HMay
    clear hm hA
    go_enter Try.func79, Try.ntmps79
    go_wp2_with fail
    refine (HMay.out _ (Below.refl _ _)).mono ?_
    rintro e w1 ⟨rfl, rfl⟩
    go_wp2
    go_ret
    exact ⟨_, rfl, by rw [HE.out]; exact World.ownsRow_nil _ _ _ _, Below.refl _ _⟩
  | true =>
    have HE : Hid (coverL l = coverF l.length l) := by show _ = _; simp [coverL, hm]
    have HIn := Lib.hid (mayC_in hm)
    have HA := Lib.hid hA
    have HL := Lib.hid hL
    rw [hm] at HMay
    clear hm hA hL
    go_enter Try.func79, Try.ntmps79
    go_wp2_with fail
    refine (HMay.out _ (Below.refl _ _)).mono ?_
    rintro e w1 ⟨rfl, rfl⟩
    clear HMay
    go_wp2
    go_loopw [0, 3] (fun ns v wr => ∃ (vo : Value) (A' : Option Addr) (n' c' q : Nat) (cur : List Int) (acc : List Pc), vo = v ∧ ns = .slice A' n' c' ∧ n' ≤ c' ∧ c' ≤ maxLen ∧ n' ≤ n ∧ acc.length + n' ≤ n ∧
      Hid (RdInts w A' n' cur ∧ InC cur ∧ n' ≤ q ∧ coverF l.length l = acc ++ coverF q cur) ∧ Hid (OwnPcs wr w.heap.size vo acc) ∧ Below w.heap.size w wr) (fun ns _ _ => match ns with | .slice _ k _ => k | _ => 0)
    case atStart => exact ⟨_, A, n, c, n, l, [], rfl, by go_num, hnc, hc, Nat.le_refl _, by simp, ⟨HA.out, HIn.out, Nat.le_refl _, by rw [HL.out]; rfl⟩, World.ownsRow_nil _ _ _ _, Below.refl _ _⟩
    case round =>
      obtain ⟨vo, A', n', c', q, cur, acc, rfl, rfl, hnc', hc', hn', hacc, HR, HO, hb⟩ := hrel
      have hsz := hb.size
      rcases cur with _ | ⟨a, cur⟩
      · obtain rfl : n' = 0 := HR.out.1.1.symm
        have HF : Hid (coverL l = acc) := by
          show _ = _
          rw [HE.out, HR.out.2.2.2]
          cases q <;> simp [coverF]
        clear HR
        go_wp2
        go_ret
        exact ⟨_, rfl, by rw [HF.out]; exact HO.out, hb⟩
      · have hn1 : cur.length + 1 = n' := HR.out.1.1
        obtain ⟨b, o, x0, rfl, hbl, -, -⟩ := RdInts.at_ HR.out.1 (i := 0) (by omega)
        have hn1' : (0 : Int) < (n' : Int) := by omega
        have HF := Lib.hid (fun W (hW : Below w.heap.size w W) => first_any (some ⟨b, o, none⟩) n' c' a cur W (HR.out.1.below hW (Nat.le_refl _)) (by omega) HR.out.2.1)
        obtain ⟨q, rfl⟩ : ∃ q', q = q' + 1 := ⟨q - 1, by have := HR.out.2.2.1; omega⟩
        have HC : Hid (coverF l.length l = (acc ++ [(pieceC a cur).1]) ++ coverF q ((a :: cur).drop (pieceC a cur).2)) := by
          show _ = _
          rw [HR.out.2.2.2, coverF]; simp
        have hpm : 1 ≤ (pieceC a cur).2 ∧ (pieceC a cur).2 ≤ n' := by
          have := runC_le (stepC a cur) a cur
          unfold pieceC manyC
          split <;> simp <;> omega
        have HQ : Hid (n' ≤ q + 1) := HR.out.2.2.1
        have HRD := Lib.hid (RdInts.drop HR.out.1 (pieceC a cur).2)
        have HID := Lib.hid (InC.drop HR.out.2.1 (pieceC a cur).2)
        clear HR
        obtain ⟨hm1, hm2⟩ := hpm
        generalize (pieceC a cur).2 = m at *
        generalize (pieceC a cur).1 = p at *
        have HX := Lib.hid (HF.out wr hb)
        have HN1 := Lib.hid hn1
        clear hn1
        go_wp2_with fail
        refine HX.out.mono ?_
        rintro e w1 ⟨rfl, hb1⟩
        have hb2 := bthen hb hb1 hsz
        have hsz2 := hb2.size
        have HO1 := Lib.hid (own_below HO.out hb1)
        clear HF HX HO
        have hi0 := HI0.out
        have hz0 := HZ0.out
        have hz1 := HZ1.out
        have hz2 := HZ2.out
        go_wp2_with (at_builtin; refine wpList_append_own _ rfl _ _ 101 rfl w.heap.size 104 i0 _ 3 24 Try.underlying101 hi0 hz0 hz1 hz2 rfl (by decide) _ acc.length _ rfl ((HO1.out.alloc _).alloc _) ⟨w1.heap.size + 1, 0, none⟩ 1 1 (pcEnc p) rfl rfl ?c1 ?c2 ?c3 ?c4 ?c5 ?c6)
        case c1 =>
          intro j u hu
          rcases j with _ | _ | _ | j
          · simp [pcEnc] at hu; subst hu
            exact cell_new (by simp) rfl
          · simp [pcEnc] at hu; subst hu
            exact cell_new (by simp) rfl
          · simp [pcEnc] at hu; subst hu
            exact cell_new (by simp) rfl
          · simp [pcEnc] at hu
        case c2 => intro u hu; simp [pcEnc] at hu; rcases hu with rfl | rfl | rfl <;> rfl
        case c3 => simp only [maxLen]; omega
        case c4 => omega
        case c5 => simp; omega
        case c6 =>
          intro v' w' hown hg _
          have HV : Hid (OwnPcs w' w.heap.size v' (acc ++ [p])) := by
            show World.ownsRow _ _ _ _ _ _ _
            rw [List.length_append, List.flatMap_append]
            simpa using hown
          have hbn : Below w.heap.size w w' := by
            refine ((hb2.alloc (by omega) _).alloc (by simp; omega) _).grown hg (by simp; omega) ?_
            intro b hb'
            rcases own_some HO1.out with ⟨h1, _⟩ | ⟨g, cap, h1, h2, h3⟩
            · rw [h1] at hb'; simp [Value.ownBlock] at hb'
            · rw [h1] at hb'; simp [Value.ownBlock] at hb'; subst hb'; exact h2
          clear hown hg hi0 hz0 hz1 hz2
          have HRD2 : Hid (RdInts w (if c' = m then some ⟨b, o, none⟩ else some ⟨b, o + m, none⟩) (n' - m) ((a :: cur).drop m)) := by
            show Rd _ _ _ _ _ _
            split
            · refine ⟨HRD.out.1, fun h => ?_⟩
              omega
            · exact HRD.out
          go_wp2
          go_roundw
          case rel => exact ⟨_, _, n' - m, c' - m, q, _, acc ++ [p], rfl, rfl, by omega, by omega, by omega, by simp; omega, ⟨HRD2.out, HID.out, by have := HQ.out; omega, HC.out⟩, HV.out, hbn⟩
          case measure => simp; omega
end Go.Proofs.Ytgliminiiciflaa
