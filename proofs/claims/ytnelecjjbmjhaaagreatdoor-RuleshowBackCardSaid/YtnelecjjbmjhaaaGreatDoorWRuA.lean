/- Slices of numbers and of weekdays: ContainsFunc, Contains; what is wrong with a rule's lists. -/
import Derived.Test.YtnelecjjbmjhaaaGreatDoorWMoB
import Derived.Shelf.Abstract
import Derived.Deep.LoopGhost
namespace Go.Proofs.YtnelecjjbmjhaaaGreatDoor
open Go.RowKit
set_option linter.unusedSimpArgs false
set_option linter.unusedVariables false

def nthEnc (p : Int × Int) : List Value := [.int .i64 p.1, .int .i64 p.2]
theorem nthEnc_len (p : Int × Int) : (nthEnc p).length = 2 := rfl
/-- A slice of weekdays reads as a list. -/
abbrev RdNths (w : World) (A : Option Addr) (n : Nat) (l : List (Int × Int)) : Prop := Rd 2 nthEnc w A n l
theorem RdNths.at_ {w : World} {A : Option Addr} {n : Nat} {l : List (Int × Int)} (h : RdNths w A n l) {i : Nat} (hi : i < n) :
    ∃ b o x, A = some ⟨b, o, none⟩ ∧ b < w.heap.size ∧ l[i]? = some x ∧ w.cell? ⟨b, o + i * 2, none⟩ = some (.int .i64 x.1) ∧ w.cell? ⟨b, o + i * 2 + 1, none⟩ = some (.int .i64 x.2) := by
  obtain ⟨b, o, x, e, hlt, hl, hc⟩ := h.gen hi
  exact ⟨b, o, x, e, hlt, hl, hc 0 _ rfl, hc 1 _ rfl⟩
section
variable {α : Type} {p : α → Bool} {l : List α} {k : Nat} {x : α}
/-- The place of the first of which p holds; -1. -/
def idxG (p : α → Bool) (l : List α) : Int := match l.findIdx? p with | some i => i | none => -1
theorem idxG_hit (H : ∀ j it, j < k → l[j]? = some it → p it = false) (hx : l[k]? = some x) (h : p x = true) : idxG p l = k := by
  have hk := (List.getElem?_eq_some_iff.1 hx)
  have : l.findIdx? p = some k := by
    rw [List.findIdx?_eq_some_iff_getElem]
    refine ⟨hk.1, by rw [hk.2]; exact h, fun j hj => by
      rw [Bool.not_eq_true]
      exact H j _ hj (List.getElem?_eq_getElem (Nat.lt_trans hj hk.1))⟩
  simp [idxG, this]
theorem idxG_miss (H : ∀ j it, j < l.length → l[j]? = some it → p it = false) : idxG p l = -1 := by
  have : l.findIdx? p = none := by
    rw [List.findIdx?_eq_none_iff]
    intro x hx
    obtain ⟨j, hj⟩ := List.getElem?_of_mem hx
    exact H j x (List.getElem?_eq_some_iff.1 hj).1 hj
  simp [idxG, this]
theorem idxG_any (p : α → Bool) (l : List α) : decide (0 ≤ idxG p l) = l.any p := by
  unfold idxG
  cases h : l.findIdx? p with
  | none =>
    rw [List.findIdx?_eq_none_iff] at h
    have : l.any p = false := by rw [List.any_eq_false]; intro x hx; simp [h x hx]
    simp [this]
  | some i =>
    rw [List.findIdx?_eq_some_iff_getElem] at h
    obtain ⟨hi, hp, _⟩ := h
    have : l.any p = true := by rw [List.any_eq_true]; exact ⟨_, List.getElem_mem hi, hp⟩
    simp [this]
theorem allG_succ {b : Bool} (H : ∀ j it, j < k → l[j]? = some it → p it = b) (hx : l[k]? = some x) (h : p x = b) : ∀ j it, j < k + 1 → l[j]? = some it → p it = b := by
  intro j it hj hl
  rcases Nat.lt_or_ge j k with h1 | h1
  · exact H j it h1 hl
  · obtain rfl : j = k := by omega
    rw [hx] at hl; cases hl
    exact h
end

/-- A predicate's contract. -/
def PredI (g : Nat) (lb : Array Value) (p : Int → Bool) (w : World) : Prop :=
  ∀ (W : World) (x : Int), Below w.heap.size w W → Calls Tryz.prog g (#[.int .i64 x] ++ lb) W (Ret (.bool (p x)) W)
set_option maxHeartbeats 400000 in
theorem indexFuncI_any (A : Option Addr) (n c : Nat) (l : List (Int)) (g : Nat) (lb : Array Value) (p : Int → Bool) (w : World) (hA : RdInts w A n l) (hn : n ≤ 9223372036854775807)
    (eg : ∀ args w, (callFunc g args).run Tryz.prog w = .ok (.enter g args) w) (hp : PredI g lb p w) :
    Calls Tryz.prog 212 #[.slice A n c, .func (.func g) #[] lb] w (Ret (.int .i64 (idxG p l)) w) := by
  have HL : Hid (l.length = n) := hA.1
  go_enter Tryz.func212, Tryz.ntmps212
  go_wp2
  go_loopw [8] (fun i wr => ∃ k : Nat, k ≤ n ∧ i = .int .i64 k ∧ Hid (∀ j x, j < k → l[j]? = some x → p x = false) ∧ Below w.heap.size w wr) (fun i _ => n - (intOf i).toNat)
  case atStart => exact ⟨0, Nat.zero_le _, rfl, fun j _ h => absurd h (Nat.not_lt_zero _), Below.refl _ _⟩
  case round =>
    obtain ⟨k, hk, rfl, H, hb⟩ := hrel
    have hsz := hb.size
    by_cases hlt : k < n
    · obtain ⟨b, o, x, rfl, hbl, hx, c0⟩ := RdInts.at_ (hA.below hb (Nat.le_refl _)) hlt
      have hlt' : (k : Int) < (n : Int) := by omega
      have Hx := Lib.hid hx
      clear hx
      have hcall := Lib.hid (hp wr x hb)
      clear hp
      cases hm : p x with
      | true =>
        have Hm := Lib.hid hm
        rw [hm] at hcall
        clear hm
        go_wp2_with (go_at_fn g; refine hcall.out.mono ?_; rintro e w1 ⟨rfl, hb1⟩)
        go_ret
        exact ⟨ret_int (idxG_hit H.out Hx.out Hm.out).symm, bthen hb hb1 hsz⟩
      | false =>
        have Hm := Lib.hid hm
        rw [hm] at hcall
        clear hm
        go_wp2_with (go_at_fn g; refine hcall.out.mono ?_; rintro e w1 ⟨rfl, hb1⟩)
        go_roundw
        case rel => exact ⟨k + 1, by omega, by go_num, allG_succ H.out Hx.out Hm.out, bthen hb hb1 hsz⟩
        case measure => simp [intOf]; omega
    · obtain rfl : k = n := by omega
      go_wp2
      go_ret
      exact ⟨ret_int (idxG_miss (HL.out ▸ H.out)).symm, hb⟩
theorem containsFuncI_any (A : Option Addr) (n c : Nat) (l : List (Int)) (g : Nat) (lb : Array Value) (p : Int → Bool) (w : World) (hA : RdInts w A n l) (hn : n ≤ 9223372036854775807)
    (eg : ∀ args w, (callFunc g args).run Tryz.prog w = .ok (.enter g args) w) (hp : PredI g lb p w) :
    Calls Tryz.prog 193 #[.slice A n c, .func (.func g) #[] lb] w (Ret (.bool (l.any p)) w) := by
  have HC := Lib.hid (indexFuncI_any A n c l g lb p w hA hn eg hp)
  rw [← idxG_any]
  generalize idxG p l = q at HC ⊢
  clear hp hA eg
  go_enter Tryz.func193, Tryz.ntmps193
  go_wp2_with (go_at_call 212; refine HC.out.mono ?_; rintro e w1 ⟨rfl, hb1⟩)
  go_ret
  exact ⟨rfl, hb1⟩

/-- A predicate's contract. -/
def PredN (g : Nat) (lb : Array Value) (p : Int × Int → Bool) (w : World) : Prop :=
  ∀ (W : World) (x : Int × Int), Below w.heap.size w W → Calls Tryz.prog g (#[.agg #[.int .i64 x.1, .int .i64 x.2]] ++ lb) W (Ret (.bool (p x)) W)
set_option maxHeartbeats 400000 in
theorem indexFuncN_any (A : Option Addr) (n c : Nat) (l : List (Int × Int)) (g : Nat) (lb : Array Value) (p : Int × Int → Bool) (w : World) (hA : RdNths w A n l) (hn : n ≤ 9223372036854775807)
    (eg : ∀ args w, (callFunc g args).run Tryz.prog w = .ok (.enter g args) w) (hp : PredN g lb p w) :
    Calls Tryz.prog 196 #[.slice A n c, .func (.func g) #[] lb] w (Ret (.int .i64 (idxG p l)) w) := by
  have HL : Hid (l.length = n) := hA.1
  go_enter Tryz.func196, Tryz.ntmps196
  go_wp2
  go_loopw [8] (fun i wr => ∃ k : Nat, k ≤ n ∧ i = .int .i64 k ∧ Hid (∀ j x, j < k → l[j]? = some x → p x = false) ∧ Below w.heap.size w wr) (fun i _ => n - (intOf i).toNat)
  case atStart => exact ⟨0, Nat.zero_le _, rfl, fun j _ h => absurd h (Nat.not_lt_zero _), Below.refl _ _⟩
  case round =>
    obtain ⟨k, hk, rfl, H, hb⟩ := hrel
    have hsz := hb.size
    by_cases hlt : k < n
    · obtain ⟨b, o, x, rfl, hbl, hx, c0, c1⟩ := RdNths.at_ (hA.below hb (Nat.le_refl _)) hlt
      have hlt' : (k : Int) < (n : Int) := by omega
      have Hx := Lib.hid hx
      clear hx
      have hcall := Lib.hid (hp wr x hb)
      clear hp
      cases hm : p x with
      | true =>
        have Hm := Lib.hid hm
        rw [hm] at hcall
        clear hm
        go_wp2_with (go_at_fn g; refine hcall.out.mono ?_; rintro e w1 ⟨rfl, hb1⟩)
        go_ret
        exact ⟨ret_int (idxG_hit H.out Hx.out Hm.out).symm, bthen hb hb1 hsz⟩
      | false =>
        have Hm := Lib.hid hm
        rw [hm] at hcall
        clear hm
        go_wp2_with (go_at_fn g; refine hcall.out.mono ?_; rintro e w1 ⟨rfl, hb1⟩)
        go_roundw
        case rel => exact ⟨k + 1, by omega, by go_num, allG_succ H.out Hx.out Hm.out, bthen hb hb1 hsz⟩
        case measure => simp [intOf]; omega
    · obtain rfl : k = n := by omega
      go_wp2
      go_ret
      exact ⟨ret_int (idxG_miss (HL.out ▸ H.out)).symm, hb⟩
theorem containsFuncN_any (A : Option Addr) (n c : Nat) (l : List (Int × Int)) (g : Nat) (lb : Array Value) (p : Int × Int → Bool) (w : World) (hA : RdNths w A n l) (hn : n ≤ 9223372036854775807)
    (eg : ∀ args w, (callFunc g args).run Tryz.prog w = .ok (.enter g args) w) (hp : PredN g lb p w) :
    Calls Tryz.prog 160 #[.slice A n c, .func (.func g) #[] lb] w (Ret (.bool (l.any p)) w) := by
  have HC := Lib.hid (indexFuncN_any A n c l g lb p w hA hn eg hp)
  rw [← idxG_any]
  generalize idxG p l = q at HC ⊢
  clear hp hA eg
  go_enter Tryz.func160, Tryz.ntmps160
  go_wp2_with (go_at_call 196; refine HC.out.mono ?_; rintro e w1 ⟨rfl, hb1⟩)
  go_ret
  exact ⟨rfl, hb1⟩

/-- Are numbers not all from lo to hi? -/
def outC (lo hi x : Int) : Bool := decide (x < lo ∨ hi < x)
theorem outside1_any (b b' : Nat) (lo hi : Int) (w : World) (h0 : w.cell? ⟨b, 0, none⟩ = some (.int .i64 lo)) (h1 : w.cell? ⟨b', 0, none⟩ = some (.int .i64 hi)) :
    PredI 194 #[.pointer (some ⟨b, 0, none⟩), .pointer (some ⟨b', 0, none⟩)] (outC lo hi) w := by
  intro W x hB
  have hb := World.block_lt_of_cell? _ _ h0
  have hb' := World.block_lt_of_cell? _ _ h1
  have g0 : W.cell? ⟨b, 0, none⟩ = some (.int .i64 lo) := (hB.cell (p := ⟨b, 0, none⟩) hb).trans h0
  have g1 : W.cell? ⟨b', 0, none⟩ = some (.int .i64 hi) := (hB.cell (p := ⟨b', 0, none⟩) hb').trans h1
  clear h0 h1 hB
  generalize hq : outC lo hi x = q
  have HQ := Lib.hid hq
  clear hq
  go_enter Tryz.func194, Tryz.ntmps194
  go_wp2
  all_goals go_ret
  all_goals (refine ⟨ret_bool ?_, by (repeat' (first | (with_reducible exact Below.refl _ _) | (with_reducible assumption) | (with_reducible refine below_drewN ?_ _) | (with_reducible refine Below.alloc ?_ ?_ _) | (with_reducible refine Below.drew ?_) | (with_reducible refine Below.setCell ?_ ?_ _) | go_size))⟩; rw [← HQ.out]; ((try simp only [beq_iff_eq, beq_eq_false_iff_ne, bne_iff_ne, ne_eq, outC, decide_eq_true_eq, decide_eq_false_iff_not, Bool.and_eq_true, Bool.or_eq_true, Bool.not_eq_true', Bool.not_eq_false', Bool.and_eq_false_iff, Bool.or_eq_false_iff] at *)
                                                                                                                                                                                                                                                                                                                                          rw [Bool.eq_iff_iff]
                                                                                                                                                                                                                                                                                                                                          (try simp only [outC, decide_eq_true_eq, beq_iff_eq, bne_iff_ne, ne_eq, Bool.and_eq_true, Bool.or_eq_true, Bool.not_eq_true', Bool.not_eq_false', beq_eq_false_iff_ne, decide_eq_false_iff_not, iff_true, true_iff, Bool.false_eq_true, false_iff, iff_false, reduceCtorEq])
                                                                                                                                                                                                                                                                                                                                          (first | done | omega)))
set_option maxHeartbeats 400000 in
theorem outside_any (A : Option Addr) (n c : Nat) (l : List Int) (lo hi : Int) (w : World) (hA : RdInts w A n l) (hn : n ≤ 9223372036854775807) :
    Calls Tryz.prog 156 #[.slice A n c, .int .i64 lo, .int .i64 hi] w (Ret (.bool (l.any (outC lo hi))) w) := by
  have HA := Lib.hid hA
  have eg : ∀ args w, (callFunc 194 args).run Tryz.prog w = .ok (.enter 194 args) w := enters_of Tryz.func194 (by kernel_rfl) rfl
  have HG := Lib.hid (fun W (hb : Below w.heap.size w W) b b' h0 h1 => containsFuncI_any A n c l 194 #[.pointer (some ⟨b, 0, none⟩), .pointer (some ⟨b', 0, none⟩)] (outC lo hi) W (HA.out.below hb (Nat.le_refl _)) hn eg (outside1_any b b' lo hi W h0 h1))
  clear hA eg
  generalize l.any (outC lo hi) = q at *
  go_enter Tryz.func156, Tryz.ntmps156
  go_wp2_with fail
  refine (HG.out _ ?_ _ _ ?_ ?_).mono ?_
  · (repeat' (first | (with_reducible exact Below.refl _ _) | (with_reducible assumption) | (with_reducible refine below_drewN ?_ _) | (with_reducible refine Below.alloc ?_ ?_ _) | (with_reducible refine Below.drew ?_) | (with_reducible refine Below.setCell ?_ ?_ _) | go_size))
  · simp [go_sem]
  · simp [go_sem]
  rintro e w1 ⟨rfl, hb1⟩
  go_wp2
  go_ret
  exact ⟨rfl, (((Below.refl _ w).alloc (Nat.le_refl _) _).alloc (by simp) _).trans (hb1.mono (by simp; omega))⟩
/-- What is wrong with a list of numbers. -/
def listE (l : List Int) (lo hi : Int) : Int := if 64 < l.length then 5 else if l.any (outC lo hi) = true then 4 else 0
set_option maxHeartbeats 400000 in
theorem rlist_any (A : Option Addr) (n c : Nat) (l : List Int) (lo hi : Int) (w : World) (hA : RdInts w A n l) (hn : n ≤ 9223372036854775807) :
    Calls Tryz.prog 116 #[.slice A n c, .int .i64 lo, .int .i64 hi] w (Ret (.int .i64 (listE l lo hi)) w) := by
  have HO := Lib.hid (outside_any A n c l lo hi w hA hn)
  have HL : Hid (l.length = n) := hA.1
  by_cases h : 64 < n
  · have HR : Hid (listE l lo hi = 5) := by show _ = _; unfold listE; rw [HL.out, if_pos h]
    have h' : (64 : Int) < (n : Int) := by omega
    clear h hA
    go_enter Tryz.func116, Tryz.ntmps116
    go_wp2
    go_ret
    exact ⟨ret_int HR.out.symm, Below.refl _ _⟩
  · have h' : ¬ (64 : Int) < (n : Int) := by omega
    cases hq : l.any (outC lo hi) with
    | true =>
      have HR : Hid (listE l lo hi = 4) := by show _ = _; unfold listE; rw [HL.out, if_neg h, if_pos hq]
      rw [hq] at HO
      clear h hA hq
      go_enter Tryz.func116, Tryz.ntmps116
      go_wp2_with fail
      refine HO.out.mono ?_
      rintro e w1 ⟨rfl, hb⟩
      go_wp2
      go_ret
      exact ⟨ret_int HR.out.symm, hb⟩
    | false =>
      have HR : Hid (listE l lo hi = 0) := by show _ = _; unfold listE; rw [HL.out, if_neg h, if_neg (by rw [hq]; decide)]
      rw [hq] at HO
      clear h hA hq
      go_enter Tryz.func116, Tryz.ntmps116
      go_wp2_with fail
      refine HO.out.mono ?_
      rintro e w1 ⟨rfl, hb⟩
      go_wp2
      go_ret
      exact ⟨ret_int HR.out.symm, hb⟩
/-- How many numbers of a list are below, above, and nought. -/
def cntB (l : List Int) : Nat := l.countP fun x => decide (x < 0)
def cntA (l : List Int) : Nat := l.countP fun x => decide (0 < x)
def cntZ (l : List Int) : Nat := l.countP fun x => decide (x = 0)
def mixC (l : List Int) : Bool := (decide (0 < cntB l) && decide (0 < cntA l + cntZ l)) || (decide (0 < cntA l) && decide (0 < cntZ l))
theorem cnt_le (l : List Int) : cntB l ≤ l.length ∧ cntA l ≤ l.length ∧ cntZ l ≤ l.length := ⟨List.countP_le_length, List.countP_le_length, List.countP_le_length⟩
theorem cnt_take {p : Int → Bool} {l : List Int} {k : Nat} {x : Int} (hx : l[k]? = some x) : (l.take (k + 1)).countP p = (l.take k).countP p + if p x then 1 else 0 := by
  rw [List.take_add_one, hx, List.countP_append]
  simp [List.countP_cons]
set_option maxHeartbeats 1000000 in
theorem mixed_any (A : Option Addr) (n c : Nat) (l : List Int) (w : World) (hA : RdInts w A n l) (hn : n ≤ 1000000) :
    Calls Tryz.prog 158 #[.slice A n c] w (Ret (.bool (mixC l)) w) := by
  have HL : Hid (l.length = n) := hA.1
  have HA := Lib.hid hA
  clear hA
  go_enter Tryz.func158, Tryz.ntmps158
  go_wp2
  go_loopw [3, 4, 5, 10] (fun b a z i wr => ∃ (k nb na nz : Nat), k ≤ n ∧ i = .int .i64 k ∧ b = .int .i64 nb ∧ a = .int .i64 na ∧ z = .int .i64 nz ∧ nb ≤ k ∧ na ≤ k ∧ nz ≤ k ∧ Hid (nb = cntB (l.take k) ∧ na = cntA (l.take k) ∧ nz = cntZ (l.take k)) ∧ Below w.heap.size w wr) (fun _ _ _ i _ => n - (intOf i).toNat)
  case atStart => exact ⟨0, 0, 0, 0, Nat.zero_le _, rfl, rfl, rfl, rfl, Nat.le_refl _, Nat.le_refl _, Nat.le_refl _, ⟨rfl, rfl, rfl⟩, Below.refl _ _⟩
  case round =>
    obtain ⟨k, nb, na, nz, hk, rfl, rfl, rfl, rfl, hb1, ha1, hz1, HC, hb⟩ := hrel
    have hsz := hb.size
    by_cases hlt : k < n
    · obtain ⟨b, o, x, rfl, hbl, hx, c0⟩ := RdInts.at_ (HA.out.below hb (Nat.le_refl _)) hlt
      have hlt' : (k : Int) < (n : Int) := by omega
      have HT : Hid (cntB (l.take (k + 1)) = nb + (if x < 0 then 1 else 0) ∧ cntA (l.take (k + 1)) = na + (if 0 < x then 1 else 0) ∧ cntZ (l.take (k + 1)) = nz + (if x = 0 then 1 else 0)) := by
        obtain ⟨h1, h2, h3⟩ := HC.out
        subst h1 h2 h3
        refine ⟨?_, ?_, ?_⟩
        · unfold cntB; rw [cnt_take hx]; simp
        · unfold cntA; rw [cnt_take hx]; simp
        · unfold cntZ; rw [cnt_take hx]; simp
      clear hx HC
      by_cases hx0 : x < 0
      · go_wp2
        go_roundw
        case rel =>
          refine ⟨k + 1, nb + 1, na, nz, by omega, by go_num, by go_num, rfl, rfl, by omega, by omega, by omega, ?_, hb⟩
          obtain ⟨h1, h2, h3⟩ := HT.out
          exact ⟨by rw [h1, if_pos hx0], by rw [h2, if_neg (by omega)]; omega, by rw [h3, if_neg (by omega)]; omega⟩
        case measure => simp [intOf]; omega
      · by_cases hx1 : 0 < x
        · go_wp2
          go_roundw
          case rel =>
            refine ⟨k + 1, nb, na + 1, nz, by omega, by go_num, rfl, by go_num, rfl, by omega, by omega, by omega, ?_, hb⟩
            obtain ⟨h1, h2, h3⟩ := HT.out
            exact ⟨by rw [h1, if_neg (by omega)]; omega, by rw [h2, if_pos hx1], by rw [h3, if_neg (by omega)]; omega⟩
          case measure => simp [intOf]; omega
        · go_wp2
          go_roundw
          case rel =>
            refine ⟨k + 1, nb, na, nz + 1, by omega, by go_num, rfl, rfl, by go_num, by omega, by omega, by omega, ?_, hb⟩
            obtain ⟨h1, h2, h3⟩ := HT.out
            exact ⟨by rw [h1, if_neg (by omega)]; omega, by rw [h2, if_neg (by omega)]; omega, by rw [h3, if_pos (by omega)]⟩
          case measure => simp [intOf]; omega
    · obtain rfl : k = n := by omega
      have HR : Hid (mixC l = ((decide (0 < nb) && decide (0 < na + nz)) || (decide (0 < na) && decide (0 < nz)))) := by
        obtain ⟨h1, h2, h3⟩ := HC.out
        rw [List.take_of_length_le (by rw [HL.out]; exact Nat.le_refl _)] at h1 h2 h3
        show _ = _
        unfold mixC
        rw [h1, h2, h3]
      generalize mixC l = q at *
      clear HC
      by_cases p1 : (0 : Int) < (nb : Int)
      all_goals by_cases p2 : (0 : Int) < (na : Int)
      all_goals by_cases p3 : (0 : Int) < (nz : Int)
      all_goals by_cases p4 : (0 : Int) < (na : Int) + (nz : Int)
      all_goals first
        | (exfalso; omega)
        | (go_wp2
           go_ret
           refine ⟨ret_bool ?_, hb⟩
           rw [HR.out, Bool.eq_iff_iff]
           simp
           omega)
        | (go_wp2
           go_ret
           refine ⟨ret_bool ?_, hb⟩
           rw [HR.out]
           simp
           omega)
end Go.Proofs.YtnelecjjbmjhaaaGreatDoor
