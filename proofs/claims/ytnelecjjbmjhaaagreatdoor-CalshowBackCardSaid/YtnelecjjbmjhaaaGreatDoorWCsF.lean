/- The walks of calshow.Show and feriaref30.Show. -/
import Derived.Test.YtnelecjjbmjhaaaGreatDoorWCsE
import Derived.Test.YtnelecjjbmjhaaaGreatDoorRKBack
namespace Go.Proofs.YtnelecjjbmjhaaaGreatDoor
open Go.RowKit
set_option linter.unusedSimpArgs false
set_option linter.unusedVariables false

/-- The sign behind a field. -/
def sgnC (bk : Bool) (k : Nat) : List UInt8 := if k = 0 then [45] else if k = 1 then (if bk then [126] else [45]) else if k = 2 then [32] else if k = 3 then [58] else if k = 4 then [58] else []
/-- The text of an event, as far as a field. -/
def evPre (c : CalV) (bk : Bool) : Nat → List UInt8
  | 0 => if c.week = [] then [] else cfT 0 c.week ++ [32]
  | k + 1 => evPre c bk k ++ (cfT ((k + 1 : Nat) : Int) (kget c (k + 1)) ++ sgnC bk k)
theorem evPre_all (c : CalV) : evPre c c.back 6 = evT c := by
  unfold evT dateT timeT
  simp only [evPre, sgnC]
  have k1 : kget c 1 = c.year := rfl
  have k2 : kget c 2 = c.month := rfl
  have k3 : kget c 3 = c.day := rfl
  have k4 : kget c 4 = c.hour := rfl
  have k5 : kget c 5 = c.minute := rfl
  have k6 : kget c 6 = c.second := rfl
  simp only [k1, k2, k3, k4, k5, k6]
  cases c.back <;> simp
theorem kget_len (c : CalV) {A : Nat → Option Addr} {n : Nat → Nat} {w : World} (h : RdEv w A n c) (hn : ∀ j, j < 8 → j ≠ 4 → n j ≤ 1000) {k : Nat} (hk : k < 7) : (kget c k).length ≤ 1000 := by
  rw [(h.slot hk).1]; exact hn _ (kslot_ok hk).1 (kslot_ok hk).2
theorem cfT_le {f : Int} {l : List It} (h : ∀ it ∈ l, it.wf) (hl : l.length ≤ 1000) : (cfT f l).length ≤ 101000 := by
  have := cfT_len (f := f) h; omega
theorem sgnC_len (bk : Bool) (k : Nat) : (sgnC bk k).length ≤ 1 := by unfold sgnC; repeat' split
                                                                      all_goals simp
theorem evPre_len {c : CalV} {bk : Bool} (hl : ∀ k, k < 7 → (kget c k).length ≤ 1000) (hwf : ∀ k, k < 7 → ∀ it ∈ kget c k, it.wf) : ∀ k, k ≤ 6 → (evPre c bk k).length ≤ 101001 * (k + 1)
  | 0, _ => by
    have h0 := cfT_le (f := 0) (hwf 0 (by decide)) (hl 0 (by decide))
    have e : kget c 0 = c.week := rfl
    rw [e] at h0
    unfold evPre
    split
    · simp
    · simp; omega
  | k + 1, hk => by
    have ih := evPre_len (bk := bk) hl hwf k (by omega)
    have h0 := cfT_le (f := ((k + 1 : Nat) : Int)) (hwf (k + 1) (by omega)) (hl (k + 1) (by omega))
    have h1 := sgnC_len bk k
    unfold evPre
    simp only [List.length_append]
    omega
/-- The text of a week's days is not empty, where there are days. -/
theorem cfT0_ne {l : List It} (h : kfault 0 l = 0) (hn : l ≠ []) : cfT 0 l ≠ [] := by
  obtain ⟨_, _, hi⟩ := kfault_parts h
  cases l with
  | nil => exact absurd rfl hn
  | cons i l =>
    obtain ⟨q1, q2⟩ := hi i (by simp)
    obtain ⟨k, x, y, s⟩ := i
    unfold kOdd at q1
    rw [if_pos rfl, decide_eq_false_iff_not] at q1
    obtain ⟨_, _, _, q2⟩ := q2
    dsimp only at q1 q2
    have key : 1 ≤ x → x ≤ 7 → numT 0 x ≠ [] := by
      intro h1 h7
      obtain ⟨k, hk, rfl⟩ : ∃ k : Nat, k < 7 ∧ x = (k : Int) + 1 := ⟨x.toNat - 1, by omega, by omega⟩
      have e : numT 0 ((k : Int) + 1) = wkNm k := by show wdT _ = _; exact wdT_at hk
      rw [e]; exact (wkOf_nm hk).2
    rw [cfT_cons]
    rcases q2 with ⟨rfl, _⟩ | ⟨rfl, p1, p2, rfl, rfl⟩ | ⟨rfl, p1, p2, p3, p4, p5, p6⟩ | ⟨rfl, _⟩
    · exact absurd (.inl rfl) q1
    · have e : citT 0 ⟨1, x, 0, 0⟩ = numT 0 x := rfl
      rw [e]; simp [key p1 p2]
    · have e : citT 0 ⟨2, x, y, s⟩ = numT 0 x ++ [46, 46] ++ numT 0 y ++ (if s = 1 then [] else 47 :: Lib.itoa s) := rfl
      rw [e]; simp
    · exact absurd (.inr (.inl rfl)) q1
theorem rets2_eq {S T : ByteArray} {e : Int} (h : S = T) : Ending.returned (.tuple #[.string S, .int .i64 e]) = .returned (.tuple #[.string T, .int .i64 e]) := by rw [h]
def sgnV (bk : Bool) (k : Nat) : Value := .string (strB (sgnC bk k))

set_option maxRecDepth 20000 in
set_option maxHeartbeats 2000000 in
theorem cshow30_bad (c : CalV) (A : Nat → Option Addr) (n m : Nat → Nat) (bk : Bool) (w : World) (hA : RdEv w A n c) (hn : ∀ j, j < 8 → j ≠ 4 → n j ≤ 9223372036854775807) (hc : (kchk c).2 ≠ 0) :
    Calls Tryz.prog 18 #[evV A n m bk] w (Ret (.tuple #[.string ⟨#[]⟩, .int .i64 (kchk c).2]) w) := by
  have HC := Lib.hid (fun W (hb : Below w.heap.size w W) => kcheck_any A n m c bk W (hA.below hb) (fun k hk => hn _ (kslot_ok hk).1 (kslot_ok hk).2))
  generalize (kchk c).1 = q1 at HC
  generalize (kchk c).2 = q2 at HC hc ⊢
  have hc' : (q2 != 0) = true := by simpa using hc
  clear hc hA hn
  unfold evV at *
  go_enter Tryz.func18, Tryz.ntmps18
  go_wp2_with fail
  refine (HC.out _ (by (repeat' (first | (with_reducible exact Below.refl _ _) | (with_reducible assumption) | (with_reducible refine below_drewN ?_ _) | (with_reducible refine Below.alloc ?_ ?_ _) | (with_reducible refine Below.drew ?_) | (with_reducible refine Below.setCell ?_ ?_ _) | go_size)))).mono ?_
  rintro e w1 ⟨rfl, hb1⟩
  go_wp2
  go_ret2
  exact ⟨rfl, ((Below.refl _ w).alloc (Nat.le_refl _) _).trans (hb1.mono (by simp))⟩

set_option maxRecDepth 20000 in
set_option maxHeartbeats 4000000 in
theorem cshow30_ok (c : CalV) (A : Nat → Option Addr) (n m : Nat → Nat) (w : World) (hA : RdEv w A n c) (hn : ∀ j, j < 8 → j ≠ 4 → n j ≤ 1000) (hwf : ∀ j, j < 7 → ∀ it ∈ kget c j, it.wf) (hw : Pow w) (hc : kchk c = (7, 0)) :
    Calls Tryz.prog 18 #[evV A n m c.back] w (Ret (.tuple #[.string (strB (evT c)), .int .i64 0]) w) := by
  have HC := Lib.hid (fun W (hb : Below w.heap.size w W) => kcheck_any A n m c c.back W (hA.below hb) (fun k hk => Nat.le_trans (hn _ (kslot_ok hk).1 (kslot_ok hk).2) (by decide)))
  rw [hc] at HC
  have HF := Lib.hid (fun (k : Nat) (hk : k < 7) W (hb : Below w.heap.size w W) => by
    have := cfield30_any c A n m c.back (k : Int) W (hA.below hb) hn hwf (tab_below hw hb)
    rw [fieldOf_at c hk] at this
    exact this)
  have HLn := Lib.hid (evPre_len (c := c) (bk := c.back) (fun k hk => kget_len c hA hn hk) hwf)
  have HZ := Lib.hid (fun (k : Nat) (hk : k < 7) => cfT_le (f := (k : Int)) (hwf k hk) (kget_len c hA hn hk))
  have HW : Hid (c.week = [] ↔ cfT 0 (kget c 0) = []) := ⟨fun h => by rw [show kget c 0 = c.week from rfl, h]; rfl, fun h => by
    by_cases e : c.week = []
    · exact e
    · exact absurd h (cfT0_ne (kchk_parts hc 0 (by decide)) e)⟩
  have HP0 : Hid (evPre c c.back 0 = if c.week = [] then [] else cfT 0 (kget c 0) ++ [32]) := rfl
  have HP1 : Hid (∀ k, evPre c c.back (k + 1) = evPre c c.back k ++ (cfT ((k + 1 : Nat) : Int) (kget c (k + 1)) ++ sgnC c.back k)) := fun k => rfl
  have HP6 : Hid (evPre c c.back 6 = evT c) := evPre_all c
  clear hA hn hwf hw hc
  have HF0 : Hid (∀ W, Below w.heap.size w W → Calls Tryz.prog 15 #[evV A n m c.back, .int .i64 0] W (Ret (.string (strB (cfT 0 (kget c 0)))) W)) := fun W hb => HF.out 0 (by decide) W hb
  have HZ0 : (strB (cfT 0 (kget c 0))).size ≤ 101000 := by rw [strB_size]; exact HZ.out 0 (by decide)
  have HD0 := Lib.hid (strB_data (cfT 0 (kget c 0)))
  have HFk : Hid (∀ (k : Nat), k < 6 → ∀ W, Below w.heap.size w W → Calls Tryz.prog 15 #[evV A n m c.back, .int .i64 (1 + (k : Int))] W (Ret (.string (strB (cfT ((k + 1 : Nat) : Int) (kget c (k + 1))))) W)) := fun k hk W hb => by
    have := HF.out (k + 1) (by omega) W hb
    rw [show (((k + 1 : Nat)) : Int) = 1 + (k : Int) by omega] at this ⊢
    exact this
  have HZk : Hid (∀ (k : Nat), k < 6 → (strB (cfT ((k + 1 : Nat) : Int) (kget c (k + 1)))).size ≤ 101000) := fun k hk => by rw [strB_size]; exact HZ.out (k + 1) (by omega)
  clear HF HZ
  generalize c.back = bk at *
  generalize strB (cfT 0 (kget c 0)) = T0 at *
  have HSg : ∀ (W : World), Hid (Arr (W.alloc (.cells #[.string ⟨#[45]⟩, .string (if bk then ⟨#[126]⟩ else ⟨#[45]⟩), .string ⟨#[32]⟩, .string ⟨#[58]⟩, .string ⟨#[58]⟩, .string ⟨#[]⟩] 9)) W.heap.size 6 (sgnV bk)) := fun W =>
    arr_new W #[.string ⟨#[45]⟩, .string (if bk then ⟨#[126]⟩ else ⟨#[45]⟩), .string ⟨#[32]⟩, .string ⟨#[58]⟩, .string ⟨#[58]⟩, .string ⟨#[]⟩] 9 (sgnV bk) (by
      intro j hj
      obtain rfl | rfl | rfl | rfl | rfl | rfl : j = 0 ∨ j = 1 ∨ j = 2 ∨ j = 3 ∨ j = 4 ∨ j = 5 := by simp at hj; omega
      all_goals (cases bk <;> rfl))
  have HSx := Lib.hid HSg
  clear HSg
  by_cases hwk : c.week = []
  · have HQ : Hid (evPre c bk 0 = []) := by show _ = _; rw [HP0.out, if_pos hwk]
    have HT : Hid (T0.data.toList = []) := by show _ = _; rw [HD0.out, HW.out.1 hwk]
    clear hwk HW HP0 HD0
    obtain rfl : T0 = ⟨#[]⟩ := by
      apply ByteArray.ext; apply Array.ext'; exact HT.out
    cases bk with
    | false => unfold evV at *
               go_enter Tryz.func18, Tryz.ntmps18
               go_wp2_with fail
               refine (HC.out _ (by (repeat' (first | (with_reducible exact Below.refl _ _) | (with_reducible assumption) | (with_reducible refine below_drewN ?_ _) | (with_reducible refine Below.alloc ?_ ?_ _) | (with_reducible refine Below.drew ?_) | (with_reducible refine Below.setCell ?_ ?_ _) | go_size)))).mono ?_
               rintro e w1 ⟨rfl, hb1⟩
               have hb2 : Below w.heap.size w w1 := ((Below.refl _ w).alloc (Nat.le_refl _) _).trans (hb1.mono (by simp))
               have hz1 : w.heap.size < w1.heap.size := by have := hb1.size; simp at this; omega
               have HE1 := Lib.hid ((evAt_new w A n m _ 40).below hb1)
               obtain ⟨x0, x1, x2, x3, x4, x5, x6, x7⟩ := HE1.out
               clear hb1
               go_wp2_with fail
               refine (HF0.out _ hb2).mono ?_
               rintro e w2 ⟨rfl, hb3⟩
               have hb4 := bthen hb2 hb3 hb2.size
               have hz2 := Nat.lt_of_lt_of_le hz1 hb3.size
               have HE2 := Lib.hid (HE1.out.below hb3)
               clear x0 x1 x2 x3 x4 x5 x6 x7 hb3 HE1
               obtain ⟨x0, x1, x2, x3, x4, x5, x6, x7⟩ := HE2.out
               go_wp2
               have HArr := HSx.out w2
               go_loopw [6, 29] (fun s i wr => ∃ (S : ByteArray) (k : Nat), s = .string S ∧ k ≤ 6 ∧ i = .int .i64 k ∧ Hid (S = strB (evPre c false k)) ∧ Hid (Arr wr w2.heap.size 6 (sgnV false)) ∧ Hid (EvAt wr w.heap.size A n m false) ∧ w.heap.size < wr.heap.size ∧ w2.heap.size < wr.heap.size ∧ Below w.heap.size w wr) (fun _ i _ => 6 - (intOf i).toNat)
               case atStart => exact ⟨_, 0, rfl, Nat.zero_le _, rfl, (strB_of HQ.out.symm), HArr.out, HE2.out.below ((Below.refl _ _).alloc (Nat.le_refl _) _), by simp; omega, by simp, hb4.alloc hb4.size _⟩
               case round =>
                 clear x0 x1 x2 x3 x4 x5 x6 x7
                 obtain ⟨S, k, rfl, hk, rfl, HS, HA, HE, hl1, hl2, hb⟩ := hrel
                 have hsz := hb.size
                 have hzS : S.size ≤ 707007 := by rw [HS.out, strB_size]; have := HLn.out k hk; omega
                 by_cases h6 : k < 6
                 · have h6' : (k : Int) < 6 := by omega
                   have HX := Lib.hid (HA.out.1 k h6)
                   have hF := HFk.out k h6
                   have hzk := HZk.out k h6
                   have HN := Lib.hid (HP1.out k)
                   have HSd : Hid (S.data.toList = evPre c false k) := by show _ = _; rw [HS.out]; exact strB_data _
                   have HTd := Lib.hid (strB_data (cfT ((k + 1 : Nat) : Int) (kget c (k + 1))))
                   have HGd := Lib.hid (strB_data (sgnC false k))
                   have hzG : (strB (sgnC false k)).size ≤ 1 := by rw [strB_size]; exact sgnC_len _ k
                   unfold sgnV at HX
                   generalize strB (sgnC false k) = G at HX HGd hzG
                   generalize strB (cfT ((k + 1 : Nat) : Int) (kget c (k + 1))) = T at hF hzk HTd
                   have hx := HX.out
                   obtain ⟨x0, x1, x2, x3, x4, x5, x6, x7⟩ := HE.out
                   clear HX
                   go_wp2_with fail
                   refine (hF _ hb).mono ?_
                   rintro e w3 ⟨rfl, hb5⟩
                   go_wp2
                   go_roundw
                   case rel =>
                     refine ⟨_, k + 1, rfl, by omega, by go_num, ?_, HA.out.below hl2 hb5, HE.out.below hb5, Nat.lt_of_lt_of_le hl1 hb5.size, Nat.lt_of_lt_of_le hl2 hb5.size, bthen hb hb5 hsz⟩
                     refine strB_of ?_
                     rw [HN.out, str_app, str_app, HSd.out, HTd.out, HGd.out]
                   case measure => simp [intOf]; omega
                 · obtain rfl : k = 6 := by omega
                   have HF : Hid (S = strB (evT c)) := by show _ = _; rw [HS.out, HP6.out]
                   go_wp2
                   go_ret2
                   exact ⟨rets2_eq HF.out, hb⟩
    | true => unfold evV at *
              go_enter Tryz.func18, Tryz.ntmps18
              go_wp2_with fail
              refine (HC.out _ (by (repeat' (first | (with_reducible exact Below.refl _ _) | (with_reducible assumption) | (with_reducible refine below_drewN ?_ _) | (with_reducible refine Below.alloc ?_ ?_ _) | (with_reducible refine Below.drew ?_) | (with_reducible refine Below.setCell ?_ ?_ _) | go_size)))).mono ?_
              rintro e w1 ⟨rfl, hb1⟩
              have hb2 : Below w.heap.size w w1 := ((Below.refl _ w).alloc (Nat.le_refl _) _).trans (hb1.mono (by simp))
              have hz1 : w.heap.size < w1.heap.size := by have := hb1.size; simp at this; omega
              have HE1 := Lib.hid ((evAt_new w A n m _ 40).below hb1)
              obtain ⟨x0, x1, x2, x3, x4, x5, x6, x7⟩ := HE1.out
              clear hb1
              go_wp2_with fail
              refine (HF0.out _ hb2).mono ?_
              rintro e w2 ⟨rfl, hb3⟩
              have hb4 := bthen hb2 hb3 hb2.size
              have hz2 := Nat.lt_of_lt_of_le hz1 hb3.size
              have HE2 := Lib.hid (HE1.out.below hb3)
              clear x0 x1 x2 x3 x4 x5 x6 x7 hb3 HE1
              obtain ⟨x0, x1, x2, x3, x4, x5, x6, x7⟩ := HE2.out
              go_wp2
              have HArr := HSx.out w2
              go_loopw [6, 29] (fun s i wr => ∃ (S : ByteArray) (k : Nat), s = .string S ∧ k ≤ 6 ∧ i = .int .i64 k ∧ Hid (S = strB (evPre c true k)) ∧ Hid (Arr wr w2.heap.size 6 (sgnV true)) ∧ Hid (EvAt wr w.heap.size A n m true) ∧ w.heap.size < wr.heap.size ∧ w2.heap.size < wr.heap.size ∧ Below w.heap.size w wr) (fun _ i _ => 6 - (intOf i).toNat)
              case atStart => exact ⟨_, 0, rfl, Nat.zero_le _, rfl, (strB_of HQ.out.symm), HArr.out, HE2.out.below ((Below.refl _ _).alloc (Nat.le_refl _) _), by simp; omega, by simp, hb4.alloc hb4.size _⟩
              case round =>
                clear x0 x1 x2 x3 x4 x5 x6 x7
                obtain ⟨S, k, rfl, hk, rfl, HS, HA, HE, hl1, hl2, hb⟩ := hrel
                have hsz := hb.size
                have hzS : S.size ≤ 707007 := by rw [HS.out, strB_size]; have := HLn.out k hk; omega
                by_cases h6 : k < 6
                · have h6' : (k : Int) < 6 := by omega
                  have HX := Lib.hid (HA.out.1 k h6)
                  have hF := HFk.out k h6
                  have hzk := HZk.out k h6
                  have HN := Lib.hid (HP1.out k)
                  have HSd : Hid (S.data.toList = evPre c true k) := by show _ = _; rw [HS.out]; exact strB_data _
                  have HTd := Lib.hid (strB_data (cfT ((k + 1 : Nat) : Int) (kget c (k + 1))))
                  have HGd := Lib.hid (strB_data (sgnC true k))
                  have hzG : (strB (sgnC true k)).size ≤ 1 := by rw [strB_size]; exact sgnC_len _ k
                  unfold sgnV at HX
                  generalize strB (sgnC true k) = G at HX HGd hzG
                  generalize strB (cfT ((k + 1 : Nat) : Int) (kget c (k + 1))) = T at hF hzk HTd
                  have hx := HX.out
                  obtain ⟨x0, x1, x2, x3, x4, x5, x6, x7⟩ := HE.out
                  clear HX
                  go_wp2_with fail
                  refine (hF _ hb).mono ?_
                  rintro e w3 ⟨rfl, hb5⟩
                  go_wp2
                  go_roundw
                  case rel =>
                    refine ⟨_, k + 1, rfl, by omega, by go_num, ?_, HA.out.below hl2 hb5, HE.out.below hb5, Nat.lt_of_lt_of_le hl1 hb5.size, Nat.lt_of_lt_of_le hl2 hb5.size, bthen hb hb5 hsz⟩
                    refine strB_of ?_
                    rw [HN.out, str_app, str_app, HSd.out, HTd.out, HGd.out]
                  case measure => simp [intOf]; omega
                · obtain rfl : k = 6 := by omega
                  have HF : Hid (S = strB (evT c)) := by show _ = _; rw [HS.out, HP6.out]
                  go_wp2
                  go_ret2
                  exact ⟨rets2_eq HF.out, hb⟩
  · have HQ : Hid (strB (evPre c bk 0) = T0 ++ ⟨#[32]⟩) := by
      show _ = _
      exact (strB_of (by rw [str_app, HD0.out, HP0.out, if_neg hwk])).symm
    have hT : ¬ T0.data.toList = [] := by rw [HD0.out]; exact fun h => hwk (HW.out.2 h)
    have hT1 : T0.toList.isEmpty = false := by
      rw [ByteArray.toList_eq]; simpa using hT
    clear hT
    clear hwk HW HP0 HD0
    cases bk with
    | false => unfold evV at *
               go_enter Tryz.func18, Tryz.ntmps18
               go_wp2_with fail
               refine (HC.out _ (by (repeat' (first | (with_reducible exact Below.refl _ _) | (with_reducible assumption) | (with_reducible refine below_drewN ?_ _) | (with_reducible refine Below.alloc ?_ ?_ _) | (with_reducible refine Below.drew ?_) | (with_reducible refine Below.setCell ?_ ?_ _) | go_size)))).mono ?_
               rintro e w1 ⟨rfl, hb1⟩
               have hb2 : Below w.heap.size w w1 := ((Below.refl _ w).alloc (Nat.le_refl _) _).trans (hb1.mono (by simp))
               have hz1 : w.heap.size < w1.heap.size := by have := hb1.size; simp at this; omega
               have HE1 := Lib.hid ((evAt_new w A n m _ 40).below hb1)
               obtain ⟨x0, x1, x2, x3, x4, x5, x6, x7⟩ := HE1.out
               clear hb1
               go_wp2_with fail
               refine (HF0.out _ hb2).mono ?_
               rintro e w2 ⟨rfl, hb3⟩
               have hb4 := bthen hb2 hb3 hb2.size
               have hz2 := Nat.lt_of_lt_of_le hz1 hb3.size
               have HE2 := Lib.hid (HE1.out.below hb3)
               clear x0 x1 x2 x3 x4 x5 x6 x7 hb3 HE1
               obtain ⟨x0, x1, x2, x3, x4, x5, x6, x7⟩ := HE2.out
               go_wp2
               have HArr := HSx.out w2
               go_loopw [6, 29] (fun s i wr => ∃ (S : ByteArray) (k : Nat), s = .string S ∧ k ≤ 6 ∧ i = .int .i64 k ∧ Hid (S = strB (evPre c false k)) ∧ Hid (Arr wr w2.heap.size 6 (sgnV false)) ∧ Hid (EvAt wr w.heap.size A n m false) ∧ w.heap.size < wr.heap.size ∧ w2.heap.size < wr.heap.size ∧ Below w.heap.size w wr) (fun _ i _ => 6 - (intOf i).toNat)
               case atStart => exact ⟨_, 0, rfl, Nat.zero_le _, rfl, HQ.out.symm, HArr.out, HE2.out.below ((Below.refl _ _).alloc (Nat.le_refl _) _), by simp; omega, by simp, hb4.alloc hb4.size _⟩
               case round =>
                 clear x0 x1 x2 x3 x4 x5 x6 x7
                 obtain ⟨S, k, rfl, hk, rfl, HS, HA, HE, hl1, hl2, hb⟩ := hrel
                 have hsz := hb.size
                 have hzS : S.size ≤ 707007 := by rw [HS.out, strB_size]; have := HLn.out k hk; omega
                 by_cases h6 : k < 6
                 · have h6' : (k : Int) < 6 := by omega
                   have HX := Lib.hid (HA.out.1 k h6)
                   have hF := HFk.out k h6
                   have hzk := HZk.out k h6
                   have HN := Lib.hid (HP1.out k)
                   have HSd : Hid (S.data.toList = evPre c false k) := by show _ = _; rw [HS.out]; exact strB_data _
                   have HTd := Lib.hid (strB_data (cfT ((k + 1 : Nat) : Int) (kget c (k + 1))))
                   have HGd := Lib.hid (strB_data (sgnC false k))
                   have hzG : (strB (sgnC false k)).size ≤ 1 := by rw [strB_size]; exact sgnC_len _ k
                   unfold sgnV at HX
                   generalize strB (sgnC false k) = G at HX HGd hzG
                   generalize strB (cfT ((k + 1 : Nat) : Int) (kget c (k + 1))) = T at hF hzk HTd
                   have hx := HX.out
                   obtain ⟨x0, x1, x2, x3, x4, x5, x6, x7⟩ := HE.out
                   clear HX
                   go_wp2_with fail
                   refine (hF _ hb).mono ?_
                   rintro e w3 ⟨rfl, hb5⟩
                   go_wp2
                   go_roundw
                   case rel =>
                     refine ⟨_, k + 1, rfl, by omega, by go_num, ?_, HA.out.below hl2 hb5, HE.out.below hb5, Nat.lt_of_lt_of_le hl1 hb5.size, Nat.lt_of_lt_of_le hl2 hb5.size, bthen hb hb5 hsz⟩
                     refine strB_of ?_
                     rw [HN.out, str_app, str_app, HSd.out, HTd.out, HGd.out]
                   case measure => simp [intOf]; omega
                 · obtain rfl : k = 6 := by omega
                   have HF : Hid (S = strB (evT c)) := by show _ = _; rw [HS.out, HP6.out]
                   go_wp2
                   go_ret2
                   exact ⟨rets2_eq HF.out, hb⟩
    | true => unfold evV at *
              go_enter Tryz.func18, Tryz.ntmps18
              go_wp2_with fail
              refine (HC.out _ (by (repeat' (first | (with_reducible exact Below.refl _ _) | (with_reducible assumption) | (with_reducible refine below_drewN ?_ _) | (with_reducible refine Below.alloc ?_ ?_ _) | (with_reducible refine Below.drew ?_) | (with_reducible refine Below.setCell ?_ ?_ _) | go_size)))).mono ?_
              rintro e w1 ⟨rfl, hb1⟩
              have hb2 : Below w.heap.size w w1 := ((Below.refl _ w).alloc (Nat.le_refl _) _).trans (hb1.mono (by simp))
              have hz1 : w.heap.size < w1.heap.size := by have := hb1.size; simp at this; omega
              have HE1 := Lib.hid ((evAt_new w A n m _ 40).below hb1)
              obtain ⟨x0, x1, x2, x3, x4, x5, x6, x7⟩ := HE1.out
              clear hb1
              go_wp2_with fail
              refine (HF0.out _ hb2).mono ?_
              rintro e w2 ⟨rfl, hb3⟩
              have hb4 := bthen hb2 hb3 hb2.size
              have hz2 := Nat.lt_of_lt_of_le hz1 hb3.size
              have HE2 := Lib.hid (HE1.out.below hb3)
              clear x0 x1 x2 x3 x4 x5 x6 x7 hb3 HE1
              obtain ⟨x0, x1, x2, x3, x4, x5, x6, x7⟩ := HE2.out
              go_wp2
              have HArr := HSx.out w2
              go_loopw [6, 29] (fun s i wr => ∃ (S : ByteArray) (k : Nat), s = .string S ∧ k ≤ 6 ∧ i = .int .i64 k ∧ Hid (S = strB (evPre c true k)) ∧ Hid (Arr wr w2.heap.size 6 (sgnV true)) ∧ Hid (EvAt wr w.heap.size A n m true) ∧ w.heap.size < wr.heap.size ∧ w2.heap.size < wr.heap.size ∧ Below w.heap.size w wr) (fun _ i _ => 6 - (intOf i).toNat)
              case atStart => exact ⟨_, 0, rfl, Nat.zero_le _, rfl, HQ.out.symm, HArr.out, HE2.out.below ((Below.refl _ _).alloc (Nat.le_refl _) _), by simp; omega, by simp, hb4.alloc hb4.size _⟩
              case round =>
                clear x0 x1 x2 x3 x4 x5 x6 x7
                obtain ⟨S, k, rfl, hk, rfl, HS, HA, HE, hl1, hl2, hb⟩ := hrel
                have hsz := hb.size
                have hzS : S.size ≤ 707007 := by rw [HS.out, strB_size]; have := HLn.out k hk; omega
                by_cases h6 : k < 6
                · have h6' : (k : Int) < 6 := by omega
                  have HX := Lib.hid (HA.out.1 k h6)
                  have hF := HFk.out k h6
                  have hzk := HZk.out k h6
                  have HN := Lib.hid (HP1.out k)
                  have HSd : Hid (S.data.toList = evPre c true k) := by show _ = _; rw [HS.out]; exact strB_data _
                  have HTd := Lib.hid (strB_data (cfT ((k + 1 : Nat) : Int) (kget c (k + 1))))
                  have HGd := Lib.hid (strB_data (sgnC true k))
                  have hzG : (strB (sgnC true k)).size ≤ 1 := by rw [strB_size]; exact sgnC_len _ k
                  unfold sgnV at HX
                  generalize strB (sgnC true k) = G at HX HGd hzG
                  generalize strB (cfT ((k + 1 : Nat) : Int) (kget c (k + 1))) = T at hF hzk HTd
                  have hx := HX.out
                  obtain ⟨x0, x1, x2, x3, x4, x5, x6, x7⟩ := HE.out
                  clear HX
                  go_wp2_with fail
                  refine (hF _ hb).mono ?_
                  rintro e w3 ⟨rfl, hb5⟩
                  go_wp2
                  go_roundw
                  case rel =>
                    refine ⟨_, k + 1, rfl, by omega, by go_num, ?_, HA.out.below hl2 hb5, HE.out.below hb5, Nat.lt_of_lt_of_le hl1 hb5.size, Nat.lt_of_lt_of_le hl2 hb5.size, bthen hb hb5 hsz⟩
                    refine strB_of ?_
                    rw [HN.out, str_app, str_app, HSd.out, HTd.out, HGd.out]
                  case measure => simp [intOf]; omega
                · obtain rfl : k = 6 := by omega
                  have HF : Hid (S = strB (evT c)) := by show _ = _; rw [HS.out, HP6.out]
                  go_wp2
                  go_ret2
                  exact ⟨rets2_eq HF.out, hb⟩
end Go.Proofs.YtnelecjjbmjhaaaGreatDoor
