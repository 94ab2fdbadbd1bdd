/- The walks of feriaref30.Field, cal.Field and calshow.Field. -/
import Derived.Test.YtnelecjjbmjhaaaGreatDoorWCsD
import Derived.Test.YtnelecjjbmjhaaaGreatDoorWShow6
namespace Go.Proofs.YtnelecjjbmjhaaaGreatDoor
open Go.RowKit
set_option linter.unusedSimpArgs false
set_option linter.unusedVariables false

/-- The items of a field, none beyond the fields. -/
def fieldOf (c : CalV) (f : Int) : List It := if 0 ≤ f ∧ f < 7 then kget c f.toNat else []
theorem fieldOf_at (c : CalV) {k : Nat} (hk : k < 7) : fieldOf c (k : Int) = kget c k := by unfold fieldOf; rw [if_pos (by omega), Int.toNat_natCast]
theorem fieldOf_out (c : CalV) {f : Int} (h : f < 0 ∨ 7 ≤ f) : fieldOf c f = [] := if_neg (by omega)
set_option maxHeartbeats 2000000 in
theorem rfield28_out (f : Int) (h : f < 0 ∨ 7 ≤ f) (A : Nat → Option Addr) (n m : Nat → Nat) (bk : Bool) (w : World) : Calls Tryz.prog 53 #[evV A n m bk, .int .i64 f] w (Ret (.slice none 0 0) w) := by
  unfold evV
  have h0 : (f == 0) = false := by simp; omega
  have h1 : (f == 1) = false := by simp; omega
  have h2 : (f == 2) = false := by simp; omega
  have h3 : (f == 3) = false := by simp; omega
  have h4 : (f == 4) = false := by simp; omega
  have h5 : (f == 5) = false := by simp; omega
  have h6 : (f == 6) = false := by simp; omega
  clear h
  go_enter Tryz.func53, Tryz.ntmps53
  go_wp2
  go_ret
  exact ⟨rfl, by (repeat' (first | (with_reducible exact Below.refl _ _) | (with_reducible assumption) | (with_reducible refine below_drewN ?_ _) | (with_reducible refine Below.alloc ?_ ?_ _) | (with_reducible refine Below.drew ?_) | (with_reducible refine Below.setCell ?_ ?_ _) | go_size))⟩

set_option maxRecDepth 20000 in
set_option maxHeartbeats 1000000 in
theorem rfield30_core (EA : Nat → Option Addr) (en em : Nat → Nat) (bk : Bool) (f : Int) (A : Option Addr) (n c : Nat) (l : List It) (w : World) (hA : RdIts w A n l) (hn : n ≤ 1000) (hwf : ∀ it ∈ l, it.wf)
    (hF : ∀ W, Calls Tryz.prog 53 #[evV EA en em bk, .int .i64 f] W (Ret (.slice A n c) W)) :
    Calls Tryz.prog 16 #[evV EA en em bk, .int .i64 f] w (Ret (.string (strB (cfT f l))) w) := by
  have HL : Hid (l.length = n) := hA.1
  have HWF := Lib.hid hwf
  have HF := Lib.hid hF
  clear hwf hF
  unfold evV at *
  go_enter Tryz.func16, Tryz.ntmps16
  go_wp2_with fail
  refine (HF.out _).mono ?_
  rintro e w0 ⟨rfl, hbB⟩
  have hb0 : Below w.heap.size w w0 := ((Below.refl _ w).alloc (Nat.le_refl _) _).trans (hbB.mono (by simp))
  have hA0 := hA.below hb0 (Nat.le_refl _)
  have hz0 := hb0.size
  clear hbB
  go_wp2
  go_loopw [6, 7] (fun s i wr => ∃ (S : ByteArray) (k : Nat), s = .string S ∧ k ≤ n ∧ i = .int .i64 k ∧ Hid (S = strB (cfT f (l.take k))) ∧ Below w0.heap.size w0 wr) (fun _ i _ => n - (intOf i).toNat)
  case atStart => exact ⟨_, 0, rfl, Nat.zero_le _, rfl, rfl, Below.refl _ _⟩
  case round =>
    obtain ⟨S, k, rfl, hk, rfl, H, hb⟩ := hrel
    have hsz := hb.size
    have hzS : S.size ≤ 101000 := by rw [H.out, strB_size]; exact cfT_take_len HWF.out k (by rw [HL.out]; exact hk) (by rw [HL.out]; exact hn)
    by_cases hlt : k < n
    · obtain ⟨b, o, it, rfl, hbl, hx, c0, c1, c2, c3⟩ := RdIts.at_ (hA0.below hb (Nat.le_refl _)) hlt
      have hlt' : (k : Int) < (n : Int) := by omega
      have hit : it.wf := HWF.out _ (List.mem_of_getElem? hx)
      have HI := Lib.hid (fun W => ritem30_any it f hit W)
      have hzI : (strB (citT f it)).size ≤ 100 := by rw [strB_size]; exact citT_len hit
      have HT := Lib.hid (cfT_take (f := f) hx)
      clear hx hit
      obtain ⟨T, hT⟩ : ∃ T, T = strB (citT f it) := ⟨_, rfl⟩
      rw [← hT] at HI hzI
      have HTD : Hid (T.data.toList = citT f it) := by show _ = _; rw [hT]; exact strB_data _
      clear hT
      by_cases h0 : k = 0
      · subst h0
        simp only [Nat.zero_mul, Nat.add_zero] at c0 c1 c2 c3
        go_wp2_with fail
        refine (HI.out _).mono ?_
        rintro e w1 ⟨rfl, hb1⟩
        have hb2 := bthen hb hb1 hsz
        go_wp2
        go_roundw
        case rel =>
          refine ⟨_, 1, rfl, by omega, rfl, ?_, hb2⟩
          refine strB_of ?_
          rw [HT.out, str_app, HTD.out, H.out]; rfl
        case measure => simp [intOf]; omega
      · have h0' : (0 : Int) < (k : Int) := by omega
        have HH : Hid (S.data.toList = cfT f (l.take k)) := by show _ = _; rw [H.out]; exact strB_data _
        go_wp2_with fail
        refine (HI.out _).mono ?_
        rintro e w1 ⟨rfl, hb1⟩
        have hb2 := bthen hb hb1 hsz
        go_wp2
        go_roundw
        case rel =>
          refine ⟨_, k + 1, rfl, by omega, by go_num, ?_, hb2⟩
          refine strB_of ?_
          rw [HT.out, if_neg h0, str_app, str_app, HTD.out, HH.out]
        case measure => simp [intOf]; omega
    · obtain rfl : k = n := by omega
      have HFin : Hid (S = strB (cfT f l)) := by
        show _ = _
        rw [H.out, List.take_of_length_le (by rw [HL.out]; exact Nat.le_refl _)]
      go_wp2
      go_ret
      exact ⟨rets_eq HFin.out, bthen hb0 hb hz0⟩
/-- feriaref30.Field, at any field. -/
theorem rfield30_any (c : CalV) (A : Nat → Option Addr) (n m : Nat → Nat) (bk : Bool) (f : Int) (w : World) (hA : RdEv w A n c) (hn : ∀ j, j < 8 → j ≠ 4 → n j ≤ 1000) (hwf : ∀ j, j < 7 → ∀ it ∈ kget c j, it.wf) :
    Calls Tryz.prog 16 #[evV A n m bk, .int .i64 f] w (Ret (.string (strB (cfT f (fieldOf c f)))) w) := by
  by_cases h : 0 ≤ f ∧ f < 7
  · obtain ⟨k, rfl⟩ := Int.eq_ofNat_of_zero_le h.1
    have hk : k < 7 := by omega
    rw [fieldOf_at c hk]
    exact rfield30_core _ _ _ _ _ _ _ _ _ w (hA.slot hk) (hn _ (kslot_ok hk).1 (kslot_ok hk).2) (hwf k hk) (fun W => rfield28_in k hk A n m bk W)
  · rw [fieldOf_out c (by omega)]
    exact rfield30_core _ _ _ _ _ _ _ _ _ w Rd.nil (Nat.zero_le _) (fun it h => by simp at h) (fun W => rfield28_out f (by omega) A n m bk W)

set_option maxRecDepth 10000 in
set_option maxHeartbeats 1000000 in
theorem klist_out (f : Int) (h : f < 0 ∨ 7 ≤ f) (p : Value) (w : World) : Calls Tryz.prog 62 #[p, .int .i64 f] w (RetN (.slice none 0 0) w) := by
  rcases h with h | h
  · go_enter Tryz.func62, Tryz.ntmps62
    go_wp2
    go_ret
    exact ⟨rfl, 0, rfl⟩
  · have h' : ¬ f < 0 := by omega
    go_enter Tryz.func62, Tryz.ntmps62
    go_wp2
    go_ret
    exact ⟨rfl, 0, rfl⟩
theorem rd_none {α : Type} {k : Nat} {enc : α → List Value} {w : World} {A : Option Addr} {n : Nat} {l : List α} (h : Rd k enc w A n l) (hA : A = none) : n = 0 := by
  rcases Nat.eq_zero_or_pos n with h0 | h0
  · exact h0
  · obtain ⟨b, o, e, _⟩ := h.2 h0
    rw [hA] at e; cases e
theorem kfield_in (k : Nat) (hk : k < 7) (c : CalV) (A : Nat → Option Addr) (n m : Nat → Nat) (bk : Bool) (w : World) (hA : RdEv w A n c) (hn : ∀ j, j < 8 → j ≠ 4 → n j ≤ 4294967296) :
    Calls Tryz.prog 52 #[evV A n m bk, .int .i64 k] w (RetIts (n (kslot k)) (kget c k) w) := by
  have HA := Lib.hid (hA.slot hk)
  have HL := Lib.hid (fun W h => klist_in k hk w.heap.size A n m bk W h)
  have HC := Lib.hid (fun W (hb : Below w.heap.size w W) => clone_any (A (kslot k)) (n (kslot k)) (m (kslot k)) (kget c k) W (HA.out.below hb (Nat.le_refl _)) (hn _ (kslot_ok hk).1 (kslot_ok hk).2) (rd_none HA.out))
  have HE0 := Lib.hid (evAt_new w A n m bk 40)
  clear hA hn
  unfold evV
  go_enter Tryz.func52, Tryz.ntmps52
  go_wp2_with fail
  refine (HL.out _ HE0.out).mono ?_
  rintro e w1 ⟨rfl, q, rfl⟩
  go_wp2_with fail
  refine (HC.out _ (by (repeat' (first | (with_reducible exact Below.refl _ _) | (with_reducible assumption) | (with_reducible refine below_drewN ?_ _) | (with_reducible refine Below.alloc ?_ ?_ _) | (with_reducible refine Below.drew ?_) | (with_reducible refine Below.setCell ?_ ?_ _) | go_size)))).mono ?_
  rintro e w1 ⟨A', c', rfl, hr, hb1⟩
  go_wp2
  go_ret
  exact ⟨A', c', rfl, hr, bthen (below_drewN ((Below.refl _ w).alloc (Nat.le_refl _) _) q) hb1 (by simp)⟩
theorem kfield_out (f : Int) (h : f < 0 ∨ 7 ≤ f) (A : Nat → Option Addr) (n m : Nat → Nat) (bk : Bool) (w : World) :
    Calls Tryz.prog 52 #[evV A n m bk, .int .i64 f] w (RetIts 0 [] w) := by
  have HL := Lib.hid (fun p W => klist_out f h p W)
  have HC := Lib.hid (fun W => clone_any none 0 0 [] W Rd.nil (Nat.zero_le _) (fun _ => rfl))
  clear h
  unfold evV
  go_enter Tryz.func52, Tryz.ntmps52
  go_wp2_with fail
  refine (HL.out _ _).mono ?_
  rintro e w1 ⟨rfl, q, rfl⟩
  go_wp2_with fail
  refine (HC.out _).mono ?_
  rintro e w1 ⟨A', c', rfl, hr, hb1⟩
  go_wp2
  go_ret
  exact ⟨A', c', rfl, hr, bthen (below_drewN ((Below.refl _ w).alloc (Nat.le_refl _) _) q) hb1 (by simp)⟩

/-- strings.Join of a slice of the call's own. -/
theorem sjoin_own (sep : ByteArray) (v : Value) (L : List ByteArray) (B : Nat) (w : World) (h : OwnStrs w B v L) (hN : L.length ≤ 1000000) (hlen : (Lib.join (L.map (·.data.toList)) sep.data.toList).length ≤ 140737488355328) :
    Calls Tryz.prog 49 #[v, .string sep] w (Ret (.string (strB (Lib.join (L.map (·.data.toList)) sep.data.toList))) w) := by
  have HO := h
  rcases h.2 with ⟨rfl, h0⟩ | ⟨g, cap, cur, rfl, hB, hg, hnc, hcm, hcs, htake⟩
  · obtain rfl : L = [] := List.length_eq_zero_iff.1 h0
    refine (Tryz.strings_Join_none none 0 sep w).mono ?_
    rintro e w1 ⟨rfl, rfl⟩
    exact ⟨rfl, Below.refl _ _⟩
  · refine (Tryz.strings_Join g 0 cap L sep w (fun j x hx => ?_) (Array.getElem?_eq_some_iff.1 hg).1 (by omega) hnc hlen).mono ?_
    · have h1 := HO.cells (g := g) rfl j (.string x) (by rw [List.getElem?_map, hx]; rfl)
      rwa [show (⟨g, 0, none⟩ : Addr).add j = ⟨g, 0 + j, none⟩ from by unfold Addr.add; split <;> simp_all] at h1
    · rintro e w1 ⟨rfl, hb⟩
      exact ⟨rfl, hb⟩
/-- The texts of items of a field, as strings. -/
def cStrs (f : Int) (l : List It) : List ByteArray := l.map fun i => strB (citT f i)
theorem cStrs_len (f : Int) (l : List It) : (cStrs f l).length = l.length := by simp [cStrs]
theorem cStrs_join (f : Int) (l : List It) : Lib.join ((cStrs f l).map (·.data.toList)) [44] = cfT f l := by
  unfold cStrs cfT
  rw [List.map_map]
  congr 1

set_option maxRecDepth 20000 in
set_option maxHeartbeats 1000000 in
theorem cfield30_core (EA : Nat → Option Addr) (en em : Nat → Nat) (bk : Bool) (f : Int) (n : Nat) (l : List It) (w : World) (hn : n ≤ 1000) (hL : l.length = n) (hwf : ∀ it ∈ l, it.wf) (hw : Pow w)
    (hF : ∀ W, Below w.heap.size w W → Calls Tryz.prog 52 #[evV EA en em bk, .int .i64 f] W (RetIts n l W)) :
    Calls Tryz.prog 15 #[evV EA en em bk, .int .i64 f] w (Ret (.string (strB (cfT f l))) w) := by
  obtain ⟨i0, hi0, hz0, hz1, hz2⟩ := info_parts info_str
  have HI0 := Lib.hid hi0
  have HZ0 := Lib.hid hz0
  have HZ1 := Lib.hid hz1
  have HZ2 := Lib.hid hz2
  clear hi0 hz0 hz1 hz2
  have HL : Hid (l.length = n) := hL
  have HWF := Lib.hid hwf
  have HP := Lib.hid (fun W (hb : Below w.heap.size w W) => tab_below hw hb)
  have HF := Lib.hid hF
  clear hwf hw hF hL
  unfold evV at *
  go_enter Tryz.func15, Tryz.ntmps15
  go_wp2_with fail
  refine (HF.out _ (by (repeat' (first | (with_reducible exact Below.refl _ _) | (with_reducible assumption) | (with_reducible refine below_drewN ?_ _) | (with_reducible refine Below.alloc ?_ ?_ _) | (with_reducible refine Below.drew ?_) | (with_reducible refine Below.setCell ?_ ?_ _) | go_size)))).mono ?_
  rintro e w0 ⟨A, c, rfl, hA, hbB⟩
  have hb0 : Below w.heap.size w w0 := ((Below.refl _ w).alloc (Nat.le_refl _) _).trans (hbB.mono (by simp))
  have hzw := hb0.size
  clear hbB
  go_wp2
  go_loopw [5, 12] (fun v i wr => ∃ (vo : Value) (k : Nat), vo = v ∧ k ≤ n ∧ i = .int .i64 k ∧ Hid (OwnStrs wr w0.heap.size vo (cStrs f (l.take k))) ∧ Below w0.heap.size w0 wr) (fun _ i _ => n - (intOf i).toNat)
  case atStart => exact ⟨_, 0, rfl, Nat.zero_le _, rfl, World.ownsRow_nil _ _ _ _, Below.refl _ _⟩
  case round =>
    obtain ⟨vo, k, rfl, hk, rfl, HO, hb⟩ := hrel
    have hsz := hb.size
    by_cases hlt : k < n
    · obtain ⟨b, o, it, rfl, hbl, hx, c0, c1, c2, c3⟩ := RdIts.at_ (hA.below hb (Nat.le_refl _)) hlt
      have hlt' : (k : Int) < (n : Int) := by omega
      have hit : it.wf := HWF.out _ (List.mem_of_getElem? hx)
      have HI := Lib.hid (fun W (hb1 : Below w0.heap.size w0 W) => citem30_any it f hit W (HP.out _ (bthen hb0 hb1 hzw)))
      have HS1 : Hid (cStrs f (l.take (k + 1)) = cStrs f (l.take k) ++ [strB (citT f it)]) := by
        show _ = _
        rw [List.take_add_one, hx]; simp [cStrs]
      have hkl : (cStrs f (l.take k)).length = k := by rw [cStrs_len, List.length_take_of_le (by rw [HL.out]; exact hk)]
      clear hx hit
      obtain ⟨T, hT⟩ : ∃ T, T = strB (citT f it) := ⟨_, rfl⟩
      rw [← hT] at HI HS1
      clear hT
      obtain ⟨X0, hX0⟩ : ∃ X, X = cStrs f (l.take k) := ⟨_, rfl⟩
      obtain ⟨X1, hX1⟩ : ∃ X, X = cStrs f (l.take (k + 1)) := ⟨_, rfl⟩
      rw [← hX0] at HO HS1 hkl
      rw [← hX1] at HS1
      have HX1 := Lib.hid hX1
      have HKL := Lib.hid hkl
      clear hX0 hX1 hkl
      go_wp2_with fail
      refine (HI.out _ (by (repeat' (first | (with_reducible exact Below.refl _ _) | (with_reducible assumption) | (with_reducible refine below_drewN ?_ _) | (with_reducible refine Below.alloc ?_ ?_ _) | (with_reducible refine Below.drew ?_) | (with_reducible refine Below.setCell ?_ ?_ _) | go_size)))).mono ?_
      rintro e w2 ⟨rfl, hb2⟩
      have hb3 : Below wr.heap.size wr w2 := ((Below.refl _ wr).alloc (Nat.le_refl _) _).trans (hb2.mono (by simp))
      have hsz3 := hb3.size
      have hbx : Below w0.heap.size w0 w2 := bthen hb hb3 hsz
      have hi0 := HI0.out
      have hz0 := HZ0.out
      have hz1 := HZ1.out
      have hz2 := HZ2.out
      go_wp2_with (at_builtin; refine wpList_append_own _ rfl _ _ 84 rfl w0.heap.size 9 i0 _ 1 16 Tryz.underlying84 hi0 hz0 hz1 hz2 rfl (by decide) _ X0.length _ rfl (own_below HO.out ?cB) ⟨w2.heap.size, 0, none⟩ 1 1 [.string T] rfl rfl ?c1 ?c2 ?c3 ?c4 ?c5 ?c6)
      case cB => exact hb3.alloc hsz3 _
      case c1 =>
        intro j' u hu
        rcases j' with _ | j'
        · simp at hu; subst hu
          exact cell_new rfl rfl
        · simp at hu
      case c2 => intro u hu; simp at hu; subst hu; rfl
      case c3 => rw [HKL.out]; simp only [maxLen]; omega
      case c4 => rw [HKL.out]; omega
      case c5 => simp; omega
      case c6 =>
        intro v' w' hown hg _
        have HV : Hid (OwnStrs w' w0.heap.size v' X1) := by
          show World.ownsRow _ _ _ _ _ _ _
          rw [HS1.out, List.length_append, List.map_append]
          exact hown
        have hbn : Below w0.heap.size w0 w' := by
          refine Below.grown (hbx.alloc (by omega) _) hg (by simp; omega) ?_
          intro b hb'
          rcases own_some HO.out with ⟨h1, _⟩ | ⟨g, cap, h1, h2, h3⟩
          · rw [h1] at hb'; simp [Value.ownBlock] at hb'
          · rw [h1] at hb'; simp [Value.ownBlock] at hb'; subst hb'; exact h2
        clear hown hg hi0 hz0 hz1 hz2
        go_wp2
        go_roundw
        case rel => exact ⟨_, k + 1, rfl, by omega, by go_num, by rw [← HX1.out]; exact HV.out, hbn⟩
        case measure => simp [intOf]; omega
    · obtain rfl : k = n := by omega
      have HE : Hid (l.take k = l) := List.take_of_length_le (by rw [HL.out]; exact Nat.le_refl _)
      have HJ := Lib.hid (sjoin_own ⟨#[44]⟩ vo _ _ wr HO.out (by rw [cStrs_len, HE.out, HL.out]; omega) (by
        have := cStrs_join f (l.take k)
        show (Lib.join ((cStrs f (l.take k)).map (·.data.toList)) [44]).length ≤ _
        rw [this]
        have := cfT_take_len (f := f) HWF.out k (by rw [HL.out]; exact Nat.le_refl _) (by rw [HL.out]; exact hn)
        omega))
      have HF2 : Hid (Lib.join ((cStrs f (l.take k)).map (·.data.toList)) [44] = cfT f l) := by
        show _ = _
        rw [cStrs_join, HE.out]
      go_wp2_with fail
      refine HJ.out.mono ?_
      rintro e w1 ⟨rfl, hb1⟩
      go_wp2
      go_ret
      exact ⟨by rw [← HF2.out]; rfl, bthen hb0 (bthen hb hb1 hsz) hzw⟩
/-- calshow.Field, at any field. -/
theorem cfield30_any (c : CalV) (A : Nat → Option Addr) (n m : Nat → Nat) (bk : Bool) (f : Int) (w : World) (hA : RdEv w A n c) (hn : ∀ j, j < 8 → j ≠ 4 → n j ≤ 1000) (hwf : ∀ j, j < 7 → ∀ it ∈ kget c j, it.wf) (hw : Pow w) :
    Calls Tryz.prog 15 #[evV A n m bk, .int .i64 f] w (Ret (.string (strB (cfT f (fieldOf c f)))) w) := by
  by_cases h : 0 ≤ f ∧ f < 7
  · obtain ⟨k, rfl⟩ := Int.eq_ofNat_of_zero_le h.1
    have hk : k < 7 := by omega
    rw [fieldOf_at c hk]
    exact cfield30_core _ _ _ _ _ _ _ w (hn _ (kslot_ok hk).1 (kslot_ok hk).2) (hA.slot hk).1 (hwf k hk) hw (fun W hb => kfield_in k hk c A n m bk W (hA.below hb) (fun j h1 h2 => Nat.le_trans (hn j h1 h2) (by decide)))
  · rw [fieldOf_out c (by omega)]
    exact cfield30_core _ _ _ _ _ _ _ w (Nat.zero_le _) rfl (fun it h => by simp at h) hw (fun W _ => kfield_out f (by omega) A n m bk W)
end Go.Proofs.YtnelecjjbmjhaaaGreatDoor
