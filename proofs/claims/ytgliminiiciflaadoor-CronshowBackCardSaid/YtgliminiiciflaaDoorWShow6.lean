/- The walk of cronshow.Field: texts collected, and joined. -/
import Derived.Test.YtgliminiiciflaaDoorWShow5
namespace Go.Proofs.YtgliminiiciflaaDoor
open Go.RowKit
set_option linter.unusedSimpArgs false
set_option linter.unusedVariables false

theorem info_str : (Tryd.prog.info? 9).map (fun i => (i.zero, i.size, i.bytes)) = some (some (.string ⟨#[]⟩), 1, 16) := by kernel_rfl
/-- A slice of strings of the call's own. -/
abbrev OwnStrs (w : World) (B : Nat) (v : Value) (l : List ByteArray) : Prop := w.ownsRow B 9 1 v l.length (l.map Value.string)
theorem joined_own (sep : ByteArray) (v : Value) (L : List ByteArray) (B : Nat) (w : World) (h : OwnStrs w B v L) (hN : L.length ≤ 1000000) (hlen : (Lib.join (L.map (·.data.toList)) sep.data.toList).length ≤ 140737488355328) :
    Calls Tryd.prog 26 #[.string sep, v] w (Ret (.string (strB (Lib.join (L.map (·.data.toList)) sep.data.toList))) w) := by
  have HO := h
  rcases h.2 with ⟨rfl, h0⟩ | ⟨g, cap, cur, rfl, hB, hg, hnc, hcm, hcs, htake⟩
  · obtain rfl : L = [] := List.length_eq_zero_iff.1 h0
    have H := Lib.hid (Tryd.strings_Join_none none 0 sep w)
    go_enter Tryd.func26, Tryd.ntmps26
    go_wp2_with fail
    refine H.out.mono ?_
    rintro e w1 ⟨rfl, rfl⟩
    go_wp2
    go_ret
    exact ⟨rfl, Below.refl _ _⟩
  · refine joined_any sep g 0 cap L w (fun j x hx => ?_) (Array.getElem?_eq_some_iff.1 hg).1 (by omega) hnc hlen
    have h1 := HO.cells (g := g) rfl j (.string x) (by rw [List.getElem?_map, hx]; rfl)
    rwa [show (⟨g, 0, none⟩ : Addr).add j = ⟨g, 0 + j, none⟩ from by unfold Addr.add; split <;> simp_all] at h1

/-- The texts of items, as strings. -/
def itStrs (l : List It) : List ByteArray := l.map fun i => strB (itemT i)
theorem itStrs_len (l : List It) : (itStrs l).length = l.length := by simp [itStrs]
theorem itStrs_join (l : List It) : Lib.join ((itStrs l).map (·.data.toList)) [44] = fieldT l := by
  unfold itStrs fieldT
  rw [List.map_map]
  congr 1

set_option maxRecDepth 20000 in
set_option maxHeartbeats 1000000 in
theorem cfield_any (A : Option Addr) (n c : Nat) (l : List It) (w : World) (hA : RdIts w A n l) (hn : n ≤ 1000) (hwf : ∀ it ∈ l, it.wf) (hw : Pow w) :
    Calls Tryd.prog 13 #[.slice A n c] w (Ret (.string (strB (fieldT l))) w) := by
  obtain ⟨i0, hi0, hz0, hz1, hz2⟩ := info_parts info_str
  have HI0 := Lib.hid hi0
  have HZ0 := Lib.hid hz0
  have HZ1 := Lib.hid hz1
  have HZ2 := Lib.hid hz2
  clear hi0 hz0 hz1 hz2
  have HL : Hid (l.length = n) := hA.1
  have HWF := Lib.hid hwf
  have HP := Lib.hid (fun W (hb : Below w.heap.size w W) => tab_below hw hb)
  clear hwf hw
  go_enter Tryd.func13, Tryd.ntmps13
  go_wp2
  go_loopw [3, 8] (fun v i wr => ∃ (vo : Value) (k : Nat), vo = v ∧ k ≤ n ∧ i = .int .i64 k ∧ Hid (OwnStrs wr w.heap.size vo (itStrs (l.take k))) ∧ Below w.heap.size w wr) (fun _ i _ => n - (intOf i).toNat)
  case atStart => exact ⟨_, 0, rfl, Nat.zero_le _, rfl, World.ownsRow_nil _ _ _ _, Below.refl _ _⟩
  case round =>
    obtain ⟨vo, k, rfl, hk, rfl, HO, hb⟩ := hrel
    have hsz := hb.size
    by_cases hlt : k < n
    · obtain ⟨b, o, it, rfl, hbl, hx, c0, c1, c2, c3⟩ := RdIts.at_ (hA.below hb (Nat.le_refl _)) hlt
      have hlt' : (k : Int) < (n : Int) := by omega
      have hit : it.wf := HWF.out _ (List.mem_of_getElem? hx)
      have HI := Lib.hid (fun W (hb1 : Below w.heap.size w W) => citem_any it hit W (HP.out _ hb1))
      have HS1 : Hid (itStrs (l.take (k + 1)) = itStrs (l.take k) ++ [strB (itemT it)]) := by
        show _ = _
        rw [List.take_add_one, hx]; simp [itStrs]
      have hkl : (itStrs (l.take k)).length = k := by rw [itStrs_len, List.length_take_of_le (by rw [HL.out]; exact hk)]
      clear hx hit
      obtain ⟨T, hT⟩ : ∃ T, T = strB (itemT it) := ⟨_, rfl⟩
      rw [← hT] at HI HS1
      clear hT
      obtain ⟨X0, hX0⟩ : ∃ X, X = itStrs (l.take k) := ⟨_, rfl⟩
      obtain ⟨X1, hX1⟩ : ∃ X, X = itStrs (l.take (k + 1)) := ⟨_, rfl⟩
      rw [← hX0] at HO HS1 hkl
      rw [← hX1] at HS1
      have HX1 := Lib.hid hX1
      have HKL := Lib.hid hkl
      clear hX0 hX1 hkl
      go_wp2_with fail
      refine (HI.out _ (by (repeat' (first | (with_reducible exact Below.refl _ _) | (with_reducible assumption) | (with_reducible refine below_drewN ?_ _) | (with_reducible refine Below.alloc ?_ ?_ _) | (with_reducible refine Below.drew ?_) | (with_reducible refine Below.setCell ?_ ?_ _) | go_size)))).mono ?_
      rintro e w2 ⟨rfl, hb2⟩
      have hb3 : Below wr.heap.size wr w2 := ((Below.refl _ wr).alloc (Nat.le_refl _) _).trans (hb2.mono (by simp))
      have hsz3 := hb3.size
      have hbx : Below w.heap.size w w2 := bthen hb hb3 hsz
      have hi0 := HI0.out
      have hz0 := HZ0.out
      have hz1 := HZ1.out
      have hz2 := HZ2.out
      go_wp2_with (at_builtin; refine wpList_append_own _ rfl _ _ 53 rfl w.heap.size 9 i0 _ 1 16 Tryd.underlying53 hi0 hz0 hz1 hz2 rfl (by decide) _ X0.length _ rfl (own_below HO.out ?cB) ⟨w2.heap.size, 0, none⟩ 1 1 [.string T] rfl rfl ?c1 ?c2 ?c3 ?c4 ?c5 ?c6)
      case cB => exact hb3.alloc hsz3 _
      case c1 =>
        intro j' u hu
        rcases j' with _ | j'
        · simp at hu; subst hu
          exact cell_new rfl rfl
        · simp at hu
      case c2 => intro u hu; simp at hu; subst hu; rfl
      case c3 => rw [HKL.out]; simp only [maxLen]; omega
      case c4 => rw [HKL.out]; omega
      case c5 => simp; omega
      case c6 =>
        intro v' w' hown hg _
        have HV : Hid (OwnStrs w' w.heap.size v' X1) := by
          show World.ownsRow _ _ _ _ _ _ _
          rw [HS1.out, List.length_append, List.map_append]
          exact hown
        have hbn : Below w.heap.size w w' := by
          refine Below.grown (hbx.alloc (by omega) _) hg (by simp; omega) ?_
          intro b hb'
          rcases own_some HO.out with ⟨h1, _⟩ | ⟨g, cap, h1, h2, h3⟩
          · rw [h1] at hb'; simp [Value.ownBlock] at hb'
          · rw [h1] at hb'; simp [Value.ownBlock] at hb'; subst hb'; exact h2
        clear hown hg hi0 hz0 hz1 hz2
        go_wp2
        go_roundw
        case rel => exact ⟨_, k + 1, rfl, by omega, by go_num, by rw [← HX1.out]; exact HV.out, hbn⟩
        case measure => simp [intOf]; omega
    · obtain rfl : k = n := by omega
      have HE : Hid (l.take k = l) := List.take_of_length_le (by rw [HL.out]; exact Nat.le_refl _)
      have HJ := Lib.hid (joined_own ⟨#[44]⟩ vo _ _ wr HO.out (by rw [itStrs_len, HE.out, HL.out]; omega) (by
        have := itStrs_join (l.take k)
        show (Lib.join ((itStrs (l.take k)).map (·.data.toList)) [44]).length ≤ _
        rw [this]
        have := fieldT_take_len HWF.out k (by rw [HL.out]; exact Nat.le_refl _) (by rw [HL.out]; exact hn)
        omega))
      have HF : Hid (Lib.join ((itStrs (l.take k)).map (·.data.toList)) [44] = fieldT l) := by
        show _ = _
        rw [itStrs_join, HE.out]
      go_wp2_with fail
      refine HJ.out.mono ?_
      rintro e w1 ⟨rfl, hb1⟩
      go_wp2
      go_ret
      exact ⟨by rw [← HF.out]; rfl, bthen hb hb1 hsz⟩
end Go.Proofs.YtgliminiiciflaaDoor
