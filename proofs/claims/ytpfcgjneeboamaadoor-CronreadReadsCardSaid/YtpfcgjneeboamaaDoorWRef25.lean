/- The walks of package feriaref25: small letters, names, numbers, steps. -/
import Derived.Test.YtpfcgjneeboamaaDoorWRefR3
import Derived.Test.YtpfcgjneeboamaaDoorWRefR4
import Derived.Test.YtpfcgjneeboamaaDoorRRef25
import Derived.Test.YtpfcgjneeboamaaDoorWRef24
import Derived.Test.YtpfcgjneeboamaaDoorWCronread
namespace Go.Proofs.YtpfcgjneeboamaaDoor
open Go.RowKit
set_option linter.unusedSimpArgs false
set_option linter.unusedVariables false

theorem info_u8 : (Tryd.prog.info? 5).map (fun i => (i.zero, i.size, i.bytes)) = some (some (.int .u8 0), 1, 1) := by kernel_rfl
/-- Bytes of the call's own. -/
abbrev OwnB (w : World) (B : Nat) (v : Value) (l : List UInt8) : Prop := w.ownsRow B 5 1 v l.length (l.map fun c => Value.int .u8 (c.toNat : Int))
theorem lowerL_snoc (l : List UInt8) (c : UInt8) : lowerL (l ++ [c]) = lowerL l ++ [lowerB c] := by simp [lowerL]
theorem lowerB_val (c : UInt8) : ((lowerB c).toNat : Int) = if 65 ≤ (c.toNat : Int) ∧ (c.toNat : Int) ≤ 90 then (c.toNat : Int) + 32 else (c.toNat : Int) := by
  unfold lowerB
  by_cases h : 65 ≤ c.toNat ∧ c.toNat ≤ 90
  · rw [if_pos h, if_pos (by omega), UInt8.toNat_add]
    have : (32 : UInt8).toNat = 32 := rfl
    rw [this]
    omega
  · rw [if_neg h, if_neg (by omega)]
theorem conv_nil (W : World) : (convert 61 9 (.slice none 0 0)).run Tryd.prog W = .ok (.string ⟨#[]⟩) W := by
  rw [run_convert_bytes_string W 61 9 5 none 0 0 Tryd.underlying61 Tryd.underlying5 Tryd.underlying9]
  rfl
theorem grown_own {B n : Nat} {w0 w w' : World} {v : Value} {t : TypeId} {k : Nat} {xs : List Value} (h : w.ownsRow B t k v n xs) (hb : Below B w0 w) (hB : B ≤ w.heap.size) (hg : w.grownBy w' v.ownBlock) : Below B w0 w' := by
  refine Below.grown hb hg hB ?_
  intro b hb'
  rcases own_some h with ⟨h1, _⟩ | ⟨g, cap, h1, h2, h3⟩
  · rw [h1] at hb'; simp [Value.ownBlock] at hb'
  · rw [h1] at hb'; simp [Value.ownBlock] at hb'; subst hb'; exact h2
theorem conv_own {W : World} {B : Nat} {v : Value} {X : List UInt8} (h : OwnB W B v X) : (convert 61 9 v).run Tryd.prog W = .ok (.string (strB X)) W := by
  have hf : X.flatMap byteEnc = X.map fun c => Value.int .u8 (c.toNat : Int) := by
    clear h
    induction X with
    | nil => rfl
    | cons a l ih => rw [List.flatMap_cons, ih]; rfl
  rcases own_some h with ⟨rfl, h2⟩ | ⟨g, cap, rfl, h2, h3⟩
  · obtain rfl : X = [] := List.length_eq_zero_iff.1 h2
    exact conv_nil W
  · obtain ⟨A, c, he, h4, h5, hrd, _⟩ := Rd.of_own (enc := byteEnc) (fun _ => rfl) (l := X) (by rw [hf]; exact h) rfl
    have e1 : A = some ⟨g, 0, none⟩ := by injection he with e1 e2 e3; exact e1.symm
    subst e1
    refine run_convert_bytes_back (P := Tryd.prog) W 61 9 5 ⟨g, 0, none⟩ cap X Tryd.underlying61 Tryd.underlying5 Tryd.underlying9 ?_
    intro j hj
    have e : (⟨g, 0, none⟩ : Addr).add j = ⟨g, j, none⟩ := by unfold Addr.add; split <;> simp_all
    rw [e]
    obtain ⟨b, o, y, hA, hbl, hx, hc⟩ := RdBytes.at_ hrd hj
    cases hA
    rw [Nat.zero_add] at hc
    rw [hc]
    rw [List.getElem?_eq_getElem hj] at hx
    cases hx
    rfl
set_option maxRecDepth 20000 in
set_option maxHeartbeats 2000000 in
theorem rsmall_any (S : ByteArray) (hS : S.size ≤ 1000000) (w : World) : Calls Tryd.prog 60 #[.string S] w (Ret (.string (strB (lowerL S.data.toList))) w) := by
  obtain ⟨i0, hi0, hz0, hz1, hz2⟩ := info_parts info_u8
  have HI0 := Lib.hid hi0
  have HZ0 := Lib.hid hz0
  have HZ1 := Lib.hid hz1
  have HZ2 := Lib.hid hz2
  clear hi0 hz0 hz1 hz2
  go_enter Tryd.func60, Tryd.ntmps60
  go_wp2
  go_loopw [3, 4] (fun v i wr => ∃ (vo : Value) (k : Nat), vo = v ∧ k ≤ S.size ∧ i = .int .i64 k ∧ Hid (OwnB wr w.heap.size vo (lowerL (S.data.toList.take k))) ∧ Below w.heap.size w wr) (fun _ i _ => S.size - (intOf i).toNat)
  case atStart => exact ⟨_, 0, rfl, Nat.zero_le _, rfl, World.ownsRow_nil _ _ _ _, Below.refl _ _⟩
  case round =>
    obtain ⟨vo, k, rfl, hk, rfl, HO, hb⟩ := hrel
    have hsz := hb.size
    by_cases hlt : k < S.size
    · have hlt' : (k : Int) < (S.size : Int) := by omega
      have hx := byte_at S k hlt
      have HS1 : Hid (lowerL (S.data.toList.take (k + 1)) = lowerL (S.data.toList.take k) ++ [lowerB S[k]]) := by
        show _ = _
        rw [List.take_add_one, hx]
        exact lowerL_snoc _ _
      have hkl : (lowerL (S.data.toList.take k)).length = k := by
        unfold lowerL; rw [List.length_map, List.length_take_of_le (by rw [len_data]; exact hk)]
      have hv := lowerB_val S[k]
      have hc1 : (S[k].toNat : Int) ≤ 255 := by have := S[k].toNat_lt; omega
      have hc0 : (0 : Int) ≤ (S[k].toNat : Int) := by omega
      obtain ⟨X0, hX0⟩ : ∃ X, X = lowerL (S.data.toList.take k) := ⟨_, rfl⟩
      obtain ⟨X1, hX1⟩ : ∃ X, X = lowerL (S.data.toList.take (k + 1)) := ⟨_, rfl⟩
      rw [← hX0] at HO HS1 hkl
      rw [← hX1] at HS1
      have HX1 := Lib.hid hX1
      have HKL := Lib.hid hkl
      have HV := Lib.hid hv
      clear hX0 hX1 hkl hx hv
      have hi0 := HI0.out
      have hz0 := HZ0.out
      have hz1 := HZ1.out
      have hz2 := HZ2.out
      by_cases hu : 65 ≤ (S[k].toNat : Int) ∧ (S[k].toNat : Int) ≤ 90
      · obtain ⟨u1, u2⟩ := hu
        have HV2 : Hid (((lowerB S[k]).toNat : Int) = (S[k].toNat : Int) + 32) := by show _ = _; rw [HV.out, if_pos ⟨u1, u2⟩]
        generalize lowerB S[k] = y at *
        clear HV
        go_wp2_with (at_builtin; refine wpList_append_own _ rfl _ _ 61 rfl w.heap.size 5 i0 (.int .u8 0) 1 1 Tryd.underlying61 hi0 hz0 hz1 hz2 rfl (by decide) _ X0.length _ rfl (HO.out.alloc _) ⟨wr.heap.size, 0, none⟩ 1 1 [.int .u8 ((S[k].toNat : Int) + 32)] rfl rfl ?c1 ?c2 ?c3 ?c4 ?c5 ?c6)
        try case c1 =>
          intro j' u hu
          rcases j' with _ | j'
          · simp at hu; subst hu
            exact cell_new rfl rfl
          · simp at hu
        case c2 => first | (intro u hu; simp at hu; subst hu; rfl) | rfl
        case c3 => rw [HKL.out]; simp only [maxLen]; omega
        case c4 => rw [HKL.out]; omega
        case c5 => first | omega | (simp; omega)
        case c6 =>
          intro v' w' hown hg _
          have HVV : Hid (OwnB w' w.heap.size v' X1) := by
            show World.ownsRow _ _ _ _ _ _ _
            rw [HS1.out, List.length_append, List.map_append, List.map_cons, List.map_nil, HV2.out]
            exact hown
          have hbn : Below w.heap.size w w' := grown_own (HO.out.alloc _) (hb.alloc hsz _) (by simp; omega) hg
          clear hown hg hi0 hz0 hz1 hz2
          go_wp2
          go_roundw
          case rel => exact ⟨_, k + 1, rfl, by omega, by go_num, by rw [← HX1.out]; exact HVV.out, hbn⟩
          case measure => simp [intOf]; omega
      · have HV2 : Hid (((lowerB S[k]).toNat : Int) = (S[k].toNat : Int)) := by show _ = _; rw [HV.out, if_neg hu]
        generalize lowerB S[k] = y at *
        clear HV
        by_cases u1 : 65 ≤ (S[k].toNat : Int)
        · have u2 : ¬ (S[k].toNat : Int) ≤ 90 := fun h => hu ⟨u1, h⟩
          clear hu
          go_wp2_with (at_builtin; refine wpList_append_own _ rfl _ _ 61 rfl w.heap.size 5 i0 (.int .u8 0) 1 1 Tryd.underlying61 hi0 hz0 hz1 hz2 rfl (by decide) _ X0.length _ rfl (HO.out.alloc _) ⟨wr.heap.size, 0, none⟩ 1 1 [.int .u8 ((S[k].toNat : Int))] rfl rfl ?c1 ?c2 ?c3 ?c4 ?c5 ?c6)
          try case c1 =>
            intro j' u hu
            rcases j' with _ | j'
            · simp at hu; subst hu
              exact cell_new rfl rfl
            · simp at hu
          case c2 => first | (intro u hu; simp at hu; subst hu; rfl) | rfl
          case c3 => rw [HKL.out]; simp only [maxLen]; omega
          case c4 => rw [HKL.out]; omega
          case c5 => first | omega | (simp; omega)
          case c6 =>
            intro v' w' hown hg _
            have HVV : Hid (OwnB w' w.heap.size v' X1) := by
              show World.ownsRow _ _ _ _ _ _ _
              rw [HS1.out, List.length_append, List.map_append, List.map_cons, List.map_nil, HV2.out]
              exact hown
            have hbn : Below w.heap.size w w' := grown_own (HO.out.alloc _) (hb.alloc hsz _) (by simp; omega) hg
            clear hown hg hi0 hz0 hz1 hz2
            go_wp2
            go_roundw
            case rel => exact ⟨_, k + 1, rfl, by omega, by go_num, by rw [← HX1.out]; exact HVV.out, hbn⟩
            case measure => simp [intOf]; omega
        · clear hu
          go_wp2_with (at_builtin; refine wpList_append_own _ rfl _ _ 61 rfl w.heap.size 5 i0 (.int .u8 0) 1 1 Tryd.underlying61 hi0 hz0 hz1 hz2 rfl (by decide) _ X0.length _ rfl (HO.out.alloc _) ⟨wr.heap.size, 0, none⟩ 1 1 [.int .u8 ((S[k].toNat : Int))] rfl rfl ?c1 ?c2 ?c3 ?c4 ?c5 ?c6)
          try case c1 =>
            intro j' u hu
            rcases j' with _ | j'
            · simp at hu; subst hu
              exact cell_new rfl rfl
            · simp at hu
          case c2 => first | (intro u hu; simp at hu; subst hu; rfl) | rfl
          case c3 => rw [HKL.out]; simp only [maxLen]; omega
          case c4 => rw [HKL.out]; omega
          case c5 => first | omega | (simp; omega)
          case c6 =>
            intro v' w' hown hg _
            have HVV : Hid (OwnB w' w.heap.size v' X1) := by
              show World.ownsRow _ _ _ _ _ _ _
              rw [HS1.out, List.length_append, List.map_append, List.map_cons, List.map_nil, HV2.out]
              exact hown
            have hbn : Below w.heap.size w w' := grown_own (HO.out.alloc _) (hb.alloc hsz _) (by simp; omega) hg
            clear hown hg hi0 hz0 hz1 hz2
            go_wp2
            go_roundw
            case rel => exact ⟨_, k + 1, rfl, by omega, by go_num, by rw [← HX1.out]; exact HVV.out, hbn⟩
            case measure => simp [intOf]; omega
    · obtain rfl : k = S.size := by omega
      have hE : S.data.toList.take S.size = S.data.toList := List.take_of_length_le (by rw [len_data]; exact Nat.le_refl _)
      rw [hE] at HO
      have hll : (lowerL S.data.toList).length = S.size := by unfold lowerL; rw [List.length_map, len_data]
      generalize lowerL S.data.toList = X at *
      have hcv := conv_own HO.out
      clear hE hll HO
      go_wp2
      go_ret
      exact ⟨rfl, hb⟩
end Go.Proofs.YtpfcgjneeboamaaDoor
