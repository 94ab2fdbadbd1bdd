/- The walks of the references of rules: the text. -/
import Derived.Test.YtnelecjjbmjhaaaDoorWRfF
namespace Go.Proofs.YtnelecjjbmjhaaaDoor
open Go.RowKit
set_option linter.unusedSimpArgs false
set_option linter.unusedVariables false

theorem join_take {l : List Int} {k : Nat} {x : Int} (hx : l[k]? = some x) : Lib.join ((l.take (k + 1)).map Lib.itoa) [44] = (if k = 0 then [] else Lib.join ((l.take k).map Lib.itoa) [44] ++ [44]) ++ Lib.itoa x := by
  have hkl : k < l.length := (List.getElem?_eq_some_iff.1 hx).1
  rw [List.take_add_one, hx, Option.toList_some, List.map_append, List.map_cons, List.map_nil, join_snoc]
  by_cases h0 : k = 0
  · subst h0; simp
  · have : (l.take k).map Lib.itoa ≠ [] := by
      intro e
      have := congrArg List.length e
      rw [List.length_map, List.length_take_of_le (by omega), List.length_nil] at this
      exact h0 this
    rw [if_neg this, if_neg h0]
theorem joinI_len {l : List Int} (h : ∀ x ∈ l, In64 x) (hl : l.length ≤ 1000) (k : Nat) : (Lib.join ((l.take k).map Lib.itoa) [44]).length ≤ 22000 := by
  have := join_len ((l.take k).map Lib.itoa) [44] 21 (fun x hx => by
    obtain ⟨y, hy, rfl⟩ := List.mem_map.1 hx
    exact itoa_le (h y (List.mem_of_mem_take hy)))
  rw [List.length_map, List.length_take] at this
  have h1 : ([44] : List UInt8).length = 1 := rfl
  rw [h1] at this
  have h2 : min k l.length ≤ 1000 := by omega
  omega
set_option maxRecDepth 20000 in
set_option maxHeartbeats 2000000 in
theorem numbers34_any (N : ByteArray) (A : Option Addr) (n c : Nat) (l : List Int) (hN : N.size ≤ 100) (w : World) (hA : RdInts w A n l) (hn : n ≤ 1000) (hwf : ∀ x ∈ l, In64 x) :
    Calls Tryd.prog 51 #[.string N, .slice A n c] w (Ret (.string (strB (partT N.data.toList (l.map Lib.itoa)))) w) := by
  have HL : Hid (l.length = n) := hA.1
  have HWF := Lib.hid hwf
  have HA := Lib.hid hA
  clear hwf hA
  go_enter Tryd.func51, Tryd.ntmps51
  go_wp2
  go_loopw [5, 6] (fun s i wr => ∃ (S : ByteArray) (k : Nat), s = .string S ∧ k ≤ n ∧ i = .int .i64 k ∧ Hid (S = strB (Lib.join ((l.take k).map Lib.itoa) [44])) ∧ Below w.heap.size w wr) (fun _ i _ => n - (intOf i).toNat)
  case atStart => exact ⟨_, 0, rfl, Nat.zero_le _, rfl, rfl, Below.refl _ _⟩
  case round =>
    obtain ⟨S, k, rfl, hk, rfl, H, hb⟩ := hrel
    have hsz := hb.size
    have hzS : S.size ≤ 22000 := by rw [H.out, strB_size]; exact joinI_len HWF.out (by rw [HL.out]; exact hn) k
    by_cases hlt : k < n
    · obtain ⟨b, o, x, rfl, hbl, hx, c0⟩ := RdInts.at_ (HA.out.below hb (Nat.le_refl _)) hlt
      have hlt' : (k : Int) < (n : Int) := by omega
      have hit : In64 x := HWF.out _ (List.mem_of_getElem? hx)
      have HI := Lib.hid (fun W => num_any x hit W)
      have hzI : (strB (Lib.itoa x)).size ≤ 100 := by have := itoa_size hit; omega
      have HT := Lib.hid (join_take hx)
      clear hx hit
      obtain ⟨T, hT⟩ : ∃ T, T = strB (Lib.itoa x) := ⟨_, rfl⟩
      rw [← hT] at HI hzI
      have HTD : Hid (T.data.toList = Lib.itoa x) := by show _ = _; rw [hT]; exact strB_data _
      clear hT
      by_cases h0 : k = 0
      · subst h0
        simp only [Nat.add_zero] at c0
        go_wp2_with fail
        refine (HI.out _).mono ?_
        rintro e w1 ⟨rfl, hb1⟩
        have hb2 := bthen hb hb1 hsz
        go_wp2
        go_roundw
        case rel =>
          refine ⟨_, 1, rfl, by omega, rfl, ?_, hb2⟩
          refine strB_of ?_
          rw [HT.out, str_app, HTD.out, H.out]; rfl
        case measure => simp [intOf]; omega
      · have h0' : (0 : Int) < (k : Int) := by omega
        have HH : Hid (S.data.toList = Lib.join ((l.take k).map Lib.itoa) [44]) := by show _ = _; rw [H.out]; exact strB_data _
        go_wp2_with fail
        refine (HI.out _).mono ?_
        rintro e w1 ⟨rfl, hb1⟩
        have hb2 := bthen hb hb1 hsz
        go_wp2
        go_roundw
        case rel =>
          refine ⟨_, k + 1, rfl, by omega, by go_num, ?_, hb2⟩
          refine strB_of ?_
          rw [HT.out, if_neg h0, str_app, str_app, HTD.out, HH.out]
        case measure => simp [intOf]; omega
    · obtain rfl : k = n := by omega
      have HS : Hid (S.data.toList = Lib.join (l.map Lib.itoa) [44]) := by
        show _ = _
        rw [H.out, strB_data, List.take_of_length_le (by rw [HL.out]; exact Nat.le_refl _)]
      by_cases h0 : k = 0
      · have HR : Hid (partT N.data.toList (l.map Lib.itoa) = []) := by
          show _ = _
          have : l = [] := List.length_eq_zero_iff.1 (by rw [HL.out, h0])
          subst this; rfl
        have h0' : ((k : Int) == 0) = true := by simp; omega
        clear h0
        go_wp2
        go_ret
        exact ⟨ret_str (by rw [HR.out]), hb⟩
      · have HR : Hid (partT N.data.toList (l.map Lib.itoa) = N.data.toList ++ Lib.join (l.map Lib.itoa) [44]) := by
          show _ = _
          unfold partT
          rw [if_neg]
          intro e
          have := congrArg List.length e
          rw [List.length_map, HL.out] at this
          exact h0 this
        have h0' : ((k : Int) == 0) = false := by simp; omega
        clear h0
        generalize partT N.data.toList (l.map Lib.itoa) = R at *
        go_wp2
        go_ret
        exact ⟨ret_str (by rw [HR.out, str_app, HS.out]), hb⟩
end Go.Proofs.YtnelecjjbmjhaaaDoor
