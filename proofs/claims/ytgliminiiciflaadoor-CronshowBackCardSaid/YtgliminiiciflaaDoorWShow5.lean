/- The walks of the two texts of a field. -/
import Derived.Test.YtgliminiiciflaaDoorWShow4
namespace Go.Proofs.YtgliminiiciflaaDoor
open Go.RowKit
set_option linter.unusedSimpArgs false
set_option linter.unusedVariables false

theorem rets_eq {S : ByteArray} {l : List UInt8} (h : S = strB l) : Ending.returned (.string S) = .returned (.string (strB l)) := by rw [h]
theorem fieldT_take {l : List It} {k : Nat} {it : It} (hx : l[k]? = some it) : fieldT (l.take (k + 1)) = (if k = 0 then [] else fieldT (l.take k) ++ [44]) ++ itemT it := by
  have hk := (List.getElem?_eq_some_iff.1 hx).1
  rw [List.take_add_one, hx]
  unfold fieldT
  rw [show (some it).toList = [it] from rfl, List.map_append, List.map_cons, List.map_nil, join_snoc]
  by_cases h0 : k = 0
  · subst h0; simp
  · rw [if_neg h0, if_neg (by intro h; rw [List.map_eq_nil_iff, List.take_eq_nil_iff] at h; rcases h with h | h; (· omega); subst h; simp at hk)]
theorem fieldT_len {l : List It} (h : ∀ it ∈ l, it.wf) : (fieldT l).length ≤ l.length * 101 := by
  have := join_len (l.map itemT) [44] 100 (by
    intro x hx
    obtain ⟨i, hi, rfl⟩ := List.mem_map.1 hx
    exact itemT_len (h i hi))
  simpa [fieldT] using this
theorem fieldT_take_len {l : List It} (h : ∀ it ∈ l, it.wf) (k : Nat) (hk : k ≤ l.length) (hl : l.length ≤ 1000) : (fieldT (l.take k)).length ≤ 101000 := by
  have := fieldT_len (l := l.take k) (fun it hit => h it (List.mem_of_mem_take hit))
  rw [List.length_take_of_le hk] at this
  omega

set_option maxRecDepth 20000 in
set_option maxHeartbeats 1000000 in
theorem rfield_any (A : Option Addr) (n c : Nat) (l : List It) (w : World) (hA : RdIts w A n l) (hn : n ≤ 1000) (hwf : ∀ it ∈ l, it.wf) :
    Calls Tryd.prog 14 #[.slice A n c] w (Ret (.string (strB (fieldT l))) w) := by
  have HL : Hid (l.length = n) := hA.1
  have HWF := Lib.hid hwf
  clear hwf
  go_enter Tryd.func14, Tryd.ntmps14
  go_wp2
  go_loopw [3, 4] (fun s i wr => ∃ (S : ByteArray) (k : Nat), s = .string S ∧ k ≤ n ∧ i = .int .i64 k ∧ Hid (S = strB (fieldT (l.take k))) ∧ Below w.heap.size w wr) (fun _ i _ => n - (intOf i).toNat)
  case atStart => exact ⟨_, 0, rfl, Nat.zero_le _, rfl, rfl, Below.refl _ _⟩
  case round =>
    obtain ⟨S, k, rfl, hk, rfl, H, hb⟩ := hrel
    have hsz := hb.size
    have hzS : S.size ≤ 101000 := by rw [H.out, strB_size]; exact fieldT_take_len HWF.out k (by rw [HL.out]; exact hk) (by rw [HL.out]; exact hn)
    by_cases hlt : k < n
    · obtain ⟨b, o, it, rfl, hbl, hx, c0, c1, c2, c3⟩ := RdIts.at_ (hA.below hb (Nat.le_refl _)) hlt
      have hlt' : (k : Int) < (n : Int) := by omega
      have hit : it.wf := HWF.out _ (List.mem_of_getElem? hx)
      have HI := Lib.hid (fun W => ritem_any it hit W)
      have hzI : (strB (itemT it)).size ≤ 100 := by rw [strB_size]; exact itemT_len hit
      have HT := Lib.hid (fieldT_take hx)
      clear hx hit
      obtain ⟨T, hT⟩ : ∃ T, T = strB (itemT it) := ⟨_, rfl⟩
      rw [← hT] at HI hzI
      have HTD : Hid (T.data.toList = itemT it) := by show _ = _; rw [hT]; exact strB_data _
      clear hT
      by_cases h0 : k = 0
      · subst h0
        simp only [Nat.zero_mul, Nat.add_zero] at c0 c1 c2 c3
        go_wp2_with fail
        refine (HI.out _).mono ?_
        rintro e w1 ⟨rfl, hb1⟩
        have hb2 := bthen hb hb1 hsz
        go_wp2
        go_roundw
        case rel =>
          refine ⟨_, 1, rfl, by omega, rfl, ?_, hb2⟩
          refine strB_of ?_
          rw [HT.out, str_app, HTD.out, H.out]; rfl
        case measure => simp [intOf]; omega
      · have h0' : (0 : Int) < (k : Int) := by omega
        have HH : Hid (S.data.toList = fieldT (l.take k)) := by show _ = _; rw [H.out]; exact strB_data _
        go_wp2_with fail
        refine (HI.out _).mono ?_
        rintro e w1 ⟨rfl, hb1⟩
        have hb2 := bthen hb hb1 hsz
        go_wp2
        go_roundw
        case rel =>
          refine ⟨_, k + 1, rfl, by omega, by go_num, ?_, hb2⟩
          refine strB_of ?_
          rw [HT.out, if_neg h0, str_app, str_app, HTD.out, HH.out]
        case measure => simp [intOf]; omega
    · obtain rfl : k = n := by omega
      have HF : Hid (S = strB (fieldT l)) := by
        show _ = _
        rw [H.out, List.take_of_length_le (by rw [HL.out]; exact Nat.le_refl _)]
      go_wp2
      go_ret
      exact ⟨rets_eq HF.out, hb⟩
end Go.Proofs.YtgliminiiciflaaDoor
