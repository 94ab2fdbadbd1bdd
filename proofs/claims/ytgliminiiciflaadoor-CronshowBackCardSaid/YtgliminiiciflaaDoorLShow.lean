/- The walk of the law CronshowItems. -/
import Derived.Test.YtgliminiiciflaaDoorWShow6
namespace Go.Proofs.YtgliminiiciflaaDoor
open Go.RowKit
set_option linter.unusedSimpArgs false
set_option linter.unusedVariables false

theorem dec_small (u : Nat) (h : u < 10) : Lib.decDigits u = [UInt8.ofNat (48 + u)] := by rw [Lib.decDigits, dif_pos h]
theorem dec_two (u : Nat) (h0 : ¬ u < 10) (h : u / 10 < 10) : Lib.decDigits u = [UInt8.ofNat (48 + u / 10), UInt8.ofNat (48 + u % 10)] := by rw [Lib.decDigits, dif_neg h0, dec_small _ h]; rfl
theorem star15 : strB (itemT ⟨0, 0, 0, 15⟩) = ⟨#[42, 47, 49, 53]⟩ := by
  have : Lib.itoa ((15 : Nat) : Int) = [49, 53] := by
    unfold Lib.itoa
    rw [if_neg (by decide), Int.toNat_natCast, dec_two 15 (by decide) (by decide)]; rfl
  have h2 : itemT ⟨0, 0, 0, 15⟩ = [42, 47, 49, 53] := by
    show 42 :: (47 :: Lib.itoa ((15 : Nat) : Int)) = _
    rw [this]
  rw [h2]; rfl
theorem lives26_any (w : World) (hw : Pow w) : Calls Tryd.prog 10 #[] w (Ret (.bool true) w) := by
  have HI := Lib.hid (citem_any ⟨0, 0, 0, 15⟩ (by refine ⟨?_, ?_, ?_, ?_⟩ <;> constructor <;> decide) w hw)
  rw [star15] at HI
  go_enter Tryd.func10, Tryd.ntmps10
  go_wp2_with fail
  refine HI.out.mono ?_
  rintro e w1 ⟨rfl, hb1⟩
  go_wp2
  go_ret
  exact ⟨rfl, hb1⟩

set_option maxRecDepth 20000 in
set_option maxHeartbeats 1000000 in
theorem cronshowItems_any (A : Option Addr) (n c : Nat) (l : List It) (w : World) (hA : RdIts w A n l) (hn : n ≤ 9223372036854775807) (hwf : ∀ it ∈ l, it.wf) (hw : Pow w) :
    Calls Tryd.prog 3 #[.slice A n c] w (Ret (.bool true) w) := by
  have HP := Lib.hid (fun W (hb : Below w.heap.size w W) => tab_below hw hb)
  have HV := Lib.hid (fun W (hb : Below w.heap.size w W) => lives26_any W (tab_below hw hb))
  by_cases hbig : 200 < n
  · have hbig' : (200 : Int) < (n : Int) := by omega
    clear hA hw hbig hwf
    go_enter Tryd.func3, Tryd.ntmps3
    go_wp2_with fail
    refine (HV.out _ (by (repeat' (first | (with_reducible exact Below.refl _ _) | (with_reducible assumption) | (with_reducible refine below_drewN ?_ _) | (with_reducible refine Below.alloc ?_ ?_ _) | (with_reducible refine Below.drew ?_) | (with_reducible refine Below.setCell ?_ ?_ _) | go_size)))).mono ?_
    rintro e w1 ⟨rfl, hb1⟩
    go_wp2
    go_ret
    exact ⟨rfl, hb1⟩
  · have hbig' : ¬ (200 : Int) < (n : Int) := by omega
    have HWF := Lib.hid hwf
    have HC := Lib.hid (fun W (hb : Below w.heap.size w W) => cfield_any A n c l W (hA.below hb (Nat.le_refl _)) (by omega) hwf (tab_below hw hb))
    have HR := Lib.hid (fun W (hb : Below w.heap.size w W) => rfield_any A n c l W (hA.below hb (Nat.le_refl _)) (by omega) hwf)
    clear hwf hw
    generalize strB (fieldT l) = F at HC HR
    go_enter Tryd.func3, Tryd.ntmps3
    go_wp2
    go_loopw [3] (fun i wr => ∃ k : Nat, k ≤ n ∧ i = .int .i64 k ∧ Below w.heap.size w wr) (fun i _ => n - (intOf i).toNat)
    case atStart => exact ⟨0, Nat.zero_le _, rfl, Below.refl _ _⟩
    case round =>
      obtain ⟨k, hk, rfl, hb⟩ := hrel
      have hsz := hb.size
      by_cases hlt : k < n
      · obtain ⟨b, o, it, rfl, hbl, hx, c0, c1, c2, c3⟩ := RdIts.at_ (hA.below hb (Nat.le_refl _)) hlt
        have hlt' : (k : Int) < (n : Int) := by omega
        have hk0 : (0 : Int) ≤ (k : Int) := by omega
        have hit : it.wf := HWF.out _ (List.mem_of_getElem? hx)
        have HI := Lib.hid (fun W (hb1 : Below w.heap.size w W) => citem_any it hit W (HP.out _ hb1))
        have HJ := Lib.hid (fun W => ritem_any it hit W)
        have g0 : ∀ x : Ext wr, x.W.cell? ⟨b, o + k * 4, none⟩ = some (.int .i64 it.k) := fun x => x.cell c0
        have g1 : ∀ x : Ext wr, x.W.cell? ⟨b, o + k * 4 + 1, none⟩ = some (.int .i64 it.f) := fun x => x.cell c1
        have g2 : ∀ x : Ext wr, x.W.cell? ⟨b, o + k * 4 + 2, none⟩ = some (.int .i64 it.t) := fun x => x.cell c2
        have g3 : ∀ x : Ext wr, x.W.cell? ⟨b, o + k * 4 + 3, none⟩ = some (.int .i64 it.s) := fun x => x.cell c3
        clear hx hit c0 c1 c2 c3
        generalize strB (itemT it) = T at HI HJ
        go_wp2_with fail
        refine wp_region_grew (by kernel_rfl) (by kernel_rfl) ?_
        repeat (first | go_big_quiet_skip | (go_big_quiet_want; go_big_quiet_op; (first | go_big_quiet_on | go_big_quiet_call ((first | (with_reducible exact ext_call _ (HJ.out _)) | (with_reducible exact ext_call _ (HI.out _ (bthen hb (Ext.h _) hsz))))))))
        refine wpQuiet_nil ?_
        rintro _ ⟨xw, rfl⟩
        have hb1 := bthen hb xw.h hsz
        go_wp2
        go_roundw
        case rel => exact ⟨k + 1, by omega, by go_num, hb1⟩
        case measure => simp [intOf]; omega
      · obtain rfl : k = n := by omega
        go_wp2_with fail
        refine (HC.out _ hb).mono ?_
        rintro e w1 ⟨rfl, hb1⟩
        have hb2 := bthen hb hb1 hsz
        go_wp2_with fail
        refine (HR.out _ hb2).mono ?_
        rintro e w2 ⟨rfl, hb3⟩
        have hb4 := bthen hb2 hb3 hb2.size
        go_wp2_with fail
        refine (HV.out _ hb4).mono ?_
        rintro e w3 ⟨rfl, hb5⟩
        go_wp2
        go_ret
        exact ⟨rfl, bthen hb4 hb5 hb4.size⟩
end Go.Proofs.YtgliminiiciflaaDoor
