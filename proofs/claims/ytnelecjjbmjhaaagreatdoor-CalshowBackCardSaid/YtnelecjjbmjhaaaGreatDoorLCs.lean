/- The example of chapter 30, and the walk of the law CalshowItems. -/
import Derived.Test.YtnelecjjbmjhaaaGreatDoorWCsF
import Derived.Test.YtnelecjjbmjhaaaGreatDoorLCal
namespace Go.Proofs.YtnelecjjbmjhaaaGreatDoor
open Go.RowKit
set_option linter.unusedSimpArgs false
set_option linter.unusedVariables false

theorem dec_small2 (u : Nat) (h : u < 10) : Lib.decDigits u = [UInt8.ofNat (48 + u)] := by rw [Lib.decDigits, dif_pos h]
theorem dec_two2 (u : Nat) (h0 : ¬ u < 10) (h : u / 10 < 10) : Lib.decDigits u = [UInt8.ofNat (48 + u / 10), UInt8.ofNat (48 + u % 10)] := by rw [Lib.decDigits, dif_neg h0, dec_small2 _ h]; rfl
def ex30 : List UInt8 := [57, 58, 51, 48]
def ev30 : CalV := ⟨[], [⟨0, 0, 0, 1⟩], [⟨0, 0, 0, 1⟩], [⟨0, 0, 0, 1⟩], false, [⟨1, 9, 0, 0⟩], [⟨1, 30, 0, 0⟩], [⟨1, 0, 0, 0⟩]⟩
theorem ex30_read : kread ex30 = .ok ev30 := by kernel_rfl
theorem ev30_chk : kchk ev30 = (7, 0) := by kernel_rfl
theorem pad2 (u : Nat) (h : u < 10) : numT 4 (u : Int) = [48, UInt8.ofNat (48 + u)] := by
  rw [numT_pad (by decide), padT_short (by omega), itoa_nat, dec_small2 u h]; rfl
theorem pad22 (u : Nat) (h0 : ¬ u < 10) (h : u / 10 < 10) : numT 5 (u : Int) = [UInt8.ofNat (48 + u / 10), UInt8.ofNat (48 + u % 10)] := by
  rw [numT_pad (by decide), padT_short (by omega), itoa_nat, dec_two2 u h0 h]; rfl
theorem pad2' (u : Nat) (h : u < 10) : numT 6 (u : Int) = [48, UInt8.ofNat (48 + u)] := by
  rw [numT_pad (by decide), padT_short (by omega), itoa_nat, dec_small2 u h]; rfl
theorem ev30_text : evT ev30 = [42, 45, 42, 45, 42, 32, 48, 57, 58, 51, 48, 58, 48, 48] := by
  have h9 : cfT 4 ev30.hour = [48, 57] := by
    show Lib.join [citT 4 ⟨1, 9, 0, 0⟩] [44] = _
    have : citT 4 ⟨1, 9, 0, 0⟩ = [48, 57] := by show numT 4 ((9 : Nat) : Int) = _; rw [pad2 9 (by decide)]; rfl
    rw [this]; rfl
  have h30 : cfT 5 ev30.minute = [51, 48] := by
    show Lib.join [citT 5 ⟨1, 30, 0, 0⟩] [44] = _
    have : citT 5 ⟨1, 30, 0, 0⟩ = [51, 48] := by show numT 5 ((30 : Nat) : Int) = _; rw [pad22 30 (by decide) (by decide)]; rfl
    rw [this]; rfl
  have h0 : cfT 6 ev30.second = [48, 48] := by
    show Lib.join [citT 6 ⟨1, 0, 0, 0⟩] [44] = _
    have : citT 6 ⟨1, 0, 0, 0⟩ = [48, 48] := by show numT 6 ((0 : Nat) : Int) = _; rw [pad2' 0 (by decide)]; rfl
    rw [this]; rfl
  unfold evT dateT timeT
  rw [h9, h30, h0]
  rfl
theorem mayP_wf30 {f : Int} (h0 : 0 ≤ f) (h6 : f ≤ 6) {i : It} (h : MayP i (kLo f) (kHi f)) : i.wf := by
  have hb := kBounds f h0 h6
  obtain ⟨k, a, b, s⟩ := i
  simp only [MayP] at h
  refine ⟨?_, ?_, ?_, ?_⟩ <;> simp only [In64] <;> omega
theorem kchk_wf {c : CalV} (h : kchk c = (7, 0)) : ∀ j, j < 7 → ∀ it ∈ kget c j, it.wf := fun j hj it hit =>
  mayP_wf30 (by omega) (by omega) ((kfault_parts (kchk_parts h j hj)).2.2 it hit).2
set_option maxRecDepth 20000 in
set_option maxHeartbeats 2000000 in
theorem lives30_any (w : World) (hw : Pow w) (hm : MaxAt w) : Calls Tryz.prog 12 #[] w (Ret (.bool true) w) := by
  have HA := Lib.hid (calread_ev (strB ex30) (by rw [strB_size]; decide) w hm)
  have HS := Lib.hid (fun W A n m (hb : Below w.heap.size w W) (hr : RdEv W A n ev30) (hn : ∀ j, j < 8 → j ≠ 4 → n j ≤ 1000) => cshow30_ok ev30 A n m W hr hn (kchk_wf ev30_chk) (tab_below hw hb) ev30_chk)
  unfold RetEv at HA
  rw [strB_data, ex30_read, strB_size] at HA
  rw [ev30_text] at HS
  unfold kcal kplace kerr at HA
  dsimp only at HA
  clear hw hm
  go_enter Tryz.func12, Tryz.ntmps12
  go_wp2_with fail
  refine HA.out.mono ?_
  rintro e w1 ⟨hb1, A, n, m, rfl, hr1, hn⟩
  have HS1 := Lib.hid (fun W (hb : Below w1.heap.size w1 W) => HS.out W A n m (bthen hb1 hb hb1.size) (hr1.below hb) (fun j h1 h2 => Nat.le_trans (hn j h1 h2) (by decide)))
  have hz := hb1.size
  clear HS hr1 hn
  unfold evV at *
  go_wp2_with fail
  refine (HS1.out _ (by (repeat' (first | (with_reducible exact Below.refl _ _) | (with_reducible assumption) | (with_reducible refine below_drewN ?_ _) | (with_reducible refine Below.alloc ?_ ?_ _) | (with_reducible refine Below.drew ?_) | (with_reducible refine Below.setCell ?_ ?_ _) | go_size)))).mono ?_
  rintro e w2 ⟨rfl, hb2⟩
  go_wp2
  go_ret
  exact ⟨ret_bool (by rw [ByteArray.toList_eq, strB_data]; rfl), (hb1.alloc hz _).trans (hb2.mono (by simp; omega))⟩

/-- An event of months alone. -/
def monC (l : List It) : CalV := ⟨[], [], l, [], false, [], [], []⟩
theorem monC_rd {w : World} {A : Option Addr} {n : Nat} {l : List It} (h : RdIts w A n l) : RdEv w (fun k => if k = 2 then A else none) (fun k => if k = 2 then n else 0) (monC l) := by
  intro j hj h4
  by_cases e : j = 2
  · subst e; exact h
  · dsimp only
    rw [if_neg e, if_neg e]
    have : calL (monC l) j = [] := by
      obtain rfl | rfl | rfl | rfl | rfl | rfl : j = 0 ∨ j = 1 ∨ j = 3 ∨ j = 5 ∨ j = 6 ∨ j = 7 := by omega
      all_goals rfl
    rw [this]; exact Rd.nil
theorem monC_wf {l : List It} (h : ∀ it ∈ l, it.wf) : ∀ j, j < 7 → ∀ it ∈ kget (monC l) j, it.wf := by
  intro j hj it hit
  by_cases e : j = 2
  · subst e; exact h it hit
  · have : kget (monC l) j = [] := by
      obtain rfl | rfl | rfl | rfl | rfl | rfl : j = 0 ∨ j = 1 ∨ j = 3 ∨ j = 4 ∨ j = 5 ∨ j = 6 := by omega
      all_goals rfl
    rw [this] at hit; simp at hit
set_option maxRecDepth 20000 in
set_option maxHeartbeats 4000000 in
theorem calshowItems_any (A : Option Addr) (n c : Nat) (l : List It) (f : Int) (w : World) (hA : RdIts w A n l) (hn : n ≤ 9223372036854775807) (hwf : ∀ it ∈ l, it.wf) (hw : Pow w) (hm : MaxAt w) :
    Calls Tryz.prog 4 #[.slice A n c, .int .i64 f] w (Ret (.bool true) w) := by
  have HP := Lib.hid (fun W (hb : Below w.heap.size w W) => tab_below hw hb)
  have HV := Lib.hid (fun W (hb : Below w.heap.size w W) => lives30_any W (tab_below hw hb) (hm.below hb))
  by_cases hbig : 200 < n
  · have hbig' : (200 : Int) < (n : Int) := by omega
    clear hA hw hbig hwf hm
    go_enter Tryz.func4, Tryz.ntmps4
    go_wp2_with fail
    refine (HV.out _ (by (repeat' (first | (with_reducible exact Below.refl _ _) | (with_reducible assumption) | (with_reducible refine below_drewN ?_ _) | (with_reducible refine Below.alloc ?_ ?_ _) | (with_reducible refine Below.drew ?_) | (with_reducible refine Below.setCell ?_ ?_ _) | go_size)))).mono ?_
    rintro e w1 ⟨rfl, hb1⟩
    go_wp2
    go_ret
    exact ⟨rfl, hb1⟩
  · have hbig' : ¬ (200 : Int) < (n : Int) := by omega
    have HWF := Lib.hid hwf
    have hn1 : ∀ j, j < 8 → j ≠ 4 → (fun k => if k = 2 then n else 0) j ≤ 1000 := fun j _ _ => by dsimp only; split <;> omega
    have HC := Lib.hid (fun W (hb : Below w.heap.size w W) g => cfield30_any (monC l) (fun k => if k = 2 then A else none) (fun k => if k = 2 then n else 0) (fun k => if k = 2 then c else 0) false g W (monC_rd (hA.below hb (Nat.le_refl _))) hn1 (monC_wf hwf) (tab_below hw hb))
    have HR := Lib.hid (fun W (hb : Below w.heap.size w W) g => rfield30_any (monC l) (fun k => if k = 2 then A else none) (fun k => if k = 2 then n else 0) (fun k => if k = 2 then c else 0) false g W (monC_rd (hA.below hb (Nat.le_refl _))) hn1 (monC_wf hwf))
    have hev : evV (fun k => if k = 2 then A else none) (fun k => if k = 2 then n else 0) (fun k => if k = 2 then c else 0) false = .agg #[.slice none 0 0, .slice none 0 0, .slice A n c, .slice none 0 0, .bool false, .slice none 0 0, .slice none 0 0, .slice none 0 0] := rfl
    rw [hev] at HC HR
    have HC2 := Lib.hid (fun W (hb : Below w.heap.size w W) => HC.out W hb 2)
    have HR2 := Lib.hid (fun W (hb : Below w.heap.size w W) => HR.out W hb 2)
    have HCf := Lib.hid (fun W (hb : Below w.heap.size w W) => HC.out W hb f)
    have HRf := Lib.hid (fun W (hb : Below w.heap.size w W) => HR.out W hb f)
    clear hwf hw hm hev hn1 HC HR
    generalize strB (cfT 2 (fieldOf (monC l) 2)) = F2 at HC2 HR2
    generalize strB (cfT f (fieldOf (monC l) f)) = Ff at HCf HRf
    go_enter Tryz.func4, Tryz.ntmps4
    go_wp2
    go_loopw [5] (fun i wr => ∃ k : Nat, k ≤ n ∧ i = .int .i64 k ∧ Below w.heap.size w wr) (fun i _ => n - (intOf i).toNat)
    case atStart => exact ⟨0, Nat.zero_le _, rfl, Below.refl _ _⟩
    case round =>
      obtain ⟨k, hk, rfl, hb⟩ := hrel
      have hsz := hb.size
      by_cases hlt : k < n
      · obtain ⟨b, o, it, rfl, hbl, hx, c0, c1, c2, c3⟩ := RdIts.at_ (hA.below hb (Nat.le_refl _)) hlt
        have hlt' : (k : Int) < (n : Int) := by omega
        have hk0 : (0 : Int) ≤ (k : Int) := by omega
        have hit : it.wf := HWF.out _ (List.mem_of_getElem? hx)
        have HI := Lib.hid (fun W (hb1 : Below w.heap.size w W) => citem30_any it f hit W (HP.out _ hb1))
        have HJ := Lib.hid (fun W => ritem30_any it f hit W)
        have g0 : ∀ x : Ext wr, x.W.cell? ⟨b, o + k * 4, none⟩ = some (.int .i64 it.k) := fun x => x.cell c0
        have g1 : ∀ x : Ext wr, x.W.cell? ⟨b, o + k * 4 + 1, none⟩ = some (.int .i64 it.f) := fun x => x.cell c1
        have g2 : ∀ x : Ext wr, x.W.cell? ⟨b, o + k * 4 + 2, none⟩ = some (.int .i64 it.t) := fun x => x.cell c2
        have g3 : ∀ x : Ext wr, x.W.cell? ⟨b, o + k * 4 + 3, none⟩ = some (.int .i64 it.s) := fun x => x.cell c3
        clear hx hit c0 c1 c2 c3
        generalize strB (citT f it) = T at HI HJ
        go_wp2_with fail
        refine wp_region_grew (by kernel_rfl) (by kernel_rfl) ?_
        repeat (first | go_big_quiet_skip | (go_big_quiet_want; go_big_quiet_op; (first | go_big_quiet_on | go_big_quiet_call ((first | (with_reducible exact ext_call _ (HJ.out _)) | (with_reducible exact ext_call _ (HI.out _ (bthen hb (Ext.h _) hsz))))))))
        refine wpQuiet_nil ?_
        rintro _ ⟨xw, rfl⟩
        have hb1 := bthen hb xw.h hsz
        go_wp2
        go_roundw
        case rel => exact ⟨k + 1, by omega, by go_num, hb1⟩
        case measure => simp [intOf]; omega
      · obtain rfl : k = n := by omega
        go_wp2_with fail
        generalize hW : World.alloc wr _ = W1
        have hbW : Below w.heap.size w W1 := by rw [← hW]; exact hb.alloc hsz _
        have HEv : EvAt W1 wr.heap.size (fun i => if i = 2 then A else none) (fun i => if i = 2 then k else 0) (fun i => if i = 2 then c else 0) false := by
          rw [← hW]; exact evAt_new wr (fun i => if i = 2 then A else none) (fun i => if i = 2 then k else 0) (fun i => if i = 2 then c else 0) false 40
        clear hW
        have c0 : ∀ x : Ext W1, x.W.cell? ⟨wr.heap.size, 0, none⟩ = some (.slice none 0 0) := fun x => x.cell (HEv.h0)
        have c1 : ∀ x : Ext W1, x.W.cell? ⟨wr.heap.size, 1, none⟩ = some (.slice none 0 0) := fun x => x.cell (HEv.h1)
        have c2 : ∀ x : Ext W1, x.W.cell? ⟨wr.heap.size, 2, none⟩ = some (.slice A k c) := fun x => x.cell (HEv.h2)
        have c3 : ∀ x : Ext W1, x.W.cell? ⟨wr.heap.size, 3, none⟩ = some (.slice none 0 0) := fun x => x.cell (HEv.h3)
        have c4 : ∀ x : Ext W1, x.W.cell? ⟨wr.heap.size, 4, none⟩ = some (.bool false) := fun x => x.cell (HEv.h4)
        have c5 : ∀ x : Ext W1, x.W.cell? ⟨wr.heap.size, 5, none⟩ = some (.slice none 0 0) := fun x => x.cell (HEv.h5)
        have c6 : ∀ x : Ext W1, x.W.cell? ⟨wr.heap.size, 6, none⟩ = some (.slice none 0 0) := fun x => x.cell (HEv.h6)
        have c7 : ∀ x : Ext W1, x.W.cell? ⟨wr.heap.size, 7, none⟩ = some (.slice none 0 0) := fun x => x.cell (HEv.h7)
        clear HEv
        refine wp_region_grew (by kernel_rfl) (by kernel_rfl) ?_
        repeat (first | go_big_quiet_skip | (go_big_quiet_want; go_big_quiet_op; (first | go_big_quiet_on | go_big_quiet_call ((with_reducible first | exact ext_call _ (HC2.out _ (bthen hbW (Ext.h _) hbW.size)) | exact ext_call _ (HR2.out _ (bthen hbW (Ext.h _) hbW.size)) | exact ext_call _ (HCf.out _ (bthen hbW (Ext.h _) hbW.size)) | exact ext_call _ (HRf.out _ (bthen hbW (Ext.h _) hbW.size)) | exact ext_call _ (HV.out _ (bthen hbW (Ext.h _) hbW.size)))))))
        refine wpQuiet_nil ?_
        rintro _ ⟨xw, rfl⟩
        go_wp2
        go_ret
        exact ⟨ret_bool (by simp), bthen hbW xw.h hbW.size⟩
end Go.Proofs.YtnelecjjbmjhaaaGreatDoor
