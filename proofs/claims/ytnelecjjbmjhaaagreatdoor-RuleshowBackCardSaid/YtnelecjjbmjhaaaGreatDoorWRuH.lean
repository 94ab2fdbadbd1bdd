/- The walks of package ruleshow: Weekday, the parts of a text. -/
import Derived.Test.YtnelecjjbmjhaaaGreatDoorWRuG
import Derived.Test.YtnelecjjbmjhaaaGreatDoorWShow6
namespace Go.Proofs.YtnelecjjbmjhaaaGreatDoor
open Go.RowKit
set_option linter.unusedSimpArgs false
set_option linter.unusedVariables false

theorem fmt_any (n : Int) (h : In64 n) (w : World) (hw : Pow w) : Calls Tryz.prog 66 #[.int .i64 n, .int .i64 10] w (Ret (.string (strB (Lib.itoa n))) w) := by
  have HF : Hid (Calls Tryz.prog 124 #[.int .i64 n, .int .i64 10] w (Ret (.string (strB (Lib.itoa n))) w)) := by
    refine (Tryz.internal_strconv_FormatInt_10 n h.1 h.2 w hw).mono ?_
    rintro e w' ⟨rfl, k, os, rfl⟩
    refine ⟨rfl, ⟨rfl, rfl, rfl, by simp [Go.Sort.grow, World.drewN], fun i hi => ?_⟩⟩
    have : i < (w.drewN k).heap.size := hi
    show ((w.drewN k).heap ++ os)[i]? = _
    rw [Array.getElem?_append_left this]
    rfl
  clear hw h
  go_enter Tryz.func66, Tryz.ntmps66
  go_wp2_with fail
  refine HF.out.mono ?_
  rintro e w1 ⟨rfl, hb⟩
  go_wp2
  go_ret
  exact ⟨rfl, hb⟩
theorem rdigits_any (n : Int) (h : In64 n) (w : World) (hw : Pow w) : Calls Tryz.prog 28 #[.int .i64 n] w (Ret (.string (strB (Lib.itoa n))) w) := by
  have HF := Lib.hid (fmt_any n h w hw)
  clear hw h
  go_enter Tryz.func28, Tryz.ntmps28
  go_wp2_with fail
  refine HF.out.mono ?_
  rintro e w1 ⟨rfl, hb⟩
  go_wp2
  go_ret
  exact ⟨rfl, hb⟩
/-- The weekdays in short. -/
def dyNm (k : Nat) : List UInt8 := if k = 0 then [77, 79] else if k = 1 then [84, 85] else if k = 2 then [87, 69] else if k = 3 then [84, 72] else if k = 4 then [70, 82] else if k = 5 then [83, 65] else [83, 85]
theorem dyNm_len (k : Nat) : (dyNm k).length = 2 := by unfold dyNm; repeat' split
                                                       all_goals rfl
theorem dyNames_at (k : Nat) (hk : k < 7) (W : World) : (Instr.index 101 (.agg #[.string ⟨#[77, 79]⟩, .string ⟨#[84, 85]⟩, .string ⟨#[87, 69]⟩, .string ⟨#[84, 72]⟩, .string ⟨#[70, 82]⟩, .string ⟨#[83, 65]⟩, .string ⟨#[83, 85]⟩]) (.int .i64 (k : Int))).run Tryz.prog W = .ok (.string (strB (dyNm k))) W := by
  obtain rfl | rfl | rfl | rfl | rfl | rfl | rfl : k = 0 ∨ k = 1 ∨ k = 2 ∨ k = 3 ∨ k = 4 ∨ k = 5 ∨ k = 6 := by omega
  all_goals kernel_rfl
/-- A weekday's text. -/
def nthT (p : Int × Int) : List UInt8 := if p.2 < 1 ∨ 7 < p.2 then [] else if p.1 = 0 then dyNm (p.2.toNat - 1) else Lib.itoa p.1 ++ dyNm (p.2.toNat - 1)
theorem nthT_len {p : Int × Int} (h : In64 p.1) : (nthT p).length ≤ 40 := by
  have h1 := itoa_le h
  have h2 := dyNm_len (p.2.toNat - 1)
  unfold nthT
  split
  · simp
  · split
    · omega
    · rw [List.length_append]; omega
set_option maxHeartbeats 1000000 in
theorem weekday_any (p : Int × Int) (h : In64 p.1) (w : World) (hw : Pow w) : Calls Tryz.prog 23 #[.agg #[.int .i64 p.1, .int .i64 p.2]] w (Ret (.string (strB (nthT p))) w) := by
  obtain ⟨x, d⟩ := p
  dsimp only at h ⊢
  have HI := Lib.hid (fun W (hb : Below w.heap.size w W) => itoaB_any x h W (tab_below hw hb))
  have hz := itoa_size h
  by_cases h1 : d < 1
  · have HR : Hid (nthT (x, d) = []) := by show _ = _; unfold nthT; rw [if_pos (.inl h1)]
    clear hw h HI
    go_enter Tryz.func23, Tryz.ntmps23
    go_wp2
    go_ret
    exact ⟨ret_str (by rw [HR.out]), by (repeat' (first | (with_reducible exact Below.refl _ _) | (with_reducible assumption) | (with_reducible refine below_drewN ?_ _) | (with_reducible refine Below.alloc ?_ ?_ _) | (with_reducible refine Below.drew ?_) | (with_reducible refine Below.setCell ?_ ?_ _) | go_size))⟩
  by_cases h7 : 7 < d
  · have HR : Hid (nthT (x, d) = []) := by show _ = _; unfold nthT; rw [if_pos (.inr h7)]
    clear hw h HI
    go_enter Tryz.func23, Tryz.ntmps23
    go_wp2
    go_ret
    exact ⟨ret_str (by rw [HR.out]), by (repeat' (first | (with_reducible exact Below.refl _ _) | (with_reducible assumption) | (with_reducible refine below_drewN ?_ _) | (with_reducible refine Below.alloc ?_ ?_ _) | (with_reducible refine Below.drew ?_) | (with_reducible refine Below.setCell ?_ ?_ _) | go_size))⟩
  obtain ⟨k, hk, rfl⟩ : ∃ k : Nat, k < 7 ∧ d = (k : Int) + 1 := ⟨d.toNat - 1, by omega, by omega⟩
  have hix := fun W => dyNames_at k hk W
  have e1 : (k : Int) + 1 - 1 = (k : Int) := by omega
  have hV : nthT (x, (k : Int) + 1) = if x = 0 then dyNm k else Lib.itoa x ++ dyNm k := by
    unfold nthT
    dsimp only
    rw [if_neg (by omega), show ((k : Int) + 1).toNat - 1 = k by omega]
  have HV := Lib.hid hV
  have hzd : (strB (dyNm k)).size = 2 := by rw [strB_size]; exact dyNm_len k
  have HD := Lib.hid (strB_data (dyNm k))
  have HDi := Lib.hid (strB_data (Lib.itoa x))
  clear hV hw h
  generalize nthT (x, (k : Int) + 1) = R at *
  generalize strB (dyNm k) = G at *
  generalize strB (Lib.itoa x) = S at *
  have hzg : G.size ≤ 2 := by omega
  clear hzd
  by_cases h0 : x = 0
  · have HR : Hid (R = dyNm k) := by show _ = _; rw [HV.out, if_pos h0]
    have h0' : (x == 0) = true := by simpa using h0
    clear h0 HV
    go_enter Tryz.func23, Tryz.ntmps23
    go_wp2
    go_ret
    exact ⟨ret_str (by rw [HR.out, HD.out]), by (repeat' (first | (with_reducible exact Below.refl _ _) | (with_reducible assumption) | (with_reducible refine below_drewN ?_ _) | (with_reducible refine Below.alloc ?_ ?_ _) | (with_reducible refine Below.drew ?_) | (with_reducible refine Below.setCell ?_ ?_ _) | go_size))⟩
  · have HR : Hid (R = Lib.itoa x ++ dyNm k) := by show _ = _; rw [HV.out, if_neg h0]
    have h0' : (x == 0) = false := by simpa using h0
    clear h0 HV
    go_enter Tryz.func23, Tryz.ntmps23
    go_wp2_with fail
    refine (HI.out _ (by (repeat' (first | (with_reducible exact Below.refl _ _) | (with_reducible assumption) | (with_reducible refine below_drewN ?_ _) | (with_reducible refine Below.alloc ?_ ?_ _) | (with_reducible refine Below.drew ?_) | (with_reducible refine Below.setCell ?_ ?_ _) | go_size)))).mono ?_
    rintro e w1 ⟨rfl, hb1⟩
    go_wp2
    go_ret
    exact ⟨ret_str (by rw [HR.out, str_app, HD.out, HDi.out]), ((Below.refl _ w).alloc (Nat.le_refl _) _).trans (hb1.mono (by simp))⟩
/-- A part, unless a number is another one. -/
def unlT (nm : List UInt8) (n q : Int) (tx : List UInt8) : List UInt8 := if n = q then [] else nm ++ tx
set_option maxHeartbeats 1000000 in
theorem unless_digits (N : ByteArray) (n q : Int) (h : In64 n) (hN : N.size ≤ 100) (w : World) (hw : Pow w) :
    Calls Tryz.prog 27 #[.string N, .int .i64 n, .int .i64 q, .func (.func 28) #[] #[]] w (Ret (.string (strB (unlT N.data.toList n q (Lib.itoa n)))) w) := by
  have eg : ∀ args w, (callFunc 28 args).run Tryz.prog w = .ok (.enter 28 args) w := enters_of Tryz.func28 (by kernel_rfl) rfl
  have HF := Lib.hid (fun W (hb : Below w.heap.size w W) => rdigits_any n h W (tab_below hw hb))
  have hz : (strB (Lib.itoa n)).size ≤ 100 := by rw [strB_size]; have := itoa_le h; omega
  have HD := Lib.hid (strB_data (Lib.itoa n))
  have HV : Hid (unlT N.data.toList n q (Lib.itoa n) = if n = q then [] else N.data.toList ++ Lib.itoa n) := rfl
  clear hw h
  generalize unlT N.data.toList n q (Lib.itoa n) = R at *
  generalize strB (Lib.itoa n) = T at *
  by_cases h0 : n = q
  · have HR : Hid (R = []) := by show _ = _; rw [HV.out, if_pos h0]
    have h0' : (n == q) = true := by simpa using h0
    clear h0 HV
    go_enter Tryz.func27, Tryz.ntmps27
    go_wp2
    go_ret
    exact ⟨ret_str (by rw [HR.out]), Below.refl _ _⟩
  · have HR : Hid (R = N.data.toList ++ Lib.itoa n) := by show _ = _; rw [HV.out, if_neg h0]
    have h0' : (n == q) = false := by simpa using h0
    clear h0 HV
    have hcall := Lib.hid (HF.out w (Below.refl _ _))
    go_enter Tryz.func27, Tryz.ntmps27
    go_wp2_with (go_at_fn 28; refine hcall.out.mono ?_; rintro e w1 ⟨rfl, hb1⟩)
    go_ret
    exact ⟨ret_str (by rw [HR.out, str_app, HD.out]), hb1⟩
set_option maxHeartbeats 1000000 in
theorem unless_basic (N : ByteArray) (n q : Int) (h : In64 n) (hN : N.size ≤ 100) (w : World) (hw : Pow w) :
    Calls Tryz.prog 27 #[.string N, .int .i64 n, .int .i64 q, .func (.func 25) #[] #[]] w (Ret (.string (strB (unlT N.data.toList n q (basicT n)))) w) := by
  have eg : ∀ args w, (callFunc 25 args).run Tryz.prog w = .ok (.enter 25 args) w := enters_of Tryz.func25 (by kernel_rfl) rfl
  have HF := Lib.hid (fun W (hb : Below w.heap.size w W) => basic_any n W)
  have hz : (strB (basicT n)).size ≤ 100 := by rw [strB_size]; have := basicT_len n; omega
  have HD := Lib.hid (strB_data (basicT n))
  have HV : Hid (unlT N.data.toList n q (basicT n) = if n = q then [] else N.data.toList ++ basicT n) := rfl
  clear hw h
  generalize unlT N.data.toList n q (basicT n) = R at *
  generalize strB (basicT n) = T at *
  by_cases h0 : n = q
  · have HR : Hid (R = []) := by show _ = _; rw [HV.out, if_pos h0]
    have h0' : (n == q) = true := by simpa using h0
    clear h0 HV
    go_enter Tryz.func27, Tryz.ntmps27
    go_wp2
    go_ret
    exact ⟨ret_str (by rw [HR.out]), Below.refl _ _⟩
  · have HR : Hid (R = N.data.toList ++ basicT n) := by show _ = _; rw [HV.out, if_neg h0]
    have h0' : (n == q) = false := by simpa using h0
    clear h0 HV
    have hcall := Lib.hid (HF.out w (Below.refl _ _))
    go_enter Tryz.func27, Tryz.ntmps27
    go_wp2_with (go_at_fn 25; refine hcall.out.mono ?_; rintro e w1 ⟨rfl, hb1⟩)
    go_ret
    exact ⟨ret_str (by rw [HR.out, str_app, HD.out]), hb1⟩

/-- strings.Join of a slice of the call's own. -/
theorem rjoin_own (sep : ByteArray) (v : Value) (L : List ByteArray) (B : Nat) (w : World) (h : OwnStrs w B v L) (hN : L.length ≤ 1000000) (hlen : (Lib.join (L.map (·.data.toList)) sep.data.toList).length ≤ 140737488355328) :
    Calls Tryz.prog 49 #[v, .string sep] w (Ret (.string (strB (Lib.join (L.map (·.data.toList)) sep.data.toList))) w) := by
  have HO := h
  rcases h.2 with ⟨rfl, h0⟩ | ⟨g, cap, cur, rfl, hB, hg, hnc, hcm, hcs, htake⟩
  · obtain rfl : L = [] := List.length_eq_zero_iff.1 h0
    refine (Tryz.strings_Join_none none 0 sep w).mono ?_
    rintro e w1 ⟨rfl, rfl⟩
    exact ⟨rfl, Below.refl _ _⟩
  · refine (Tryz.strings_Join g 0 cap L sep w (fun j x hx => ?_) (Array.getElem?_eq_some_iff.1 hg).1 (by omega) hnc hlen).mono ?_
    · have h1 := HO.cells (g := g) rfl j (.string x) (by rw [List.getElem?_map, hx]; rfl)
      rwa [show (⟨g, 0, none⟩ : Addr).add j = ⟨g, 0 + j, none⟩ from by unfold Addr.add; split <;> simp_all] at h1
    · rintro e w1 ⟨rfl, hb⟩
      exact ⟨rfl, hb⟩
/-- A part of items. -/
def partT (nm : List UInt8) (xs : List (List UInt8)) : List UInt8 := if xs = [] then [] else nm ++ Lib.join xs [44]
theorem strs_join (xs : List (List UInt8)) : Lib.join ((xs.map strB).map (·.data.toList)) [44] = Lib.join xs [44] := by
  rw [List.map_map]
  congr 1
  have : ((fun x : ByteArray => x.data.toList) ∘ strB) = id := by funext x; exact strB_data x
  rw [this, List.map_id]
set_option maxRecDepth 20000 in
set_option maxHeartbeats 2000000 in
theorem rlistI_any (N : ByteArray) (A : Option Addr) (n c : Nat) (l : List (Int)) (hN : N.size ≤ 100) (w : World) (hA : RdInts w A n l) (hn : n ≤ 1000) (hwf : ∀ x ∈ l, In64 x) (hw : Pow w) :
    Calls Tryz.prog 29 #[.string N, .slice A n c, .func (.func 30) #[] #[]] w (Ret (.string (strB (partT N.data.toList (l.map Lib.itoa)))) w) := by
  obtain ⟨i0, hi0, hz0, hz1, hz2⟩ := info_parts info_str
  have HI0 := Lib.hid hi0
  have HZ0 := Lib.hid hz0
  have HZ1 := Lib.hid hz1
  have HZ2 := Lib.hid hz2
  clear hi0 hz0 hz1 hz2
  have eg : ∀ args w, (callFunc 30 args).run Tryz.prog w = .ok (.enter 30 args) w := enters_of Tryz.func30 (by kernel_rfl) rfl
  have HL : Hid (l.length = n) := hA.1
  have HA := Lib.hid hA
  have HWF := Lib.hid hwf
  have HP := Lib.hid (fun W (hb : Below w.heap.size w W) => tab_below hw hb)
  have HTx := Lib.hid (fun x (hx : In64 x) W (hb : Below w.heap.size w W) => itoaB_any x hx W (tab_below hw hb))
  clear hwf hw hA
  by_cases h0 : n = 0
  · have HR : Hid (partT N.data.toList (l.map Lib.itoa) = []) := by
      show _ = _
      have : l = [] := List.length_eq_zero_iff.1 (by rw [HL.out, h0])
      subst this; rfl
    have h0' : ((n : Int) == 0) = true := by simp; omega
    clear h0
    go_enter Tryz.func29, Tryz.ntmps29
    go_wp2
    go_ret
    exact ⟨ret_str (by rw [HR.out]), Below.refl _ _⟩
  · have h0' : ((n : Int) == 0) = false := by simp; omega
    have HR : Hid (partT N.data.toList (l.map Lib.itoa) = N.data.toList ++ Lib.join (l.map Lib.itoa) [44]) := by
      show _ = _
      unfold partT
      rw [if_neg]
      intro e
      have := congrArg List.length e
      rw [List.length_map, HL.out] at this
      exact h0 this
    clear h0
    generalize partT N.data.toList (l.map Lib.itoa) = R at *
    go_enter Tryz.func29, Tryz.ntmps29
    go_wp2
    go_loopw [7, 15] (fun v i wr => ∃ (vo : Value) (k : Nat), vo = v ∧ k ≤ n ∧ i = .int .i64 k ∧ Hid (OwnStrs wr w.heap.size vo (((l.take k).map Lib.itoa).map strB)) ∧ Below w.heap.size w wr) (fun _ i _ => n - (intOf i).toNat)
    case atStart => exact ⟨_, 0, rfl, Nat.zero_le _, rfl, World.ownsRow_nil _ _ _ _, Below.refl _ _⟩
    case round =>
      obtain ⟨vo, k, rfl, hk, rfl, HO, hb⟩ := hrel
      have hsz := hb.size
      by_cases hlt : k < n
      · obtain ⟨b, o, x, rfl, hbl, hx, c0⟩ := RdInts.at_ (HA.out.below hb (Nat.le_refl _)) hlt
        have hlt' : (k : Int) < (n : Int) := by omega
        have hit : In64 x := HWF.out _ (List.mem_of_getElem? hx)
        have HI := Lib.hid (HTx.out x hit)
        have HS1 : Hid (((l.take (k + 1)).map Lib.itoa).map strB = ((l.take k).map Lib.itoa).map strB ++ [strB (Lib.itoa x)]) := by
          show _ = _
          rw [List.take_add_one, hx]; simp
        have hkl : (((l.take k).map Lib.itoa).map strB).length = k := by rw [List.length_map, List.length_map, List.length_take_of_le (by rw [HL.out]; exact hk)]
        clear hx hit
        obtain ⟨T, hT⟩ : ∃ T, T = strB (Lib.itoa x) := ⟨_, rfl⟩
        rw [← hT] at HI HS1
        clear hT
        obtain ⟨X0, hX0⟩ : ∃ X, X = ((l.take k).map Lib.itoa).map strB := ⟨_, rfl⟩
        obtain ⟨X1, hX1⟩ : ∃ X, X = ((l.take (k + 1)).map Lib.itoa).map strB := ⟨_, rfl⟩
        rw [← hX0] at HO HS1 hkl
        rw [← hX1] at HS1
        have HX1 := Lib.hid hX1
        have HKL := Lib.hid hkl
        clear hX0 hX1 hkl
        skip
        have hcall := Lib.hid (HI.out wr hb)
        go_wp2_with fail
        refine hcall.out.mono ?_
        rintro e w2 ⟨rfl, hb2⟩
        have hb3 : Below wr.heap.size wr w2 := hb2
        have hsz3 := hb3.size
        have hbx : Below w.heap.size w w2 := bthen hb hb3 hsz
        have hi0 := HI0.out
        have hz0 := HZ0.out
        have hz1 := HZ1.out
        have hz2 := HZ2.out
        go_wp2_with (at_builtin; refine wpList_append_own _ rfl _ _ 84 rfl w.heap.size 9 i0 _ 1 16 Tryz.underlying84 hi0 hz0 hz1 hz2 rfl (by decide) _ X0.length _ rfl (own_below HO.out ?cB) ⟨w2.heap.size, 0, none⟩ 1 1 [.string T] rfl rfl ?c1 ?c2 ?c3 ?c4 ?c5 ?c6)
        case cB => exact hb3.alloc hsz3 _
        case c1 =>
          intro j' u hu
          rcases j' with _ | j'
          · simp at hu; subst hu
            exact cell_new rfl rfl
          · simp at hu
        case c2 => intro u hu; simp at hu; subst hu; rfl
        case c3 => rw [HKL.out]; simp only [maxLen]; omega
        case c4 => rw [HKL.out]; omega
        case c5 => simp; omega
        case c6 =>
          intro v' w' hown hg _
          have HV : Hid (OwnStrs w' w.heap.size v' X1) := by
            show World.ownsRow _ _ _ _ _ _ _
            rw [HS1.out, List.length_append, List.map_append]
            exact hown
          have hbn : Below w.heap.size w w' := by
            refine Below.grown (hbx.alloc (by omega) _) hg (by simp; omega) ?_
            intro b hb'
            rcases own_some HO.out with ⟨h1, _⟩ | ⟨g, cap, h1, h2, h3⟩
            · rw [h1] at hb'; simp [Value.ownBlock] at hb'
            · rw [h1] at hb'; simp [Value.ownBlock] at hb'; subst hb'; exact h2
          clear hown hg hi0 hz0 hz1 hz2
          go_wp2
          go_roundw
          case rel => exact ⟨_, k + 1, rfl, by omega, by go_num, by rw [← HX1.out]; exact HV.out, hbn⟩
          case measure => simp [intOf]; omega
      · obtain rfl : k = n := by omega
        have HE : Hid (l.take k = l) := List.take_of_length_le (by rw [HL.out]; exact Nat.le_refl _)
        have hlenJ : (Lib.join (l.map Lib.itoa) [44]).length ≤ 100000 := by
          have := join_len (l.map Lib.itoa) [44] 60 (fun x hx => by
            obtain ⟨y, hy, rfl⟩ := List.mem_map.1 hx
            have := itoa_le (HWF.out y hy); omega)
          rw [List.length_map, HL.out] at this
          simp at this
          omega
        have HJ := Lib.hid (rjoin_own ⟨#[44]⟩ vo _ _ wr HO.out (by rw [List.length_map, List.length_map, HE.out, HL.out]; omega) (by
          show (Lib.join ((((l.take k).map Lib.itoa).map strB).map (·.data.toList)) [44]).length ≤ _
          rw [strs_join, HE.out]
          omega))
        have HF2 : Hid (Lib.join ((((l.take k).map Lib.itoa).map strB).map (·.data.toList)) [44] = Lib.join (l.map Lib.itoa) [44]) := by
          show _ = _
          rw [strs_join, HE.out]
        have HJs : Hid (strB (Lib.join ((((l.take k).map Lib.itoa).map strB).map (·.data.toList)) (⟨#[44]⟩ : ByteArray).data.toList) = strB (Lib.join (l.map Lib.itoa) [44])) := by
          show _ = _
          rw [← HF2.out]
        rw [HJs.out] at HJ
        have hJz : (strB (Lib.join (l.map Lib.itoa) [44])).size ≤ 100000 := by rw [strB_size]; exact hlenJ
        have HJd := Lib.hid (strB_data (Lib.join (l.map Lib.itoa) [44]))
        generalize strB (Lib.join (l.map Lib.itoa) [44]) = J at *
        go_wp2_with fail
        refine HJ.out.mono ?_
        rintro e w1 ⟨rfl, hb1⟩
        go_wp2
        go_ret
        exact ⟨ret_str (by rw [HR.out, str_app, HJd.out]), bthen hb hb1 hsz⟩

set_option maxRecDepth 20000 in
set_option maxHeartbeats 2000000 in
theorem rlistN_any (N : ByteArray) (A : Option Addr) (n c : Nat) (l : List (Int × Int)) (hN : N.size ≤ 100) (w : World) (hA : RdNths w A n l) (hn : n ≤ 1000) (hwf : ∀ x ∈ l, In64 x.1) (hw : Pow w) :
    Calls Tryz.prog 31 #[.string N, .slice A n c, .func (.func 23) #[] #[]] w (Ret (.string (strB (partT N.data.toList (l.map nthT)))) w) := by
  obtain ⟨i0, hi0, hz0, hz1, hz2⟩ := info_parts info_str
  have HI0 := Lib.hid hi0
  have HZ0 := Lib.hid hz0
  have HZ1 := Lib.hid hz1
  have HZ2 := Lib.hid hz2
  clear hi0 hz0 hz1 hz2
  have eg : ∀ args w, (callFunc 23 args).run Tryz.prog w = .ok (.enter 23 args) w := enters_of Tryz.func23 (by kernel_rfl) rfl
  have HL : Hid (l.length = n) := hA.1
  have HA := Lib.hid hA
  have HWF := Lib.hid hwf
  have HP := Lib.hid (fun W (hb : Below w.heap.size w W) => tab_below hw hb)
  have HTx := Lib.hid (fun x (hx : In64 x.1) W (hb : Below w.heap.size w W) => weekday_any x hx W (tab_below hw hb))
  clear hwf hw hA
  by_cases h0 : n = 0
  · have HR : Hid (partT N.data.toList (l.map nthT) = []) := by
      show _ = _
      have : l = [] := List.length_eq_zero_iff.1 (by rw [HL.out, h0])
      subst this; rfl
    have h0' : ((n : Int) == 0) = true := by simp; omega
    clear h0
    go_enter Tryz.func31, Tryz.ntmps31
    go_wp2
    go_ret
    exact ⟨ret_str (by rw [HR.out]), Below.refl _ _⟩
  · have h0' : ((n : Int) == 0) = false := by simp; omega
    have HR : Hid (partT N.data.toList (l.map nthT) = N.data.toList ++ Lib.join (l.map nthT) [44]) := by
      show _ = _
      unfold partT
      rw [if_neg]
      intro e
      have := congrArg List.length e
      rw [List.length_map, HL.out] at this
      exact h0 this
    clear h0
    generalize partT N.data.toList (l.map nthT) = R at *
    go_enter Tryz.func31, Tryz.ntmps31
    go_wp2
    go_loopw [7, 15] (fun v i wr => ∃ (vo : Value) (k : Nat), vo = v ∧ k ≤ n ∧ i = .int .i64 k ∧ Hid (OwnStrs wr w.heap.size vo (((l.take k).map nthT).map strB)) ∧ Below w.heap.size w wr) (fun _ i _ => n - (intOf i).toNat)
    case atStart => exact ⟨_, 0, rfl, Nat.zero_le _, rfl, World.ownsRow_nil _ _ _ _, Below.refl _ _⟩
    case round =>
      obtain ⟨vo, k, rfl, hk, rfl, HO, hb⟩ := hrel
      have hsz := hb.size
      by_cases hlt : k < n
      · obtain ⟨b, o, x, rfl, hbl, hx, c0, c1⟩ := RdNths.at_ (HA.out.below hb (Nat.le_refl _)) hlt
        have hlt' : (k : Int) < (n : Int) := by omega
        have hit : In64 x.1 := HWF.out _ (List.mem_of_getElem? hx)
        have HI := Lib.hid (HTx.out x hit)
        have HS1 : Hid (((l.take (k + 1)).map nthT).map strB = ((l.take k).map nthT).map strB ++ [strB (nthT x)]) := by
          show _ = _
          rw [List.take_add_one, hx]; simp
        have hkl : (((l.take k).map nthT).map strB).length = k := by rw [List.length_map, List.length_map, List.length_take_of_le (by rw [HL.out]; exact hk)]
        clear hx hit
        obtain ⟨T, hT⟩ : ∃ T, T = strB (nthT x) := ⟨_, rfl⟩
        rw [← hT] at HI HS1
        clear hT
        obtain ⟨X0, hX0⟩ : ∃ X, X = ((l.take k).map nthT).map strB := ⟨_, rfl⟩
        obtain ⟨X1, hX1⟩ : ∃ X, X = ((l.take (k + 1)).map nthT).map strB := ⟨_, rfl⟩
        rw [← hX0] at HO HS1 hkl
        rw [← hX1] at HS1
        have HX1 := Lib.hid hX1
        have HKL := Lib.hid hkl
        clear hX0 hX1 hkl
        obtain ⟨x1, x2⟩ := x
        dsimp only at c0 c1 HI
        have hcall := Lib.hid (HI.out (wr.alloc (.cells #[.int .i64 x1, .int .i64 x2] 54)) (hb.alloc hsz _))
        go_wp2_with fail
        refine hcall.out.mono ?_
        rintro e w2 ⟨rfl, hb2⟩
        have hb3 : Below wr.heap.size wr w2 := ((Below.refl _ wr).alloc (Nat.le_refl _) _).trans (hb2.mono (by simp))
        have hsz3 := hb3.size
        have hbx : Below w.heap.size w w2 := bthen hb hb3 hsz
        have hi0 := HI0.out
        have hz0 := HZ0.out
        have hz1 := HZ1.out
        have hz2 := HZ2.out
        go_wp2_with (at_builtin; refine wpList_append_own _ rfl _ _ 84 rfl w.heap.size 9 i0 _ 1 16 Tryz.underlying84 hi0 hz0 hz1 hz2 rfl (by decide) _ X0.length _ rfl (own_below HO.out ?cB) ⟨w2.heap.size, 0, none⟩ 1 1 [.string T] rfl rfl ?c1 ?c2 ?c3 ?c4 ?c5 ?c6)
        case cB => exact hb3.alloc hsz3 _
        case c1 =>
          intro j' u hu
          rcases j' with _ | j'
          · simp at hu; subst hu
            exact cell_new rfl rfl
          · simp at hu
        case c2 => intro u hu; simp at hu; subst hu; rfl
        case c3 => rw [HKL.out]; simp only [maxLen]; omega
        case c4 => rw [HKL.out]; omega
        case c5 => simp; omega
        case c6 =>
          intro v' w' hown hg _
          have HV : Hid (OwnStrs w' w.heap.size v' X1) := by
            show World.ownsRow _ _ _ _ _ _ _
            rw [HS1.out, List.length_append, List.map_append]
            exact hown
          have hbn : Below w.heap.size w w' := by
            refine Below.grown (hbx.alloc (by omega) _) hg (by simp; omega) ?_
            intro b hb'
            rcases own_some HO.out with ⟨h1, _⟩ | ⟨g, cap, h1, h2, h3⟩
            · rw [h1] at hb'; simp [Value.ownBlock] at hb'
            · rw [h1] at hb'; simp [Value.ownBlock] at hb'; subst hb'; exact h2
          clear hown hg hi0 hz0 hz1 hz2
          go_wp2
          go_roundw
          case rel => exact ⟨_, k + 1, rfl, by omega, by go_num, by rw [← HX1.out]; exact HV.out, hbn⟩
          case measure => simp [intOf]; omega
      · obtain rfl : k = n := by omega
        have HE : Hid (l.take k = l) := List.take_of_length_le (by rw [HL.out]; exact Nat.le_refl _)
        have hlenJ : (Lib.join (l.map nthT) [44]).length ≤ 100000 := by
          have := join_len (l.map nthT) [44] 60 (fun x hx => by
            obtain ⟨y, hy, rfl⟩ := List.mem_map.1 hx
            have := nthT_len (HWF.out y hy); omega)
          rw [List.length_map, HL.out] at this
          simp at this
          omega
        have HJ := Lib.hid (rjoin_own ⟨#[44]⟩ vo _ _ wr HO.out (by rw [List.length_map, List.length_map, HE.out, HL.out]; omega) (by
          show (Lib.join ((((l.take k).map nthT).map strB).map (·.data.toList)) [44]).length ≤ _
          rw [strs_join, HE.out]
          omega))
        have HF2 : Hid (Lib.join ((((l.take k).map nthT).map strB).map (·.data.toList)) [44] = Lib.join (l.map nthT) [44]) := by
          show _ = _
          rw [strs_join, HE.out]
        have HJs : Hid (strB (Lib.join ((((l.take k).map nthT).map strB).map (·.data.toList)) (⟨#[44]⟩ : ByteArray).data.toList) = strB (Lib.join (l.map nthT) [44])) := by
          show _ = _
          rw [← HF2.out]
        rw [HJs.out] at HJ
        have hJz : (strB (Lib.join (l.map nthT) [44])).size ≤ 100000 := by rw [strB_size]; exact hlenJ
        have HJd := Lib.hid (strB_data (Lib.join (l.map nthT) [44]))
        generalize strB (Lib.join (l.map nthT) [44]) = J at *
        go_wp2_with fail
        refine HJ.out.mono ?_
        rintro e w1 ⟨rfl, hb1⟩
        go_wp2
        go_ret
        exact ⟨ret_str (by rw [HR.out, str_app, HJd.out]), bthen hb hb1 hsz⟩

end Go.Proofs.YtnelecjjbmjhaaaGreatDoor
