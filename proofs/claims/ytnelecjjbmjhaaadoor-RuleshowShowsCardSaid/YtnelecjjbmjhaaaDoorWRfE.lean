/- The walks of the references of rules: weeks. -/
import Derived.Test.YtnelecjjbmjhaaaDoorWRfD
namespace Go.Proofs.YtnelecjjbmjhaaaDoor
open Go.RowKit
set_option linter.unusedSimpArgs false
set_option linter.unusedVariables false

section
variable {r : RuV} {A : Nat → Option Addr} {n c : Nat → Nat} {w : World} (hA : RdRu w A n r) (hn : ∀ k, n k ≤ 1000000) (hfr : 0 ≤ r.fr ∧ r.fr ≤ 6)
include hA hn hfr
set_option maxRecDepth 20000 in
set_option maxHeartbeats 8000000 in
theorem weeks32_any : Calls Tryd.prog 48 #[ruV r A n c] w (Ret (.int .i64 (weeksE r)) w) := by
  have HN := Lib.hid (fun W (hb : Below w.heap.size w W) => ns32_any (A 7) (n 7) (c 7) r.wk W (hA.wk.below hb (Nat.le_refl _)) (hn 7))
  have HWk := Lib.hid (fun W (hb : Below w.heap.size w W) => (hA.wk.below hb (Nat.le_refl _) : RdNths W (A 7) (n 7) r.wk))
  have HO0 := Lib.hid (fun A' n' c' W (h : RdInts W A' n' (nsC r)) (hn' : n' ≤ 1000000) => out32_any A' n' c' (nsC r) 0 0 W h (by omega))
  have HO5 := Lib.hid (fun A' n' c' W (h : RdInts W A' n' (nsC r)) (hn' : n' ≤ 1000000) => out32_any A' n' c' (nsC r) (-5) 5 W h (by omega))
  have HM := Lib.hid (fun A' n' c' W (h : RdInts W A' n' (nsC r)) (hn' : n' ≤ 1000000) => signs32_any A' n' c' (nsC r) W h (by omega))
  have HV : Hid (weeksE r = if 64 < r.wk.length then 5 else if (nsC r).any (outC (-53) 53) = true ∨ r.wk.any badDay = true then 4 else if mixC (nsC r) = true ∨ ((nsC r).any (outC 0 0) = true ∧ r.fr ≠ 5 ∧ r.fr ≠ 6) then 12 else if (r.fr = 5 ∨ 0 < r.mo.length) ∧ (nsC r).any (outC (-5) 5) = true then 4 else 0) := rfl
  rw [show r.wk.length = n 7 from hA.wk.1, show r.mo.length = n 5 from hA.mo.1] at HV
  have HE := Lib.hid (ruAt_new w r A n c 36)
  have HLw : Hid (r.wk.length = n 7) := hA.wk.1
  have hn7 := hn 7
  obtain ⟨hf0, hf6⟩ := hfr
  have HNs : Hid (∀ (j : Nat) (x : Int × Int), r.wk[j]? = some x → (nsC r)[j]? = some x.1) := fun j x h => by unfold nsC; rw [List.getElem?_map, h]; rfl
  have HLs : Hid ((nsC r).length = n 7) := nsC_len hA
  rw [show r.wk.map (·.1) = nsC r from rfl] at HN
  clear hA hn
  generalize weeksE r = R at *
  unfold ruV at *
  go_enter Tryd.func48, Tryd.ntmps48
  go_wp2_with fail
  refine (HN.out _ (by (repeat' (first | (with_reducible exact Below.refl _ _) | (with_reducible assumption) | (with_reducible refine below_drewN ?_ _) | (with_reducible refine Below.alloc ?_ ?_ _) | (with_reducible refine Below.drew ?_) | (with_reducible refine Below.setCell ?_ ?_ _) | go_size)))).mono ?_
  rintro e w1 ⟨v, rfl, hv, hb1⟩
  obtain ⟨A', c', rfl, _, _, hr, _⟩ := hv.rd
  have hbw : Below w.heap.size w w1 := ((Below.refl _ w).alloc (Nat.le_refl _) _).trans (hb1.mono (by simp))
  have HE1 := Lib.hid (HE.out.below hb1)
  rw [HLs.out] at hr ⊢
  have HRd := Lib.hid hr
  have HW1 := Lib.hid (HWk.out w1 hbw)
  clear hb1 hv HE HN hr HWk
  obtain ⟨x0, x1, x2, x3, x4, x5, x6, x7, x8, x9, x10⟩ := HE1.out
  by_cases h64 : 64 < n 7
  · have HR : Hid (R = 5) := by show _ = _; rw [HV.out, if_pos h64]
    have h64' : (64 : Int) < ((n 7 : Nat) : Int) := by omega
    clear h64 HV
    go_wp2
    go_ret
    exact ⟨ret_int HR.out.symm, hbw⟩
  · have h64' : ¬ (64 : Int) < ((n 7 : Nat) : Int) := by omega
    have HV2 := HV.out
    rw [if_neg h64] at HV2
    replace HV2 := Lib.hid HV2
    clear h64 HV
    go_wp2
    go_loop [4] (fun i => ∃ k : Nat, k ≤ n 7 ∧ i = .int .i64 k ∧ Hid (∀ j x, j < k → r.wk[j]? = some x → (outC (-53) 53 x.1 || badDay x) = false)) (fun i => n 7 - (intOf i).toNat)
    case atStart => exact ⟨0, Nat.zero_le _, rfl, fun j _ h => absurd h (Nat.not_lt_zero _)⟩
    case round =>
      obtain ⟨k, hk, rfl, H⟩ := hrel
      by_cases hlt : k < n 7
      · obtain ⟨b, o, x, hA7, hbl, hx, c0, c1⟩ := RdNths.at_ HW1.out hlt
        obtain ⟨b', o', y, hA', hbl', hy, d0⟩ := RdInts.at_ HRd.out hlt
        obtain rfl : y = x.1 := by
          have := HNs.out k x hx
          rw [hy] at this
          exact Option.some.inj this
        have hlt' : (k : Int) < ((n 7 : Nat) : Int) := by omega
        have Hx := Lib.hid hx
        have HBad : Hid ((x.1 < -53 ∨ 53 < x.1 ∨ x.2 < 1 ∨ 7 < x.2) → R = 4) := fun h => by
          rw [HV2.out, if_pos]
          have hm := List.mem_of_getElem? Hx.out
          by_cases h1 : x.1 < -53 ∨ 53 < x.1
          · left
            rw [List.any_eq_true]
            exact ⟨x.1, List.mem_of_getElem? hy, decide_eq_true h1⟩
          · right
            rw [List.any_eq_true]
            exact ⟨x, hm, decide_eq_true (by omega)⟩
        rw [hA7] at x7
        rw [hA'] at *
        clear hx hA7 hy
        by_cases g1 : x.1 < -53
        · have HR := Lib.hid (HBad.out (.inl g1))
          clear HBad HV2
          go_wp2
          go_ret
          exact ⟨ret_int HR.out.symm, hbw⟩
        · by_cases g2 : 53 < x.1
          · have HR := Lib.hid (HBad.out (.inr (.inl g2)))
            clear HBad HV2
            go_wp2
            go_ret
            exact ⟨ret_int HR.out.symm, hbw⟩
          · by_cases g3 : x.2 < 1
            · have HR := Lib.hid (HBad.out (.inr (.inr (.inl g3))))
              clear HBad HV2
              go_wp2
              go_ret
              exact ⟨ret_int HR.out.symm, hbw⟩
            · by_cases g4 : 7 < x.2
              · have HR := Lib.hid (HBad.out (.inr (.inr (.inr g4))))
                clear HBad HV2
                go_wp2
                go_ret
                exact ⟨ret_int HR.out.symm, hbw⟩
              · have Hm : Hid ((outC (-53) 53 x.1 || badDay x) = false) := by
                  show _ = _
                  rw [Bool.or_eq_false_iff]
                  exact ⟨decide_eq_false (by omega), decide_eq_false (by omega)⟩
                clear HBad
                go_wp2
                go_round
                case rel => exact ⟨k + 1, by omega, by go_num, allG_succ (p := fun x : Int × Int => outC (-53) 53 x.1 || badDay x) H.out Hx.out Hm.out⟩
                case measure => simp [intOf]; omega
      · have hlt' : ¬ (k : Int) < ((n 7 : Nat) : Int) := by omega
        have HV3 := HV2.out
        have hall : ∀ x ∈ r.wk, outC (-53) 53 x.1 = false ∧ badDay x = false := by
          intro x hx
          obtain ⟨j, hj⟩ := List.getElem?_of_mem hx
          have hjl := (List.getElem?_eq_some_iff.1 hj).1
          rw [HLw.out] at hjl
          have := H.out j x (by omega) hj
          rwa [Bool.or_eq_false_iff] at this
        rw [if_neg (by
          rintro (h | h)
          · rw [List.any_eq_true] at h
            obtain ⟨y, hy, h⟩ := h
            unfold nsC at hy
            obtain ⟨x, hx, rfl⟩ := List.mem_map.1 hy
            rw [(hall x hx).1] at h; cases h
          · rw [List.any_eq_true] at h
            obtain ⟨x, hx, h⟩ := h
            rw [(hall x hx).2] at h; cases h)] at HV3
        replace HV3 := Lib.hid HV3
        have HO0' := Lib.hid (fun W (h : RdInts W A' (n 7) (nsC r)) => HO0.out A' (n 7) c' W h hn7)
        have HO5' := Lib.hid (fun W (h : RdInts W A' (n 7) (nsC r)) => HO5.out A' (n 7) c' W h hn7)
        have HM' := Lib.hid (HM.out A' (n 7) c' w1 HRd.out hn7)
        have HRd2 := Lib.hid (fun W (hb : Below w1.heap.size w1 W) => HRd.out.below hb (Nat.le_refl _))
        clear HV2 hall H HO0 HO5 HM HNs HLs HLw HW1 HRd
        generalize nsC r = ns at *
        generalize ns.any (outC 0 0) = O0 at *
        generalize ns.any (outC (-5) 5) = O5 at *
        generalize mixC ns = M at *
        go_wp2_with fail
        refine HM'.out.mono ?_
        rintro e w2 ⟨rfl, hb2⟩
        have hbw2 := bthen hbw hb2 hbw.size
        have HE2 := Lib.hid (HE1.out.below hb2)
        have hr2 := Lib.hid (HRd2.out w2 hb2)
        clear x0 x1 x2 x3 x4 x5 x6 x7 x8 x9 x10 hb2 HE1 HRd2 HM'
        obtain ⟨x0, x1, x2, x3, x4, x5, x6, x7, x8, x9, x10⟩ := HE2.out
        cases M with
        | true =>
          have HR : Hid (R = 12) := by show _ = _; rw [HV3.out, if_pos (.inl rfl)]
          clear HV3
          go_wp2
          go_ret
          exact ⟨ret_int HR.out.symm, hbw2⟩
        | false =>
          go_wp2_with fail
          refine (HO0'.out _ hr2.out).mono ?_
          rintro e w3 ⟨rfl, rfl⟩
          cases O0 with
          | true =>
            by_cases hf5 : r.fr < 5
            · have HR : Hid (R = 12) := by show _ = _; rw [HV3.out, if_pos (.inr ⟨rfl, by omega, by omega⟩)]
              clear HV3
              go_wp2
              go_ret
              exact ⟨ret_int HR.out.symm, hbw2⟩
            · have HV4 := HV3.out
              rw [if_neg (by
                rintro (h | h)
                · cases h
                · omega)] at HV4
              replace HV4 := Lib.hid HV4
              clear HV3
              go_wp2_with fail
              refine (HO5'.out _ hr2.out).mono ?_
              rintro e w3 ⟨rfl, rfl⟩
              cases O5 with
              | false =>
                have HR : Hid (R = 0) := by show _ = _; rw [HV4.out, if_neg (fun h => by cases h.2)]
                clear HV4
                go_wp2
                go_ret
                exact ⟨ret_int HR.out.symm, hbw2⟩
              | true =>
                by_cases hf : r.fr = 5
                · have hf' : (r.fr == 5) = true := by simpa using hf
                  have HR : Hid (R = 4) := by show _ = _; rw [HV4.out, if_pos ⟨.inl hf, rfl⟩]
                  clear HV4 hf
                  go_wp2
                  go_ret
                  exact ⟨ret_int HR.out.symm, hbw2⟩
                · have hf' : (r.fr == 5) = false := by simpa using hf
                  by_cases hm : 0 < n 5
                  · have hm' : (0 : Int) < ((n 5 : Nat) : Int) := by omega
                    have HR : Hid (R = 4) := by show _ = _; rw [HV4.out, if_pos ⟨.inr hm, rfl⟩]
                    clear HV4 hf
                    go_wp2
                    go_ret
                    exact ⟨ret_int HR.out.symm, hbw2⟩
                  · have hm' : ¬ (0 : Int) < ((n 5 : Nat) : Int) := by omega
                    have HR : Hid (R = 0) := by show _ = _; rw [HV4.out, if_neg (fun h => by rcases h.1 with h | h; (· exact hf h); exact hm h)]
                    clear HV4 hf
                    go_wp2
                    go_ret
                    exact ⟨ret_int HR.out.symm, hbw2⟩
          | false =>
            have HV4 := HV3.out
            rw [if_neg (by
              rintro (h | h)
              · cases h
              · cases h.1)] at HV4
            replace HV4 := Lib.hid HV4
            clear HV3
            go_wp2_with fail
            refine (HO5'.out _ hr2.out).mono ?_
            rintro e w3 ⟨rfl, rfl⟩
            cases O5 with
            | false =>
              have HR : Hid (R = 0) := by show _ = _; rw [HV4.out, if_neg (fun h => by cases h.2)]
              clear HV4
              go_wp2
              go_ret
              exact ⟨ret_int HR.out.symm, hbw2⟩
            | true =>
              by_cases hf : r.fr = 5
              · have hf' : (r.fr == 5) = true := by simpa using hf
                have HR : Hid (R = 4) := by show _ = _; rw [HV4.out, if_pos ⟨.inl hf, rfl⟩]
                clear HV4 hf
                go_wp2
                go_ret
                exact ⟨ret_int HR.out.symm, hbw2⟩
              · have hf' : (r.fr == 5) = false := by simpa using hf
                by_cases hm : 0 < n 5
                · have hm' : (0 : Int) < ((n 5 : Nat) : Int) := by omega
                  have HR : Hid (R = 4) := by show _ = _; rw [HV4.out, if_pos ⟨.inr hm, rfl⟩]
                  clear HV4 hf
                  go_wp2
                  go_ret
                  exact ⟨ret_int HR.out.symm, hbw2⟩
                · have hm' : ¬ (0 : Int) < ((n 5 : Nat) : Int) := by omega
                  have HR : Hid (R = 0) := by show _ = _; rw [HV4.out, if_neg (fun h => by rcases h.1 with h | h; (· exact hf h); exact hm h)]
                  clear HV4 hf
                  go_wp2
                  go_ret
                  exact ⟨ret_int HR.out.symm, hbw2⟩
end
end Go.Proofs.YtnelecjjbmjhaaaDoor
