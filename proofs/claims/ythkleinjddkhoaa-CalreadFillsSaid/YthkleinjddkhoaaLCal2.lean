/- The walk of the law CalreadFills. -/
import Derived.Test.YthkleinjddkhoaaLCal
import Derived.Test.YthkleinjddkhoaaRCalFill
namespace Go.Proofs.Ythkleinjddkhoaa
open Go.RowKit
set_option linter.unusedSimpArgs false
set_option linter.unusedVariables false

theorem alike_out {l m : List UInt8} (h : Alike (kread l) (kread m)) : kcal (kread l) = kcal (kread m) ∧ (kerr (kread l) == 0) = (kerr (kread m) == 0) := by
  rcases h with ⟨c, h1, h2⟩ | ⟨⟨a, e⟩, ⟨b, f⟩, h1, h2⟩
  · rw [h1, h2]; exact ⟨rfl, rfl⟩
  · have he := (kread_err h1).1
    have hf := (kread_err h2).1
    rw [h1, h2]
    refine ⟨rfl, ?_⟩
    show (e == 0) = (f == 0)
    rw [beq_eq_false_iff_ne.2 he, beq_eq_false_iff_ne.2 hf]
theorem take_mem {s : ByteArray} {k : Nat} (hk : k < s.size) (c : UInt8) : c ∈ s.data.toList.take (k + 1) ↔ c ∈ s.data.toList.take k ∨ c = s[k] := by
  rw [List.take_add_one, byte_at s k hk]
  simp
theorem byte45 (x : UInt8) : decide (45 = x) = ((x.toNat : Int) == 45) := by
  rw [Bool.eq_iff_iff, decide_eq_true_eq, beq_iff_eq]
  constructor
  · rintro rfl; rfl
  · intro h2
    apply UInt8.toNat_inj.1
    have : (45 : UInt8).toNat = 45 := rfl
    omega
set_option maxRecDepth 20000 in
set_option maxHeartbeats 4000000 in
theorem calreadFills_any (s : ByteArray) (w : World) (hs : s.size ≤ 9223372036854775807) (hm : MaxAt w) : Calls Try.prog 3 #[.string s] w (Ret (.bool true) w) := by
  have HV := Lib.hid (fun W (hb : Below w.heap.size w W) => lives29_any W (hm.below hb))
  by_cases hbig : 3000 < s.size
  · have hbig' : (3000 : Int) < (s.size : Int) := by omega
    clear hbig
    go_enter Try.func3, Try.ntmps3
    go_wp2_with fail
    refine (HV.out _ (Below.refl _ _)).mono ?_
    rintro e w1 ⟨rfl, hb1⟩
    go_wp2
    go_ret
    exact ⟨rfl, hb1⟩
  · have hbig' : ¬ (3000 : Int) < (s.size : Int) := by omega
    have hlen : s.data.toList.length ≤ 3000 := by rw [len_data]; omega
    have HR := Lib.hid (calread_ev s (by omega) w hm)
    have HD := Lib.hid (fun W (hb : Below w.heap.size w W) => calread_ev (s ++ ⟨#[32, 48, 48, 58, 48, 48, 58, 48, 48]⟩) (by rw [ByteArray.size_append]; have : (⟨#[32, 48, 48, 58, 48, 48, 58, 48, 48]⟩ : ByteArray).size = 9 := rfl; omega) W (hm.below hb))
    have HT := Lib.hid (fun W (hb : Below w.heap.size w W) => calread_ev (⟨#[42, 45, 42, 45, 42, 32]⟩ ++ s) (by rw [ByteArray.size_append]; have : (⟨#[42, 45, 42, 45, 42, 32]⟩ : ByteArray).size = 6 := rfl; omega) W (hm.below hb))
    have GD := Lib.hid (fun h32 h65 hd => alike_out (fills_date (l := s.data.toList) h32 h65 hd hlen))
    have GT := Lib.hid (fun h32 h65 hd => alike_out (fills_time (l := s.data.toList) h32 h65 hd hlen))
    unfold RetEv at HR HD HT
    simp only [str_app] at HD HT
    rw [show ([32, 48, 48, 58, 48, 48, 58, 48, 48] : List UInt8) = 32 :: sFirst from rfl] at HD
    rw [show ([42, 45, 42, 45, 42, 32] : List UInt8) = sDates from rfl] at HT
    generalize kread s.data.toList = K1 at *
    generalize kread (s.data.toList ++ 32 :: sFirst) = K2 at *
    generalize kread (sDates ++ s.data.toList) = K3 at *
    clear hlen hbig
    go_enter Try.func3, Try.ntmps3
    go_wp2
    go_loop [3, 4, 5] (fun dv tv iv => ∃ (dated timed : Bool) (k : Nat), dv = .bool dated ∧ tv = .bool timed ∧ iv = .int .i64 k ∧ k ≤ s.size ∧ Hid (dated = decide (45 ∈ s.data.toList.take k)) ∧ Hid (∀ c ∈ s.data.toList.take k, c ≠ 32 ∧ c.toNat < 65)) (fun _ _ iv => s.size - (intOf iv).toNat)
    case atStart => exact ⟨false, false, 0, rfl, rfl, rfl, Nat.zero_le _, by simp [Hid], by simp [Hid]⟩
    case round =>
      obtain ⟨dated, timed, k, rfl, rfl, rfl, hk, Hd, Hc⟩ := hrel
      by_cases hlt : k < s.size
      · have hlt' : (k : Int) < (s.size : Int) := by omega
        by_cases hbad : s[k].toNat = 32 ∨ 65 ≤ s[k].toNat
        · by_cases h32 : s[k].toNat = 32
          · have q1 : ((s[k].toNat : Int) == 32) = true := by simp; omega
            clear hbad h32
            go_wp2_with fail
            refine (HV.out _ (Below.refl _ _)).mono ?_
            rintro e w1 ⟨rfl, hb1⟩
            go_wp2
            go_ret
            exact ⟨rfl, hb1⟩
          · have q1 : ((s[k].toNat : Int) == 32) = false := by simp; omega
            have q2 : (65 : Int) ≤ (s[k].toNat : Int) := by omega
            clear hbad h32
            go_wp2_with fail
            refine (HV.out _ (Below.refl _ _)).mono ?_
            rintro e w1 ⟨rfl, hb1⟩
            go_wp2
            go_ret
            exact ⟨rfl, hb1⟩
        · have q1 : ((s[k].toNat : Int) == 32) = false := by simp; omega
          have q2 : ¬ (65 : Int) ≤ (s[k].toNat : Int) := by omega
          have Hc' : Hid (∀ c ∈ s.data.toList.take (k + 1), c ≠ 32 ∧ c.toNat < 65) := by
            intro c hc
            rcases (take_mem hlt c).1 hc with h | rfl
            · exact Hc.out c h
            · exact ⟨fun e => hbad (.inl (by rw [e]; rfl)), by omega⟩
          have Hd' : Hid (decide (45 ∈ s.data.toList.take (k + 1)) = (dated || ((s[k].toNat : Int) == 45))) := by
            show _ = _
            rw [Hd.out, ← byte45, ← Bool.decide_or]
            exact decide_eq_decide.2 (take_mem hlt 45)
          clear hbad Hd Hc
          cases dated with
          | true =>
            cases timed with
            | true =>
              go_wp2
              go_round
              case rel => exact ⟨true, true, k + 1, rfl, rfl, by go_num, by omega, by show _ = _; rw [Hd'.out, Bool.true_or], Hc'⟩
              case measure => simp [intOf]; omega
            | false =>
              go_wp2
              go_round
              case rel => exact ⟨true, _, k + 1, rfl, rfl, by go_num, by omega, by show _ = _; rw [Hd'.out, Bool.true_or], Hc'⟩
              case measure => simp [intOf]; omega
          | false =>
            cases timed with
            | true =>
              go_wp2
              go_round
              case rel => exact ⟨_, true, k + 1, rfl, rfl, by go_num, by omega, by show _ = _; rw [Hd'.out, Bool.false_or], Hc'⟩
              case measure => simp [intOf]; omega
            | false =>
              go_wp2
              go_round
              case rel => exact ⟨_, _, k + 1, rfl, rfl, by go_num, by omega, by show _ = _; rw [Hd'.out, Bool.false_or], Hc'⟩
              case measure => simp [intOf]; omega
      · obtain rfl : k = s.size := by omega
        have htk : s.data.toList.take s.size = s.data.toList := List.take_of_length_le (by rw [len_data]; exact Nat.le_refl _)
        rw [htk] at Hd Hc
        clear htk
        cases dated with
        | true =>
          cases timed with
          | true =>
            go_wp2_with fail
            refine HR.out.mono ?_
            rintro e w1 ⟨hb1, A, n, m, rfl, hr1, hn1⟩
            have HR1 := Lib.hid hr1
            have HN1 := Lib.hid hn1
            clear hr1 hn1
            have hz1 := hb1.size
            unfold evV
            go_wp2_with fail
            generalize hW : World.alloc w1 _ = W1
            have hbW : Below w1.heap.size w1 W1 := by rw [← hW]; exact (Below.refl _ _).alloc (Nat.le_refl _) _
            have HE1 : Hid (EvAt W1 w1.heap.size A n m (kcal K1).back) := by subst hW; exact evAt_new _ _ _ _ _ _
            clear hW
            go_wp2_with fail
            refine (HV.out _ (bthen hb1 hbW hb1.size)).mono ?_
            rintro e w2 ⟨rfl, hb2⟩
            go_wp2
            go_ret
            exact ⟨rfl, bthen (bthen hb1 hbW hb1.size) hb2 (bthen hb1 hbW hb1.size).size⟩
          | false =>
            have HG := Lib.hid (GD.out (fun c hc => (Hc.out c hc).1) (fun c hc => (Hc.out c hc).2) (by have := Hd.out; simpa using this.symm))
            go_wp2_with fail
            refine HR.out.mono ?_
            rintro e w1 ⟨hb1, A, n, m, rfl, hr1, hn1⟩
            have HR1 := Lib.hid hr1
            have HN1 := Lib.hid hn1
            clear hr1 hn1
            have hz1 := hb1.size
            unfold evV
            go_wp2_with fail
            generalize hW : World.alloc w1 _ = W1
            have hbW : Below w1.heap.size w1 W1 := by rw [← hW]; exact (Below.refl _ _).alloc (Nat.le_refl _) _
            have HE1 : Hid (EvAt W1 w1.heap.size A n m (kcal K1).back) := by subst hW; exact evAt_new _ _ _ _ _ _
            clear hW
            refine (HD.out _ (bthen hb1 hbW hb1.size)).mono ?_
            rintro e w2 ⟨hb2, B, n', m', rfl, hr2, hn2⟩
            have hbT : Below w.heap.size w w2 := bthen (bthen hb1 hbW hb1.size) hb2 (bthen hb1 hbW hb1.size).size
            have hb12 : Below w1.heap.size w1 w2 := bthen hbW hb2 hbW.size
            have HS := Lib.hid (fun W (hb : Below w2.heap.size w2 W) => ksame_any A B n m n' m' (kcal K1) (kcal K2) W (HR1.out.below (bthen hb12 hb hb12.size)) (hr2.below hb) (fun k hk => Nat.le_trans (HN1.out _ (kslot_ok hk).1 (kslot_ok hk).2) (by decide)) (fun k hk => Nat.le_trans (hn2 _ (kslot_ok hk).1 (kslot_ok hk).2) (by decide)))
            rw [show sameK (kcal K1) (kcal K2) = true by rw [HG.out.1]; exact sameK_self _] at HS
            obtain ⟨x0, x1, x2, x3, x4, x5, x6, x7⟩ := HE1.out.below hb2
            have hzC := World.block_lt_of_cell? _ _ x0
            have hq := HG.out.2
            generalize kerr K1 = e1 at *
            generalize kerr K2 = e2 at *
            unfold evV at HS ⊢
            clear hr2 hn2 HR1 HN1
            cases he : (e1 == 0) with
            | true =>
              rw [he] at hq
              have hq' := hq.symm
              clear hq
              go_wp2_with fail
              refine (HS.out _ ((Below.refl _ _).alloc (Nat.le_refl _) _)).mono ?_
              rintro e w3 ⟨rfl, hb3⟩
              have hbU : Below w.heap.size w w3 := (hbT.alloc hbT.size _).trans (hb3.mono (by have := hbT.size; simp; omega))
              go_wp2_with fail
              refine (HV.out _ hbU).mono ?_
              rintro e w4 ⟨rfl, hb4⟩
              go_wp2
              go_ret
              exact ⟨rfl, bthen hbU hb4 hbU.size⟩
            | false =>
              rw [he] at hq
              have hq' := hq.symm
              clear hq
              go_wp2_with fail
              refine (HS.out _ ((Below.refl _ _).alloc (Nat.le_refl _) _)).mono ?_
              rintro e w3 ⟨rfl, hb3⟩
              have hbU : Below w.heap.size w w3 := (hbT.alloc hbT.size _).trans (hb3.mono (by have := hbT.size; simp; omega))
              go_wp2_with fail
              refine (HV.out _ hbU).mono ?_
              rintro e w4 ⟨rfl, hb4⟩
              go_wp2
              go_ret
              exact ⟨rfl, bthen hbU hb4 hbU.size⟩
        | false =>
          cases timed with
          | true =>
            have HG := Lib.hid (GT.out (fun c hc => (Hc.out c hc).1) (fun c hc => (Hc.out c hc).2) (by have := Hd.out; simpa using this.symm))
            go_wp2_with fail
            refine HR.out.mono ?_
            rintro e w1 ⟨hb1, A, n, m, rfl, hr1, hn1⟩
            have HR1 := Lib.hid hr1
            have HN1 := Lib.hid hn1
            clear hr1 hn1
            have hz1 := hb1.size
            unfold evV
            go_wp2_with fail
            generalize hW : World.alloc w1 _ = W1
            have hbW : Below w1.heap.size w1 W1 := by rw [← hW]; exact (Below.refl _ _).alloc (Nat.le_refl _) _
            have HE1 : Hid (EvAt W1 w1.heap.size A n m (kcal K1).back) := by subst hW; exact evAt_new _ _ _ _ _ _
            clear hW
            refine (HT.out _ (bthen hb1 hbW hb1.size)).mono ?_
            rintro e w2 ⟨hb2, B, n', m', rfl, hr2, hn2⟩
            have hbT : Below w.heap.size w w2 := bthen (bthen hb1 hbW hb1.size) hb2 (bthen hb1 hbW hb1.size).size
            have hb12 : Below w1.heap.size w1 w2 := bthen hbW hb2 hbW.size
            have HS := Lib.hid (fun W (hb : Below w2.heap.size w2 W) => ksame_any A B n m n' m' (kcal K1) (kcal K3) W (HR1.out.below (bthen hb12 hb hb12.size)) (hr2.below hb) (fun k hk => Nat.le_trans (HN1.out _ (kslot_ok hk).1 (kslot_ok hk).2) (by decide)) (fun k hk => Nat.le_trans (hn2 _ (kslot_ok hk).1 (kslot_ok hk).2) (by decide)))
            rw [show sameK (kcal K1) (kcal K3) = true by rw [HG.out.1]; exact sameK_self _] at HS
            obtain ⟨x0, x1, x2, x3, x4, x5, x6, x7⟩ := HE1.out.below hb2
            have hzC := World.block_lt_of_cell? _ _ x0
            have hq := HG.out.2
            generalize kerr K1 = e1 at *
            generalize kerr K3 = e2 at *
            unfold evV at HS ⊢
            clear hr2 hn2 HR1 HN1
            cases he : (e1 == 0) with
            | true =>
              rw [he] at hq
              have hq' := hq.symm
              clear hq
              go_wp2_with fail
              refine (HS.out _ ((Below.refl _ _).alloc (Nat.le_refl _) _)).mono ?_
              rintro e w3 ⟨rfl, hb3⟩
              have hbU : Below w.heap.size w w3 := (hbT.alloc hbT.size _).trans (hb3.mono (by have := hbT.size; simp; omega))
              go_wp2_with fail
              refine (HV.out _ hbU).mono ?_
              rintro e w4 ⟨rfl, hb4⟩
              go_wp2
              go_ret
              exact ⟨rfl, bthen hbU hb4 hbU.size⟩
            | false =>
              rw [he] at hq
              have hq' := hq.symm
              clear hq
              go_wp2_with fail
              refine (HS.out _ ((Below.refl _ _).alloc (Nat.le_refl _) _)).mono ?_
              rintro e w3 ⟨rfl, hb3⟩
              have hbU : Below w.heap.size w w3 := (hbT.alloc hbT.size _).trans (hb3.mono (by have := hbT.size; simp; omega))
              go_wp2_with fail
              refine (HV.out _ hbU).mono ?_
              rintro e w4 ⟨rfl, hb4⟩
              go_wp2
              go_ret
              exact ⟨rfl, bthen hbU hb4 hbU.size⟩
          | false =>
            go_wp2_with fail
            refine HR.out.mono ?_
            rintro e w1 ⟨hb1, A, n, m, rfl, hr1, hn1⟩
            have HR1 := Lib.hid hr1
            have HN1 := Lib.hid hn1
            clear hr1 hn1
            have hz1 := hb1.size
            unfold evV
            go_wp2_with fail
            generalize hW : World.alloc w1 _ = W1
            have hbW : Below w1.heap.size w1 W1 := by rw [← hW]; exact (Below.refl _ _).alloc (Nat.le_refl _) _
            have HE1 : Hid (EvAt W1 w1.heap.size A n m (kcal K1).back) := by subst hW; exact evAt_new _ _ _ _ _ _
            clear hW
            go_wp2_with fail
            refine (HV.out _ (bthen hb1 hbW hb1.size)).mono ?_
            rintro e w2 ⟨rfl, hb2⟩
            go_wp2
            go_ret
            exact ⟨rfl, bthen (bthen hb1 hbW hb1.size) hb2 (bthen hb1 hbW hb1.size).size⟩
end Go.Proofs.Ythkleinjddkhoaa
