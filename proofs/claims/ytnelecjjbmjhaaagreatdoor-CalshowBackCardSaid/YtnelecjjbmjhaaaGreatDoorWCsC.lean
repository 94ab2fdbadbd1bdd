/- The walk of feriaref30.Item. -/
import Derived.Test.YtnelecjjbmjhaaaGreatDoorWCalA
import Derived.Test.YtnelecjjbmjhaaaGreatDoorWShow4
import Derived.Test.YtnelecjjbmjhaaaGreatDoorWBox
/- The walks of the two texts of a number of a field: calshow.number, feriaref30.number. -/
namespace Go.Proofs.YtnelecjjbmjhaaaGreatDoor
open Go.RowKit
set_option linter.unusedSimpArgs false
set_option linter.unusedVariables false

def sLen (v : Value) : Nat := match v with | .string T => T.size | _ => 0
/-- A weekday's name; none beyond the week. -/
def wdT (n : Int) : List UInt8 := if 1 ≤ n ∧ n ≤ 7 then wkNm (n.toNat - 1) else []
/-- A number with noughts ahead, up to m signs. -/
def padT (m : Nat) (n : Int) : List UInt8 := if n < 0 then Lib.itoa n else List.replicate (m - (Lib.itoa n).length) 48 ++ Lib.itoa n
def digT (f : Int) : Nat := if f = 1 then 4 else 2
/-- The text of a number of a field. -/
def numT (f n : Int) : List UInt8 := if f = 0 then wdT n else padT (digT f) n
theorem wdT_none {n : Int} (h : n < 1 ∨ 7 < n) : wdT n = [] := if_neg (by omega)
theorem wdT_at {k : Nat} (hk : k < 7) : wdT ((k : Int) + 1) = wkNm k := by
  unfold wdT
  rw [if_pos (by omega), show ((k : Int) + 1).toNat - 1 = k by omega]
set_option maxHeartbeats 1000000 in
theorem wname_any (n : Int) (w : World) : Calls Tryz.prog 97 #[.int .i64 n] w (Ret (.string (strB (wdT n))) w) := by
  by_cases h1 : n < 1
  · have HR : Hid (wdT n = []) := wdT_none (.inl h1)
    go_enter Tryz.func97, Tryz.ntmps97
    go_wp2
    go_ret
    exact ⟨ret_str (by rw [HR.out]), Below.refl _ _⟩
  · by_cases h7 : 7 < n
    · have HR : Hid (wdT n = []) := wdT_none (.inr h7)
      go_enter Tryz.func97, Tryz.ntmps97
      go_wp2
      go_ret
      exact ⟨ret_str (by rw [HR.out]), Below.refl _ _⟩
    · obtain ⟨k, hk, rfl⟩ : ∃ k : Nat, k < 7 ∧ n = (k : Int) + 1 := ⟨n.toNat - 1, by omega, by omega⟩
      have HR : Hid (wdT ((k : Int) + 1) = wkNm k) := wdT_at hk
      have hix : ∀ W, (Instr.index 101 wkNames (.int .i64 ((k : Int) + 1 - 1))).run Tryz.prog W = .ok (.string (strB (wkNm k))) W := fun W => by
        rw [show (k : Int) + 1 - 1 = (k : Int) by omega]; exact wkNames_at k hk W
      have e1 : (k : Int) + 1 - 1 = (k : Int) := by omega
      have hix2 := fun W => wkNames_at k hk W
      go_enter Tryz.func97, Tryz.ntmps97
      go_wp2_with fail
      refine (wkNames_any _).mono ?_
      rintro e w1 ⟨rfl, hb1⟩
      go_wp2
      go_ret
      exact ⟨ret_str (by rw [HR.out, strB_data]), hb1⟩
theorem padT_neg {m : Nat} {n : Int} (h : n < 0) : padT m n = Lib.itoa n := if_pos h
theorem padT_long {m : Nat} {n : Int} (h : m ≤ (Lib.itoa n).length) : padT m n = Lib.itoa n := by
  unfold padT
  split
  · rfl
  · rw [show m - (Lib.itoa n).length = 0 by omega]; rfl
theorem padT_short {m : Nat} {n : Int} (h : ¬ n < 0) : padT m n = List.replicate (m - (Lib.itoa n).length) 48 ++ Lib.itoa n := if_neg h
theorem repeat_48 (c : Nat) : Lib.repeatL [48] c = List.replicate c (48 : UInt8) := by
  induction c with
  | zero => rfl
  | succ c ih => rw [List.replicate_succ]; show [48] ++ Lib.repeatL [48] c = _; rw [ih]; rfl
set_option maxRecDepth 20000 in
set_option maxHeartbeats 2000000 in
theorem cnumber_any (n f : Int) (hn : In64 n) (w : World) (hw : Pow w) : Calls Tryz.prog 48 #[.int .i64 n, .int .i64 f] w (Ret (.string (strB (numT f n))) w) := by
  by_cases h0 : f = 0
  · subst h0
    have HN := Lib.hid (fun W => wname_any n W)
    have HR : Hid (numT 0 n = wdT n) := if_pos rfl
    go_enter Tryz.func48, Tryz.ntmps48
    go_wp2_with fail
    refine (HN.out _).mono ?_
    rintro e w1 ⟨rfl, hb1⟩
    go_wp2
    go_ret
    exact ⟨ret_str (by rw [HR.out, strB_data]), hb1⟩
  · have h0' : (f == 0) = false := by simpa using h0
    have HI := Lib.hid (itoaB_any n hn w hw)
    have HR : Hid (numT f n = padT (digT f) n) := if_neg h0
    have HP := Lib.hid (fun h => padT_neg (m := digT f) (n := n) h)
    have HL := Lib.hid (fun h => padT_long (m := digT f) (n := n) h)
    have HQ := Lib.hid (fun h => padT_short (m := digT f) (n := n) h)
    have hz := itoa_size hn
    have ds := strB_data (Lib.itoa n)
    have hl := strB_size (Lib.itoa n)
    have HS := Lib.hid ds
    have HLen := Lib.hid hl
    clear ds hl
    generalize strB (Lib.itoa n) = S at *
    generalize padT (digT f) n = R at *
    clear h0 hw hn
    have hrep := Lib.hid (fun c W hc => Tryz.strings_Repeat ⟨#[48]⟩ c W hc)
    by_cases hneg : n < 0
    · have HV := Lib.hid (HP.out hneg)
      clear HL HQ
      by_cases h1 : f = 1
      · have h1' : (f == 1) = true := by simpa using h1
        clear h1
        go_enter Tryz.func48, Tryz.ntmps48
        go_wp2_with fail
        refine HI.out.mono ?_
        rintro e w1 ⟨rfl, hb1⟩
        go_wp2
        go_ret
        exact ⟨ret_str (by rw [HR.out, HV.out, HS.out]), hb1⟩
      · have h1' : (f == 1) = false := by simpa using h1
        clear h1
        go_enter Tryz.func48, Tryz.ntmps48
        go_wp2_with fail
        refine HI.out.mono ?_
        rintro e w1 ⟨rfl, hb1⟩
        go_wp2
        go_ret
        exact ⟨ret_str (by rw [HR.out, HV.out, HS.out]), hb1⟩
    · by_cases h1 : f = 1
      · have h1' : (f == 1) = true := by simpa using h1
        have hd : digT f = 4 := if_pos h1
        rw [hd] at HL HQ
        clear h1 hd HP
        by_cases hsz : 4 ≤ S.size
        · have HV := Lib.hid (HL.out (by rw [← HLen.out]; exact hsz))
          have hsz' : (4 : Int) ≤ (S.size : Int) := by omega
          clear hsz HL HQ
          go_enter Tryz.func48, Tryz.ntmps48
          go_wp2_with fail
          refine HI.out.mono ?_
          rintro e w1 ⟨rfl, hb1⟩
          go_wp2
          go_ret
          exact ⟨ret_str (by rw [HR.out, HV.out, HS.out]), hb1⟩
        · have HV := Lib.hid (HQ.out hneg)
          have hsz' : ¬ (4 : Int) ≤ (S.size : Int) := by omega
          have hsub : (4 : Int) - (S.size : Int) = ((4 - S.size : Nat) : Int) := by omega
          have hrp := hrep.out (4 - S.size) 
          have hone : (⟨#[48]⟩ : ByteArray).size = 1 := rfl
          have HRp := Lib.hid (fun W => hrp W (by omega) (by rw [hone]; omega))
          have hrsz : (⟨(Lib.repeatL (⟨#[48]⟩ : ByteArray).data.toList (4 - S.size)).toArray⟩ : ByteArray).data.toList = List.replicate (4 - S.size) 48 := repeat_48 _
          have hrl : (⟨(Lib.repeatL (⟨#[48]⟩ : ByteArray).data.toList (4 - S.size)).toArray⟩ : ByteArray).size = 4 - S.size := by rw [← len_data, hrsz, List.length_replicate]
          have HRs := Lib.hid hrsz
          clear HL HQ hrp hrsz hone
          generalize (⟨(Lib.repeatL (⟨#[48]⟩ : ByteArray).data.toList (4 - S.size)).toArray⟩ : ByteArray) = Z at *
          have hzl : Z.size ≤ 4 := by omega
          have HN := Lib.hid hrl
          clear hrl
          generalize (4 - S.size : Nat) = c at *
          go_enter Tryz.func48, Tryz.ntmps48
          go_wp2_with fail
          refine HI.out.mono ?_
          rintro e w1 ⟨rfl, hb1⟩
          go_wp2_with fail
          first | rw [hsub] | skip
          refine (HRp.out _).mono ?_
          rintro e w2 ⟨rfl, hb2⟩
          go_wp2
          go_ret
          exact ⟨ret_str (by rw [str_app, HR.out, HV.out, HRs.out, HS.out, ← HLen.out, show (4 - S.size : Nat) = c by omega]), bthen hb1 hb2 hb1.size⟩
      · have h1' : (f == 1) = false := by simpa using h1
        have hd : digT f = 2 := if_neg h1
        rw [hd] at HL HQ
        clear h1 hd HP
        by_cases hsz : 2 ≤ S.size
        · have HV := Lib.hid (HL.out (by rw [← HLen.out]; exact hsz))
          have hsz' : (2 : Int) ≤ (S.size : Int) := by omega
          clear hsz HL HQ
          go_enter Tryz.func48, Tryz.ntmps48
          go_wp2_with fail
          refine HI.out.mono ?_
          rintro e w1 ⟨rfl, hb1⟩
          go_wp2
          go_ret
          exact ⟨ret_str (by rw [HR.out, HV.out, HS.out]), hb1⟩
        · have HV := Lib.hid (HQ.out hneg)
          have hsz' : ¬ (2 : Int) ≤ (S.size : Int) := by omega
          have hsub : (2 : Int) - (S.size : Int) = ((2 - S.size : Nat) : Int) := by omega
          have hrp := hrep.out (2 - S.size) 
          have hone : (⟨#[48]⟩ : ByteArray).size = 1 := rfl
          have HRp := Lib.hid (fun W => hrp W (by omega) (by rw [hone]; omega))
          have hrsz : (⟨(Lib.repeatL (⟨#[48]⟩ : ByteArray).data.toList (2 - S.size)).toArray⟩ : ByteArray).data.toList = List.replicate (2 - S.size) 48 := repeat_48 _
          have hrl : (⟨(Lib.repeatL (⟨#[48]⟩ : ByteArray).data.toList (2 - S.size)).toArray⟩ : ByteArray).size = 2 - S.size := by rw [← len_data, hrsz, List.length_replicate]
          have HRs := Lib.hid hrsz
          clear HL HQ hrp hrsz hone
          generalize (⟨(Lib.repeatL (⟨#[48]⟩ : ByteArray).data.toList (2 - S.size)).toArray⟩ : ByteArray) = Z at *
          have hzl : Z.size ≤ 4 := by omega
          have HN := Lib.hid hrl
          clear hrl
          generalize (2 - S.size : Nat) = c at *
          go_enter Tryz.func48, Tryz.ntmps48
          go_wp2_with fail
          refine HI.out.mono ?_
          rintro e w1 ⟨rfl, hb1⟩
          go_wp2_with fail
          first | rw [hsub] | skip
          refine (HRp.out _).mono ?_
          rintro e w2 ⟨rfl, hb2⟩
          go_wp2
          go_ret
          exact ⟨ret_str (by rw [str_app, HR.out, HV.out, HRs.out, HS.out, ← HLen.out, show (2 - S.size : Nat) = c by omega]), bthen hb1 hb2 hb1.size⟩
/-- The weekdays' names in memory. -/
theorem rnames_at (k : Nat) (hk : k < 7) : (#[Value.string ⟨#[77, 111, 110]⟩, .string ⟨#[84, 117, 101]⟩, .string ⟨#[87, 101, 100]⟩, .string ⟨#[84, 104, 117]⟩, .string ⟨#[70, 114, 105]⟩, .string ⟨#[83, 97, 116]⟩, .string ⟨#[83, 117, 110]⟩] : Array Value)[k]? = some (.string (strB (wkNm k))) := by
  obtain rfl | rfl | rfl | rfl | rfl | rfl | rfl : k = 0 ∨ k = 1 ∨ k = 2 ∨ k = 3 ∨ k = 4 ∨ k = 5 ∨ k = 6 := by omega
  all_goals rfl
def RetNames (w : World) (e : Ending) (w' : World) : Prop := ∃ B, w.heap.size ≤ B ∧ e = .returned (.slice (some ⟨B, 0, none⟩) 7 7) ∧ (∀ k, k < 7 → w'.cell? ⟨B, k, none⟩ = some (.string (strB (wkNm k)))) ∧ Below w.heap.size w w'
theorem rnames_any (w : World) : Calls Tryz.prog 102 #[] w (RetNames w) := by
  go_enter Tryz.func102, Tryz.ntmps102
  go_wp2
  go_ret
  exact ⟨_, Nat.le_refl _, rfl, fun k hk => cell_new rfl (rnames_at k hk), by (repeat' (first | (with_reducible exact Below.refl _ _) | (with_reducible assumption) | (with_reducible refine below_drewN ?_ _) | (with_reducible refine Below.alloc ?_ ?_ _) | (with_reducible refine Below.drew ?_) | (with_reducible refine Below.setCell ?_ ?_ _) | go_size))⟩
set_option maxRecDepth 20000 in
set_option maxHeartbeats 2000000 in
theorem rnumber30_any (n f : Int) (hn : In64 n) (w : World) : Calls Tryz.prog 50 #[.int .i64 n, .int .i64 f] w (Ret (.string (strB (numT f n))) w) := by
  by_cases h0 : f = 0
  · subst h0
    have HR : Hid (numT 0 n = wdT n) := if_pos rfl
    by_cases h1 : n < 1
    · have HV := Lib.hid (wdT_none (.inl h1))
      go_enter Tryz.func50, Tryz.ntmps50
      go_wp2
      go_ret
      exact ⟨ret_str (by rw [HR.out, HV.out]), Below.refl _ _⟩
    · by_cases h7 : 7 < n
      · have HV := Lib.hid (wdT_none (.inr h7))
        go_enter Tryz.func50, Tryz.ntmps50
        go_wp2
        go_ret
        exact ⟨ret_str (by rw [HR.out, HV.out]), Below.refl _ _⟩
      · obtain ⟨k, hk, rfl⟩ : ∃ k : Nat, k < 7 ∧ n = (k : Int) + 1 := ⟨n.toNat - 1, by omega, by omega⟩
        have HV := Lib.hid (wdT_at hk)
        have e1 : (k : Int) + 1 - 1 = (k : Int) := by omega
        have hk7 : (k : Int) < 7 := by omega
        clear hn
        go_enter Tryz.func50, Tryz.ntmps50
        go_wp2_with fail
        refine (rnames_any _).mono ?_
        rintro e w1 ⟨B, hB, rfl, hc, hb1⟩
        have hc := hc k hk
        go_wp2
        go_ret
        exact ⟨ret_str (by rw [HR.out, HV.out, strB_data]), hb1⟩
  · have h0' : (f == 0) = false := by simpa using h0
    have HI := Lib.hid (fun W => num_any n hn W)
    have HR : Hid (numT f n = padT (digT f) n) := if_neg h0
    have HP := Lib.hid (fun h => padT_neg (m := digT f) (n := n) h)
    have HL := Lib.hid (fun h => padT_long (m := digT f) (n := n) h)
    have HQ := Lib.hid (fun h => padT_short (m := digT f) (n := n) h)
    have hz := itoa_size hn
    have ds := strB_data (Lib.itoa n)
    have hl := strB_size (Lib.itoa n)
    have HS := Lib.hid ds
    have HLen := Lib.hid hl
    clear ds hl
    generalize strB (Lib.itoa n) = S at *
    generalize padT (digT f) n = R at *
    clear h0 hn
    by_cases hneg : n < 0
    · have HV := Lib.hid (HP.out hneg)
      clear HL HQ HP
      by_cases h1 : f = 1
      · have h1' : (f == 1) = true := by simpa using h1
        clear h1
        go_enter Tryz.func50, Tryz.ntmps50
        go_wp2_with fail
        refine (HI.out _).mono ?_
        rintro e w1 ⟨rfl, hb1⟩
        go_wp2
        go_loop [5] (fun sv => sv = .string S) (fun _ => 0)
        case atStart => rfl
        case round =>
          subst hrel
          go_wp2
          go_ret
          exact ⟨ret_str (by rw [HR.out, HV.out, HS.out]), hb1⟩
      · have h1' : (f == 1) = false := by simpa using h1
        clear h1
        go_enter Tryz.func50, Tryz.ntmps50
        go_wp2_with fail
        refine (HI.out _).mono ?_
        rintro e w1 ⟨rfl, hb1⟩
        go_wp2
        go_loop [5] (fun sv => sv = .string S) (fun _ => 0)
        case atStart => rfl
        case round =>
          subst hrel
          go_wp2
          go_ret
          exact ⟨ret_str (by rw [HR.out, HV.out, HS.out]), hb1⟩
    · by_cases h1 : f = 1
      · have h1' : (f == 1) = true := by simpa using h1
        have hd : digT f = 4 := if_pos h1
        rw [hd] at HL HQ
        clear h1 hd HP
        go_enter Tryz.func50, Tryz.ntmps50
        go_wp2_with fail
        refine (HI.out _).mono ?_
        rintro e w1 ⟨rfl, hb1⟩
        go_wp2
        go_loop [5] (fun sv => ∃ (T : ByteArray) (j : Nat), sv = .string T ∧ Hid (T.data.toList = List.replicate j 48 ++ Lib.itoa n) ∧ T.size = j + S.size ∧ j ≤ 4 - S.size) (fun sv => 4 - sLen sv)
        case atStart => exact ⟨S, 0, rfl, HS.out, by omega, by omega⟩
        case round =>
          obtain ⟨T, j, rfl, HT, hsz, hj⟩ := hrel
          by_cases hlt : T.size < 4
          · have hlt' : (T.size : Int) < 4 := by omega
            go_wp2
            go_round
            case rel => exact ⟨_, j + 1, rfl, by show _ = _; rw [str_app, HT.out, List.replicate_succ]; rfl, by rw [ByteArray.size_append, show (⟨#[48]⟩ : ByteArray).size = 1 from rfl]; omega, by omega⟩
            case measure =>
              have hx : (⟨#[48]⟩ ++ T : ByteArray).size = 1 + T.size := by rw [ByteArray.size_append]; rfl
              show 4 - (⟨#[48]⟩ ++ T : ByteArray).size < 4 - T.size
              omega
          · have hlt' : ¬ (T.size : Int) < 4 := by omega
            go_wp2
            go_ret
            have HV : Hid (R = List.replicate j 48 ++ Lib.itoa n) := by
              show _ = _
              by_cases hs2 : 4 ≤ S.size
              · obtain rfl : j = 0 := by omega
                rw [HL.out (by rw [← HLen.out]; exact hs2)]; rfl
              · rw [HQ.out (by omega), ← HLen.out, show 4 - S.size = j by omega]
            exact ⟨ret_str (by rw [HR.out, HV.out, HT.out]), hb1⟩
      · have h1' : (f == 1) = false := by simpa using h1
        have hd : digT f = 2 := if_neg h1
        rw [hd] at HL HQ
        clear h1 hd HP
        go_enter Tryz.func50, Tryz.ntmps50
        go_wp2_with fail
        refine (HI.out _).mono ?_
        rintro e w1 ⟨rfl, hb1⟩
        go_wp2
        go_loop [5] (fun sv => ∃ (T : ByteArray) (j : Nat), sv = .string T ∧ Hid (T.data.toList = List.replicate j 48 ++ Lib.itoa n) ∧ T.size = j + S.size ∧ j ≤ 2 - S.size) (fun sv => 2 - sLen sv)
        case atStart => exact ⟨S, 0, rfl, HS.out, by omega, by omega⟩
        case round =>
          obtain ⟨T, j, rfl, HT, hsz, hj⟩ := hrel
          by_cases hlt : T.size < 2
          · have hlt' : (T.size : Int) < 2 := by omega
            go_wp2
            go_round
            case rel => exact ⟨_, j + 1, rfl, by show _ = _; rw [str_app, HT.out, List.replicate_succ]; rfl, by rw [ByteArray.size_append, show (⟨#[48]⟩ : ByteArray).size = 1 from rfl]; omega, by omega⟩
            case measure =>
              have hx : (⟨#[48]⟩ ++ T : ByteArray).size = 1 + T.size := by rw [ByteArray.size_append]; rfl
              show 2 - (⟨#[48]⟩ ++ T : ByteArray).size < 2 - T.size
              omega
          · have hlt' : ¬ (T.size : Int) < 2 := by omega
            go_wp2
            go_ret
            have HV : Hid (R = List.replicate j 48 ++ Lib.itoa n) := by
              show _ = _
              by_cases hs2 : 2 ≤ S.size
              · obtain rfl : j = 0 := by omega
                rw [HL.out (by rw [← HLen.out]; exact hs2)]; rfl
              · rw [HQ.out (by omega), ← HLen.out, show 2 - S.size = j by omega]
            exact ⟨ret_str (by rw [HR.out, HV.out, HT.out]), hb1⟩
end Go.Proofs.YtnelecjjbmjhaaaGreatDoor

/- The walk of calshow.Item. -/
namespace Go.Proofs.YtnelecjjbmjhaaaGreatDoor
open Go.RowKit
set_option linter.unusedSimpArgs false
set_option linter.unusedVariables false

/-- The text of an item of a field. -/
def citT (f : Int) (i : It) : List UInt8 :=
  if i.k = 0 then [42] else if i.k = 1 then numT f i.f else if i.k = 2 then numT f i.f ++ [46, 46] ++ numT f i.t ++ (if i.s = 1 then [] else 47 :: Lib.itoa i.s) else if i.k = 3 then numT f i.f ++ 47 :: Lib.itoa i.s else []
theorem padT_len {m : Nat} {n : Int} (h : In64 n) (hm : m ≤ 4) : (padT m n).length ≤ 25 := by
  have := Lib.itoa_length_le n h.1 h.2
  unfold padT
  split
  · omega
  · rw [List.length_append, List.length_replicate]; omega
theorem numT_len {n f : Int} (h : In64 n) : (numT f n).length ≤ 25 := by
  unfold numT
  split
  · unfold wdT
    split
    · exact Nat.le_trans (wkNm_len _) (by decide)
    · exact Nat.zero_le _
  · exact padT_len h (by unfold digT; split <;> decide)
theorem citT_len {f : Int} {i : It} (h : i.wf) : (citT f i).length ≤ 100 := by
  obtain ⟨_, h1, h2, h3⟩ := h
  have l1 := numT_len (f := f) h1
  have l2 := numT_len (f := f) h2
  have l3 := Lib.itoa_length_le i.s h3.1 h3.2
  unfold citT
  split
  · decide
  · split
    · omega
    · split
      · simp only [List.length_append, List.length_cons, List.length_nil]
        split
        · simp; omega
        · simp; omega
      · split
        · simp; omega
        · simp
def joinB (L : List ByteArray) : List UInt8 := Lib.join (L.map (·.data.toList)) []
section
variable {w : World} {B2 B3 : Nat} {i : It} {f : Int} (hf : In64 i.f) (h2 : w.cell? ⟨B2, 1, none⟩ = some (.int .i64 i.f)) (h3 : w.cell? ⟨B3, 0, none⟩ = some (.int .i64 f)) (hw : Pow w)
include hf h2 h3 hw
set_option maxHeartbeats 1000000 in
/-- The closure, at no signs. -/
theorem cfrom_none : Calls Tryz.prog 47 #[.slice none 0 0, .pointer (some ⟨B2, 0, none⟩), .pointer (some ⟨B3, 0, none⟩)] w (Ret (.string (strB (numT f i.f))) w) := by
  have HN := Lib.hid (cnumber_any i.f f hf w hw)
  have HJ := Lib.hid (fun W => Tryz.strings_Join_none none 0 ⟨#[]⟩ W)
  have hz : (strB (numT f i.f)).size ≤ 25 := by rw [strB_size]; exact numT_len hf
  generalize strB (numT f i.f) = S at *
  clear hw
  go_enter Tryz.func47, Tryz.ntmps47
  go_wp2_with fail
  refine HN.out.mono ?_
  rintro e w1 ⟨rfl, hb1⟩
  go_wp2_with fail
  refine (HJ.out _).mono ?_
  rintro e w2 ⟨rfl, rfl⟩
  go_wp2
  go_ret
  exact ⟨by rw [show S ++ (⟨#[]⟩ : ByteArray) = S from ByteArray.append_empty]; rfl, hb1⟩
set_option maxHeartbeats 1000000 in
/-- The closure, at some. -/
theorem cfrom_some (bk c : Nat) (xs : List ByteArray) (hcells : ∀ (j : Nat) x, xs[j]? = some x → w.cell? ⟨bk, 0 + j, none⟩ = some (.string x)) (hbk : bk < w.heap.size) (hN : xs.length ≤ 1000) (hcap : xs.length ≤ c) (hlen : (joinB xs).length ≤ 1000) :
    Calls Tryz.prog 47 #[.slice (some ⟨bk, 0, none⟩) xs.length c, .pointer (some ⟨B2, 0, none⟩), .pointer (some ⟨B3, 0, none⟩)] w (Ret (.string (strB (numT f i.f ++ joinB xs))) w) := by
  have HN := Lib.hid (cnumber_any i.f f hf w hw)
  have HJ := Lib.hid (fun W (hb : Below w.heap.size w W) => Tryz.strings_Join bk 0 c xs ⟨#[]⟩ W (fun j x hx => (hb.cell (p := ⟨bk, _, none⟩) hbk).trans (hcells j x hx)) (Nat.lt_of_lt_of_le hbk hb.size) (by omega) hcap (Nat.le_trans hlen (by decide)))
  have hz : (strB (numT f i.f)).size ≤ 25 := by rw [strB_size]; exact numT_len hf
  have hJz : (⟨(Lib.join (xs.map (·.data.toList)) (⟨#[]⟩ : ByteArray).data.toList).toArray⟩ : ByteArray).size ≤ 1000 := by rw [← len_data]; exact hlen
  have DJ : Hid ((⟨(Lib.join (xs.map (·.data.toList)) (⟨#[]⟩ : ByteArray).data.toList).toArray⟩ : ByteArray).data.toList = joinB xs) := rfl
  have DS := Lib.hid (strB_data (numT f i.f))
  generalize (⟨(Lib.join (xs.map (·.data.toList)) (⟨#[]⟩ : ByteArray).data.toList).toArray⟩ : ByteArray) = J at *
  generalize strB (numT f i.f) = S at *
  generalize xs.length = m at *
  clear hw hcells hlen
  go_enter Tryz.func47, Tryz.ntmps47
  go_wp2_with fail
  refine HN.out.mono ?_
  rintro e w1 ⟨rfl, hb1⟩
  go_wp2_with fail
  refine (HJ.out _ hb1).mono ?_
  rintro e w2 ⟨rfl, hb2⟩
  go_wp2
  go_ret
  exact ⟨ret_str (by rw [str_app, DS.out, DJ.out]), bthen hb1 hb2 hb1.size⟩
end
theorem join1 (a : ByteArray) : joinB [a] = a.data.toList := by unfold joinB; simp [Lib.join]
theorem join3 (a b c : ByteArray) : joinB [a, b, c] = a.data.toList ++ (b.data.toList ++ c.data.toList) := by unfold joinB; simp [Lib.join]
set_option maxRecDepth 20000 in
set_option maxHeartbeats 4000000 in
theorem citem30_any (i : It) (f : Int) (h : i.wf) (w : World) (hw : Pow w) : Calls Tryz.prog 13 #[itV i, .int .i64 f] w (Ret (.string (strB (citT f i))) w) := by
  obtain ⟨hk, hf, ht, hs⟩ := h
  have HI := Lib.hid (fun W (hb : Below w.heap.size w W) => itoaB_any i.s hs W (tab_below hw hb))
  have HT := Lib.hid (fun W (hb : Below w.heap.size w W) => cnumber_any i.t f ht W (tab_below hw hb))
  have H0 := Lib.hid (fun W B2 B3 (hb : Below w.heap.size w W) h2 h3 => cfrom_none (w := W) (B2 := B2) (B3 := B3) (i := i) (f := f) hf h2 h3 (tab_below hw hb))
  have H1 := Lib.hid (fun W B2 B3 (hb : Below w.heap.size w W) h2 h3 bk c xs hc hbk hN hcap hlen => cfrom_some (w := W) (B2 := B2) (B3 := B3) (i := i) (f := f) hf h2 h3 (tab_below hw hb) bk c xs hc hbk hN hcap hlen)
  have zs := itoa_size hs
  have zt : (strB (numT f i.t)).size ≤ 25 := by rw [strB_size]; exact numT_len ht
  have ds := Lib.hid (strB_data (Lib.itoa i.s))
  have dt := Lib.hid (strB_data (numT f i.t))
  have HC : Hid (citT f i = if i.k = 0 then [42] else if i.k = 1 then numT f i.f else if i.k = 2 then numT f i.f ++ [46, 46] ++ numT f i.t ++ (if i.s = 1 then [] else 47 :: Lib.itoa i.s) else if i.k = 3 then numT f i.f ++ 47 :: Lib.itoa i.s else []) := rfl
  generalize citT f i = R at *
  generalize strB (Lib.itoa i.s) = S at *
  generalize strB (numT f i.t) = T at *
  clear hw hk hf ht hs
  by_cases k0 : i.k = 0
  · have HV : Hid (R = [42]) := by show _ = _; rw [HC.out, if_pos k0]
    have k0' : (i.k == 0) = true := by simpa using k0
    clear k0 HC
    go_enter Tryz.func13, Tryz.ntmps13
    go_wp2_with fail
    refine (HI.out _ (((Below.refl _ w).alloc (Nat.le_refl _) _).alloc (by simp) _)).mono ?_
    rintro e w1 ⟨rfl, hb1⟩
    have hbw : Below w.heap.size w w1 := (((Below.refl _ w).alloc (Nat.le_refl _) _).alloc (by simp) _).trans (hb1.mono (by simp; omega))
    have hz1 := hb1.size
    try simp at hz1
    have hzA : w.heap.size < w1.heap.size := by omega
    have hzB : w.heap.size + 1 < w1.heap.size := by omega
    obtain ⟨hc, hf⟩ := bcell hb1
    have b0 : w1.cell? ⟨w.heap.size, 0, none⟩ = some (.int .i64 i.k) := (hc _ _ (by simp; omega)).trans (by simp [go_sem])
    have b1 : w1.cell? ⟨w.heap.size, 1, none⟩ = some (.int .i64 i.f) := (hc _ _ (by simp; omega)).trans (by simp [go_sem])
    have b2 : w1.cell? ⟨w.heap.size, 2, none⟩ = some (.int .i64 i.t) := (hc _ _ (by simp; omega)).trans (by simp [go_sem])
    have b3 : w1.cell? ⟨w.heap.size, 3, none⟩ = some (.int .i64 i.s) := (hc _ _ (by simp; omega)).trans (by simp [go_sem])
    have c0 : w1.cell? ⟨w.heap.size + 1, 0, none⟩ = some (.int .i64 f) := (hc _ _ (by simp)).trans (by simp [go_sem])
    clear hc hf hb1 hz1
    go_wp2
    go_ret
    exact ⟨ret_str (by rw [HV.out]), hbw⟩
  · have k0' : (i.k == 0) = false := by simpa using k0
    by_cases k1 : i.k = 1
    · have HV : Hid (R = numT f i.f) := by show _ = _; rw [HC.out, if_neg k0, if_pos k1]
      have k1' : (i.k == 1) = true := by simpa using k1
      clear k0 k1 HC
      go_enter Tryz.func13, Tryz.ntmps13
      go_wp2_with fail
      refine (HI.out _ (((Below.refl _ w).alloc (Nat.le_refl _) _).alloc (by simp) _)).mono ?_
      rintro e w1 ⟨rfl, hb1⟩
      have hbw : Below w.heap.size w w1 := (((Below.refl _ w).alloc (Nat.le_refl _) _).alloc (by simp) _).trans (hb1.mono (by simp; omega))
      have hz1 := hb1.size
      try simp at hz1
      have hzA : w.heap.size < w1.heap.size := by omega
      have hzB : w.heap.size + 1 < w1.heap.size := by omega
      obtain ⟨hc, hf⟩ := bcell hb1
      have b0 : w1.cell? ⟨w.heap.size, 0, none⟩ = some (.int .i64 i.k) := (hc _ _ (by simp; omega)).trans (by simp [go_sem])
      have b1 : w1.cell? ⟨w.heap.size, 1, none⟩ = some (.int .i64 i.f) := (hc _ _ (by simp; omega)).trans (by simp [go_sem])
      have b2 : w1.cell? ⟨w.heap.size, 2, none⟩ = some (.int .i64 i.t) := (hc _ _ (by simp; omega)).trans (by simp [go_sem])
      have b3 : w1.cell? ⟨w.heap.size, 3, none⟩ = some (.int .i64 i.s) := (hc _ _ (by simp; omega)).trans (by simp [go_sem])
      have c0 : w1.cell? ⟨w.heap.size + 1, 0, none⟩ = some (.int .i64 f) := (hc _ _ (by simp)).trans (by simp [go_sem])
      clear hc hf hb1 hz1
      go_wp2_with fail
      refine (H0.out _ _ _ hbw b1 c0).mono ?_
      rintro e w2 ⟨rfl, hb2⟩
      go_wp2
      go_ret
      exact ⟨ret_str (by rw [HV.out, strB_data]), bthen hbw hb2 hbw.size⟩
    · have k1' : (i.k == 1) = false := by simpa using k1
      by_cases k3 : i.k = 3
      · have HV : Hid (R = numT f i.f ++ 47 :: Lib.itoa i.s) := by show _ = _; rw [HC.out, if_neg k0, if_neg k1, if_neg (by omega), if_pos k3]
        have k3' : (i.k == 3) = true := by simpa using k3
        clear k0 k1 k3 HC
        go_enter Tryz.func13, Tryz.ntmps13
        go_wp2_with fail
        refine (HI.out _ (((Below.refl _ w).alloc (Nat.le_refl _) _).alloc (by simp) _)).mono ?_
        rintro e w1 ⟨rfl, hb1⟩
        have hbw : Below w.heap.size w w1 := (((Below.refl _ w).alloc (Nat.le_refl _) _).alloc (by simp) _).trans (hb1.mono (by simp; omega))
        have hz1 := hb1.size
        try simp at hz1
        have hzA : w.heap.size < w1.heap.size := by omega
        have hzB : w.heap.size + 1 < w1.heap.size := by omega
        obtain ⟨hc, hf⟩ := bcell hb1
        have b0 : w1.cell? ⟨w.heap.size, 0, none⟩ = some (.int .i64 i.k) := (hc _ _ (by simp; omega)).trans (by simp [go_sem])
        have b1 : w1.cell? ⟨w.heap.size, 1, none⟩ = some (.int .i64 i.f) := (hc _ _ (by simp; omega)).trans (by simp [go_sem])
        have b2 : w1.cell? ⟨w.heap.size, 2, none⟩ = some (.int .i64 i.t) := (hc _ _ (by simp; omega)).trans (by simp [go_sem])
        have b3 : w1.cell? ⟨w.heap.size, 3, none⟩ = some (.int .i64 i.s) := (hc _ _ (by simp; omega)).trans (by simp [go_sem])
        have c0 : w1.cell? ⟨w.heap.size + 1, 0, none⟩ = some (.int .i64 f) := (hc _ _ (by simp)).trans (by simp [go_sem])
        clear hc hf hb1 hz1
        go_wp2_with fail
        have hbn := (Below.refl _ w1).alloc (Nat.le_refl _) (.cells #[.string (⟨#[47]⟩ ++ S)] 9)
        have hz47 : (⟨#[47]⟩ ++ S : ByteArray).size = 1 + S.size := by rw [ByteArray.size_append]; rfl
        refine (H1.out _ _ _ (hbw.alloc hbw.size _) ((hbn.cell (p := ⟨_, 1, none⟩) hzA).trans b1) ((hbn.cell (p := ⟨_, 0, none⟩) hzB).trans c0) w1.heap.size 1 [⟨#[47]⟩ ++ S] ?_ (by simp) (by simp) (by simp) (by rw [join1, len_data]; omega)).mono ?_
        · intro j x hx
          rcases j with _ | j
          · obtain rfl : _ = x := by simpa using hx
            exact cell_new rfl rfl
          · simp at hx
        rintro e w2 ⟨rfl, hb2⟩
        go_wp2
        go_ret
        exact ⟨ret_str (by rw [HV.out, strB_data, join1, str_app, ds.out]; rfl), (hbw.alloc hbw.size _).trans (hb2.mono (by simp; omega))⟩
      · have k3' : (i.k == 3) = false := by simpa using k3
        by_cases k2 : i.k = 2
        · have k2' : (i.k == 2) = true := by simpa using k2
          by_cases s1 : i.s = 1
          · have HV : Hid (R = numT f i.f ++ [46, 46] ++ numT f i.t) := by show _ = _; rw [HC.out, if_neg k0, if_neg k1, if_pos k2, if_pos s1, List.append_nil]
            have s1' : (i.s == 1) = true := by simpa using s1
            clear k0 k1 k2 k3 HC s1
            go_enter Tryz.func13, Tryz.ntmps13
            go_wp2_with fail
            refine (HI.out _ (((Below.refl _ w).alloc (Nat.le_refl _) _).alloc (by simp) _)).mono ?_
            rintro e w1 ⟨rfl, hb1⟩
            have hbw : Below w.heap.size w w1 := (((Below.refl _ w).alloc (Nat.le_refl _) _).alloc (by simp) _).trans (hb1.mono (by simp; omega))
            have hz1 := hb1.size
            try simp at hz1
            have hzA : w.heap.size < w1.heap.size := by omega
            have hzB : w.heap.size + 1 < w1.heap.size := by omega
            obtain ⟨hc, hf⟩ := bcell hb1
            have b0 : w1.cell? ⟨w.heap.size, 0, none⟩ = some (.int .i64 i.k) := (hc _ _ (by simp; omega)).trans (by simp [go_sem])
            have b1 : w1.cell? ⟨w.heap.size, 1, none⟩ = some (.int .i64 i.f) := (hc _ _ (by simp; omega)).trans (by simp [go_sem])
            have b2 : w1.cell? ⟨w.heap.size, 2, none⟩ = some (.int .i64 i.t) := (hc _ _ (by simp; omega)).trans (by simp [go_sem])
            have b3 : w1.cell? ⟨w.heap.size, 3, none⟩ = some (.int .i64 i.s) := (hc _ _ (by simp; omega)).trans (by simp [go_sem])
            have c0 : w1.cell? ⟨w.heap.size + 1, 0, none⟩ = some (.int .i64 f) := (hc _ _ (by simp)).trans (by simp [go_sem])
            clear hc hf hb1 hz1
            have hzby : (⟨#[]⟩ : ByteArray).size ≤ 22 := by first | decide | (rw [ByteArray.size_append, show (⟨#[47]⟩ : ByteArray).size = 1 from rfl]; omega)
            go_wp2_with fail
            refine (HT.out _ hbw).mono ?_
            rintro e w2 ⟨rfl, hb2⟩
            have hbw2 := bthen hbw hb2 hbw.size
            have d1 := (hb2.cell (p := ⟨_, 1, none⟩) hzA).trans b1
            have d0 := (hb2.cell (p := ⟨_, 0, none⟩) hzB).trans c0
            have hzA2 : w.heap.size < w2.heap.size := Nat.lt_of_lt_of_le hzA hb2.size
            have hzB2 : w.heap.size + 1 < w2.heap.size := Nat.lt_of_lt_of_le hzB hb2.size
            go_wp2_with fail
            have hbn := (Below.refl _ w2).alloc (Nat.le_refl _) (.cells #[.string ⟨#[46, 46]⟩, .string T, .string (⟨#[]⟩)] 9)
            refine (H1.out _ _ _ (hbw2.alloc hbw2.size _) ((hbn.cell (p := ⟨_, 1, none⟩) hzA2).trans d1) ((hbn.cell (p := ⟨_, 0, none⟩) hzB2).trans d0) w2.heap.size 3 [⟨#[46, 46]⟩, T, ⟨#[]⟩] ?_ (by simp) (by simp) (by simp) (by rw [join3, List.length_append, List.length_append, len_data, len_data, len_data]; have : (⟨#[46, 46]⟩ : ByteArray).size = 2 := rfl; omega)).mono ?_
            · intro j x hx
              rcases j with _ | _ | _ | j
              · obtain rfl : _ = x := by simpa using hx
                exact cell_new rfl rfl
              · obtain rfl : _ = x := by simpa using hx
                exact cell_new rfl rfl
              · obtain rfl : _ = x := by simpa using hx
                exact cell_new rfl rfl
              · simp at hx
            rintro e w3 ⟨rfl, hb3⟩
            have hbq : Below w.heap.size w w3 := (hbw2.alloc hbw2.size _).trans (hb3.mono (by simp; omega))
            go_wp2
            go_ret
            exact ⟨ret_str (by rw [HV.out, strB_data, join3, dt.out, List.append_assoc]; simp), hbq⟩
          · have HV : Hid (R = numT f i.f ++ [46, 46] ++ numT f i.t ++ 47 :: Lib.itoa i.s) := by show _ = _; rw [HC.out, if_neg k0, if_neg k1, if_pos k2, if_neg s1]
            have s1' : (i.s == 1) = false := by simpa using s1
            clear k0 k1 k2 k3 HC s1
            go_enter Tryz.func13, Tryz.ntmps13
            go_wp2_with fail
            refine (HI.out _ (((Below.refl _ w).alloc (Nat.le_refl _) _).alloc (by simp) _)).mono ?_
            rintro e w1 ⟨rfl, hb1⟩
            have hbw : Below w.heap.size w w1 := (((Below.refl _ w).alloc (Nat.le_refl _) _).alloc (by simp) _).trans (hb1.mono (by simp; omega))
            have hz1 := hb1.size
            try simp at hz1
            have hzA : w.heap.size < w1.heap.size := by omega
            have hzB : w.heap.size + 1 < w1.heap.size := by omega
            obtain ⟨hc, hf⟩ := bcell hb1
            have b0 : w1.cell? ⟨w.heap.size, 0, none⟩ = some (.int .i64 i.k) := (hc _ _ (by simp; omega)).trans (by simp [go_sem])
            have b1 : w1.cell? ⟨w.heap.size, 1, none⟩ = some (.int .i64 i.f) := (hc _ _ (by simp; omega)).trans (by simp [go_sem])
            have b2 : w1.cell? ⟨w.heap.size, 2, none⟩ = some (.int .i64 i.t) := (hc _ _ (by simp; omega)).trans (by simp [go_sem])
            have b3 : w1.cell? ⟨w.heap.size, 3, none⟩ = some (.int .i64 i.s) := (hc _ _ (by simp; omega)).trans (by simp [go_sem])
            have c0 : w1.cell? ⟨w.heap.size + 1, 0, none⟩ = some (.int .i64 f) := (hc _ _ (by simp)).trans (by simp [go_sem])
            clear hc hf hb1 hz1
            have hzby : (⟨#[47]⟩ ++ S : ByteArray).size ≤ 22 := by first | decide | (rw [ByteArray.size_append, show (⟨#[47]⟩ : ByteArray).size = 1 from rfl]; omega)
            go_wp2_with fail
            refine (HT.out _ hbw).mono ?_
            rintro e w2 ⟨rfl, hb2⟩
            have hbw2 := bthen hbw hb2 hbw.size
            have d1 := (hb2.cell (p := ⟨_, 1, none⟩) hzA).trans b1
            have d0 := (hb2.cell (p := ⟨_, 0, none⟩) hzB).trans c0
            have hzA2 : w.heap.size < w2.heap.size := Nat.lt_of_lt_of_le hzA hb2.size
            have hzB2 : w.heap.size + 1 < w2.heap.size := Nat.lt_of_lt_of_le hzB hb2.size
            go_wp2_with fail
            have hbn := (Below.refl _ w2).alloc (Nat.le_refl _) (.cells #[.string ⟨#[46, 46]⟩, .string T, .string (⟨#[47]⟩ ++ S)] 9)
            refine (H1.out _ _ _ (hbw2.alloc hbw2.size _) ((hbn.cell (p := ⟨_, 1, none⟩) hzA2).trans d1) ((hbn.cell (p := ⟨_, 0, none⟩) hzB2).trans d0) w2.heap.size 3 [⟨#[46, 46]⟩, T, ⟨#[47]⟩ ++ S] ?_ (by simp) (by simp) (by simp) (by rw [join3, List.length_append, List.length_append, len_data, len_data, len_data]; have : (⟨#[46, 46]⟩ : ByteArray).size = 2 := rfl; omega)).mono ?_
            · intro j x hx
              rcases j with _ | _ | _ | j
              · obtain rfl : _ = x := by simpa using hx
                exact cell_new rfl rfl
              · obtain rfl : _ = x := by simpa using hx
                exact cell_new rfl rfl
              · obtain rfl : _ = x := by simpa using hx
                exact cell_new rfl rfl
              · simp at hx
            rintro e w3 ⟨rfl, hb3⟩
            have hbq : Below w.heap.size w w3 := (hbw2.alloc hbw2.size _).trans (hb3.mono (by simp; omega))
            go_wp2
            go_ret
            exact ⟨ret_str (by rw [HV.out, strB_data, join3, dt.out, str_app, ds.out]; simp), hbq⟩
        · have HV : Hid (R = []) := by show _ = _; rw [HC.out, if_neg k0, if_neg k1, if_neg k2, if_neg k3]
          have k2' : (i.k == 2) = false := by simpa using k2
          clear k0 k1 k2 k3 HC
          go_enter Tryz.func13, Tryz.ntmps13
          go_wp2_with fail
          refine (HI.out _ (((Below.refl _ w).alloc (Nat.le_refl _) _).alloc (by simp) _)).mono ?_
          rintro e w1 ⟨rfl, hb1⟩
          have hbw : Below w.heap.size w w1 := (((Below.refl _ w).alloc (Nat.le_refl _) _).alloc (by simp) _).trans (hb1.mono (by simp; omega))
          have hz1 := hb1.size
          try simp at hz1
          have hzA : w.heap.size < w1.heap.size := by omega
          have hzB : w.heap.size + 1 < w1.heap.size := by omega
          obtain ⟨hc, hf⟩ := bcell hb1
          have b0 : w1.cell? ⟨w.heap.size, 0, none⟩ = some (.int .i64 i.k) := (hc _ _ (by simp; omega)).trans (by simp [go_sem])
          have b1 : w1.cell? ⟨w.heap.size, 1, none⟩ = some (.int .i64 i.f) := (hc _ _ (by simp; omega)).trans (by simp [go_sem])
          have b2 : w1.cell? ⟨w.heap.size, 2, none⟩ = some (.int .i64 i.t) := (hc _ _ (by simp; omega)).trans (by simp [go_sem])
          have b3 : w1.cell? ⟨w.heap.size, 3, none⟩ = some (.int .i64 i.s) := (hc _ _ (by simp; omega)).trans (by simp [go_sem])
          have c0 : w1.cell? ⟨w.heap.size + 1, 0, none⟩ = some (.int .i64 f) := (hc _ _ (by simp)).trans (by simp [go_sem])
          clear hc hf hb1 hz1
          go_wp2
          go_ret
          exact ⟨ret_str (by rw [HV.out]), hbw⟩
end Go.Proofs.YtnelecjjbmjhaaaGreatDoor

namespace Go.Proofs.YtnelecjjbmjhaaaGreatDoor
open Go.RowKit
set_option linter.unusedSimpArgs false
set_option linter.unusedVariables false

set_option maxRecDepth 20000 in
set_option maxHeartbeats 4000000 in
theorem ritem30_any (i : It) (f : Int) (h : i.wf) (w : World) : Calls Tryz.prog 14 #[itV i, .int .i64 f] w (Ret (.string (strB (citT f i))) w) := by
  obtain ⟨hk, hf, ht, hs⟩ := h
  have HI := Lib.hid (fun W => num_any i.s hs W)
  have HT := Lib.hid (fun W => rnumber30_any i.t f ht W)
  have HF := Lib.hid (fun W => rnumber30_any i.f f hf W)
  have zs := itoa_size hs
  have zt : (strB (numT f i.t)).size ≤ 25 := by rw [strB_size]; exact numT_len ht
  have zf : (strB (numT f i.f)).size ≤ 25 := by rw [strB_size]; exact numT_len hf
  have ds := Lib.hid (strB_data (Lib.itoa i.s))
  have dt := Lib.hid (strB_data (numT f i.t))
  have df := Lib.hid (strB_data (numT f i.f))
  have HC : Hid (citT f i = if i.k = 0 then [42] else if i.k = 1 then numT f i.f else if i.k = 2 then numT f i.f ++ [46, 46] ++ numT f i.t ++ (if i.s = 1 then [] else 47 :: Lib.itoa i.s) else if i.k = 3 then numT f i.f ++ 47 :: Lib.itoa i.s else []) := rfl
  generalize citT f i = R at *
  generalize strB (Lib.itoa i.s) = S at *
  generalize strB (numT f i.t) = T at *
  generalize strB (numT f i.f) = F at *
  clear hk hf ht hs
  by_cases k0 : i.k = 0
  · have HV : Hid (R = [42]) := by show _ = _; rw [HC.out, if_pos k0]
    have k0' : (i.k == 0) = true := by simpa using k0
    clear k0 HC
    go_enter Tryz.func14, Tryz.ntmps14
    go_wp2
    go_ret
    exact ⟨ret_str (by rw [HV.out]), by (repeat' (first | (with_reducible exact Below.refl _ _) | (with_reducible assumption) | (with_reducible refine below_drewN ?_ _) | (with_reducible refine Below.alloc ?_ ?_ _) | (with_reducible refine Below.drew ?_) | (with_reducible refine Below.setCell ?_ ?_ _) | go_size))⟩
  · have k0' : (i.k == 0) = false := by simpa using k0
    by_cases k1 : i.k = 1
    · have HV : Hid (R = numT f i.f) := by show _ = _; rw [HC.out, if_neg k0, if_pos k1]
      have k1' : (i.k == 1) = true := by simpa using k1
      clear k0 k1 HC
      go_enter Tryz.func14, Tryz.ntmps14
      go_wp2_with fail
      refine (HF.out _).mono ?_
      rintro e w2 ⟨rfl, hb2⟩
      go_wp2
      go_ret
      exact ⟨ret_str (by rw [HV.out, df.out]), ((Below.refl _ w).alloc (Nat.le_refl _) _).trans (hb2.mono (by simp))⟩
    · have k1' : (i.k == 1) = false := by simpa using k1
      by_cases k2 : i.k = 2
      · have k2' : (i.k == 2) = true := by simpa using k2
        by_cases s1 : i.s = 1
        · have HV : Hid (R = numT f i.f ++ [46, 46] ++ numT f i.t) := by show _ = _; rw [HC.out, if_neg k0, if_neg k1, if_pos k2, if_pos s1, List.append_nil]
          have s1' : (i.s != 1) = false := by simpa using s1
          clear k0 k1 k2 HC s1
          go_enter Tryz.func14, Tryz.ntmps14
          go_wp2
          generalize hW : World.alloc w _ = W1
          have hb0 : Below w.heap.size w W1 := by rw [← hW]; exact (Below.refl _ w).alloc (Nat.le_refl _) _
          have c1 : ∀ x : Ext W1, x.W.cell? ⟨w.heap.size, 1, none⟩ = some (.int .i64 i.f) := fun x => x.cell (by subst hW; simp [go_sem])
          have c2 : ∀ x : Ext W1, x.W.cell? ⟨w.heap.size, 2, none⟩ = some (.int .i64 i.t) := fun x => x.cell (by subst hW; simp [go_sem])
          have c3 : ∀ x : Ext W1, x.W.cell? ⟨w.heap.size, 3, none⟩ = some (.int .i64 i.s) := fun x => x.cell (by subst hW; simp [go_sem])
          clear hW
          refine wp_region_grew (by kernel_rfl) (by kernel_rfl) ?_
          repeat (first | go_big_quiet_skip | (go_big_quiet_want; go_big_quiet_op; (first | go_big_quiet_on | go_big_quiet_call ((with_reducible first | exact ext_call _ (HF.out _) | exact ext_call _ (HT.out _))))))
          refine wpQuiet_nil ?_
          rintro _ ⟨xw, rfl⟩
          have hbx : Below w.heap.size w xw.W := bthen hb0 xw.h hb0.size
          have d3 := c3 xw
          go_wp2
          go_ret
          exact ⟨ret_str (by rw [HV.out]; simp only [str_app, df.out, dt.out]), hbx⟩
        · have HV : Hid (R = numT f i.f ++ [46, 46] ++ numT f i.t ++ 47 :: Lib.itoa i.s) := by show _ = _; rw [HC.out, if_neg k0, if_neg k1, if_pos k2, if_neg s1]
          have s1' : (i.s != 1) = true := by simpa using s1
          clear k0 k1 k2 HC s1
          go_enter Tryz.func14, Tryz.ntmps14
          go_wp2
          generalize hW : World.alloc w _ = W1
          have hb0 : Below w.heap.size w W1 := by rw [← hW]; exact (Below.refl _ w).alloc (Nat.le_refl _) _
          have c1 : ∀ x : Ext W1, x.W.cell? ⟨w.heap.size, 1, none⟩ = some (.int .i64 i.f) := fun x => x.cell (by subst hW; simp [go_sem])
          have c2 : ∀ x : Ext W1, x.W.cell? ⟨w.heap.size, 2, none⟩ = some (.int .i64 i.t) := fun x => x.cell (by subst hW; simp [go_sem])
          have c3 : ∀ x : Ext W1, x.W.cell? ⟨w.heap.size, 3, none⟩ = some (.int .i64 i.s) := fun x => x.cell (by subst hW; simp [go_sem])
          clear hW
          refine wp_region_grew (by kernel_rfl) (by kernel_rfl) ?_
          repeat (first | go_big_quiet_skip | (go_big_quiet_want; go_big_quiet_op; (first | go_big_quiet_on | go_big_quiet_call ((with_reducible first | exact ext_call _ (HF.out _) | exact ext_call _ (HT.out _))))))
          refine wpQuiet_nil ?_
          rintro _ ⟨xw, rfl⟩
          have hbx : Below w.heap.size w xw.W := bthen hb0 xw.h hb0.size
          have d3 := c3 xw
          go_wp2_with fail
          refine (HI.out _).mono ?_
          rintro e w2 ⟨rfl, hb2⟩
          go_wp2
          go_ret
          exact ⟨ret_str (by rw [HV.out]; simp only [str_app, df.out, dt.out, ds.out]; simp), bthen hbx hb2 hbx.size⟩
      · have k2' : (i.k == 2) = false := by simpa using k2
        by_cases k3 : i.k = 3
        · have HV : Hid (R = numT f i.f ++ 47 :: Lib.itoa i.s) := by show _ = _; rw [HC.out, if_neg k0, if_neg k1, if_neg k2, if_pos k3]
          have k3' : (i.k == 3) = true := by simpa using k3
          clear k0 k1 k2 k3 HC
          go_enter Tryz.func14, Tryz.ntmps14
          go_wp2
          generalize hW : World.alloc w _ = W1
          have hb0 : Below w.heap.size w W1 := by rw [← hW]; exact (Below.refl _ w).alloc (Nat.le_refl _) _
          have c1 : ∀ x : Ext W1, x.W.cell? ⟨w.heap.size, 1, none⟩ = some (.int .i64 i.f) := fun x => x.cell (by subst hW; simp [go_sem])
          have c2 : ∀ x : Ext W1, x.W.cell? ⟨w.heap.size, 2, none⟩ = some (.int .i64 i.t) := fun x => x.cell (by subst hW; simp [go_sem])
          have c3 : ∀ x : Ext W1, x.W.cell? ⟨w.heap.size, 3, none⟩ = some (.int .i64 i.s) := fun x => x.cell (by subst hW; simp [go_sem])
          clear hW
          refine wp_region_grew (by kernel_rfl) (by kernel_rfl) ?_
          repeat (first | go_big_quiet_skip | (go_big_quiet_want; go_big_quiet_op; (first | go_big_quiet_on | go_big_quiet_call ((with_reducible first | exact ext_call _ (HF.out _) | exact ext_call _ (HI.out _))))))
          refine wpQuiet_nil ?_
          rintro _ ⟨xw, rfl⟩
          have hbx : Below w.heap.size w xw.W := bthen hb0 xw.h hb0.size
          go_wp2
          go_ret
          exact ⟨ret_str (by rw [HV.out]; simp only [str_app, df.out, ds.out]; simp), hbx⟩
        · have HV : Hid (R = []) := by show _ = _; rw [HC.out, if_neg k0, if_neg k1, if_neg k2, if_neg k3]
          have k3' : (i.k == 3) = false := by simpa using k3
          clear k0 k1 k2 k3 HC
          go_enter Tryz.func14, Tryz.ntmps14
          go_wp2
          go_ret
          exact ⟨ret_str (by rw [HV.out]), by (repeat' (first | (with_reducible exact Below.refl _ _) | (with_reducible assumption) | (with_reducible refine below_drewN ?_ _) | (with_reducible refine Below.alloc ?_ ?_ _) | (with_reducible refine Below.drew ?_) | (with_reducible refine Below.setCell ?_ ?_ _) | go_size))⟩
end Go.Proofs.YtnelecjjbmjhaaaGreatDoor
