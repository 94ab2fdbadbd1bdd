/- The walks of the references of rules: Check. -/
import Derived.Test.YtnelecjjbmjhaaaDoorWRfE
namespace Go.Proofs.YtnelecjjbmjhaaaDoor
open Go.RowKit
set_option linter.unusedSimpArgs false
set_option linter.unusedVariables false

theorem unT_in {u : Int} : unT u = [] ↔ u < 0 ∨ 6 < u := by rw [unT_ne]; omega
def fltV (r : RuV) (j : Nat) : Value := .int .i64 (faultR r (j + 1))
section
variable {r : RuV} {A : Nat → Option Addr} {n c : Nat → Nat} {w : World} (hA : RdRu w A n r) (hn : ∀ k, n k ≤ 1000000)
include hA hn
set_option maxRecDepth 20000 in
set_option maxHeartbeats 8000000 in
theorem check32_any : Calls Tryd.prog 15 #[ruV r A n c] w (Ret (.int .i64 (chkR r)) w) := by
  have HI := Lib.hid (fun t W => in08_any t W)
  have HHe : Hid (headE r ≠ 0 → chkR r = headE r) := fun h => chkR_at (k := 0) (by decide) (fun j hj => absurd hj (Nat.not_lt_zero _)) h
  have HCat := Lib.hid (fun (h0 : headE r = 0) (k : Nat) (hk : k < 6) (H : ∀ j, j < k → faultR r (j + 1) = 0) (h : faultR r (k + 1) ≠ 0) => chkR_at (r := r) (k := k + 1) (by omega) (fun j hj => by
    cases j with
    | zero => exact h0
    | succ j => exact H j (by omega)) h)
  have HCall := Lib.hid (fun (h0 : headE r = 0) (H : ∀ j, j < 6 → faultR r (j + 1) = 0) => chkR_all (r := r) (fun j hj => by
    cases j with
    | zero => exact h0
    | succ j => exact H j (by omega)))
  have HV : Hid (headE r = if inC r.st = false ∨ unT r.fr = [] ∨ r.iv < 1 ∨ 1000000000000000 < r.iv ∨ r.ct < 0 ∨ 1000000000000000 < r.ct then 4 else if r.un ≠ -1 ∧ inC r.un = false then 4 else if r.un ≠ -1 ∧ 0 < r.ct then 12 else 0) := rfl
  have F1 := Lib.hid (fun W (hb : Below w.heap.size w W) => (list32_any (A 5) (n 5) (c 5) r.mo 1 12 W (hA.mo.below hb (Nat.le_refl _)) (by have := hn 5; omega)).mono (fun _ _ h => RetQ.toB h))
  have F2 := Lib.hid (fun W (hb : Below w.heap.size w W) => days32_any (c := c) (hA.below hb) hn)
  have F3 := Lib.hid (fun (hf : 0 ≤ r.fr ∧ r.fr ≤ 6) W (hb : Below w.heap.size w W) => weeks32_any (c := c) (hA.below hb) hn hf)
  have F4 := Lib.hid (fun W (hb : Below w.heap.size w W) => (list32_any (A 8) (n 8) (c 8) r.ho 0 23 W (hA.ho.below hb (Nat.le_refl _)) (by have := hn 8; omega)).mono (fun _ _ h => RetQ.toB h))
  have F5 := Lib.hid (fun W (hb : Below w.heap.size w W) => (list32_any (A 9) (n 9) (c 9) r.mi 0 59 W (hA.mi.below hb (Nat.le_refl _)) (by have := hn 9; omega)).mono (fun _ _ h => RetQ.toB h))
  have F6 := Lib.hid (fun W (hb : Below w.heap.size w W) => (list32_any (A 10) (n 10) (c 10) r.se 0 59 W (hA.se.below hb (Nat.le_refl _)) (by have := hn 10; omega)).mono (fun _ _ h => RetQ.toB h))
  have HE := Lib.hid (ruAt_new w r A n c 36)
  have HIs := Lib.hid (fun W => HI.out r.st W)
  have HIu := Lib.hid (fun W => HI.out r.un W)
  have HU : Hid (unT r.fr = [] ↔ r.fr < 0 ∨ 6 < r.fr) := unT_in
  have E1 : faultR r 1 = listE r.mo 1 12 := rfl
  have E2 : faultR r 2 = daysE r := rfl
  have E3 : faultR r 3 = weeksE r := rfl
  have E4 : faultR r 4 = listE r.ho 0 23 := rfl
  have E5 : faultR r 5 = listE r.mi 0 59 := rfl
  have E6 : faultR r 6 = listE r.se 0 59 := rfl
  rw [← E1] at F1
  rw [← E2] at F2
  rw [← E3] at F3
  rw [← E4] at F4
  rw [← E5] at F5
  rw [← E6] at F6
  clear HI hA hn E1 E2 E3 E4 E5 E6
  generalize chkR r = R at *
  generalize hq : headE r = Hd at *
  clear hq
  generalize inC r.st = is at *
  generalize inC r.un = iu at *
  unfold ruV at *
  by_cases hbad : is = false ∨ (r.fr < 0 ∨ 6 < r.fr) ∨ r.iv < 1 ∨ 1000000000000000 < r.iv ∨ r.ct < 0 ∨ 1000000000000000 < r.ct
  · have HR : Hid (R = 4) := by
      have h4 : Hd = 4 := by
        rw [HV.out, if_pos]
        rcases hbad with h | h | h
        · exact .inl h
        · exact .inr (.inl (HU.out.2 h))
        · exact .inr (.inr h)
      show _ = _
      rw [HHe.out (by omega), h4]
    clear HV HU HHe HCat HCall F1 F2 F3 F4 F5 F6 HIu
    cases is with
    | false => go_enter Tryd.func15, Tryd.ntmps15
               go_wp2_with fail
               refine (HIs.out _).mono ?_
               rintro e w1 ⟨rfl, rfl⟩
               go_wp2
               go_ret
               exact ⟨ret_int HR.out.symm, by (repeat' (first | (with_reducible exact Below.refl _ _) | (with_reducible assumption) | (with_reducible refine below_drewN ?_ _) | (with_reducible refine Below.alloc ?_ ?_ _) | (with_reducible refine Below.drew ?_) | (with_reducible refine Below.setCell ?_ ?_ _) | go_size))⟩
    | true =>
      by_cases g1 : r.fr < 0
      · clear hbad
        go_enter Tryd.func15, Tryd.ntmps15
        go_wp2_with fail
        refine (HIs.out _).mono ?_
        rintro e w1 ⟨rfl, rfl⟩
        go_wp2
        go_ret
        exact ⟨ret_int HR.out.symm, by (repeat' (first | (with_reducible exact Below.refl _ _) | (with_reducible assumption) | (with_reducible refine below_drewN ?_ _) | (with_reducible refine Below.alloc ?_ ?_ _) | (with_reducible refine Below.drew ?_) | (with_reducible refine Below.setCell ?_ ?_ _) | go_size))⟩
      · by_cases g2 : 6 < r.fr
        · clear hbad
          go_enter Tryd.func15, Tryd.ntmps15
          go_wp2_with fail
          refine (HIs.out _).mono ?_
          rintro e w1 ⟨rfl, rfl⟩
          go_wp2
          go_ret
          exact ⟨ret_int HR.out.symm, by (repeat' (first | (with_reducible exact Below.refl _ _) | (with_reducible assumption) | (with_reducible refine below_drewN ?_ _) | (with_reducible refine Below.alloc ?_ ?_ _) | (with_reducible refine Below.drew ?_) | (with_reducible refine Below.setCell ?_ ?_ _) | go_size))⟩
        · by_cases g3 : r.iv < 1
          · clear hbad
            go_enter Tryd.func15, Tryd.ntmps15
            go_wp2_with fail
            refine (HIs.out _).mono ?_
            rintro e w1 ⟨rfl, rfl⟩
            go_wp2
            go_ret
            exact ⟨ret_int HR.out.symm, by (repeat' (first | (with_reducible exact Below.refl _ _) | (with_reducible assumption) | (with_reducible refine below_drewN ?_ _) | (with_reducible refine Below.alloc ?_ ?_ _) | (with_reducible refine Below.drew ?_) | (with_reducible refine Below.setCell ?_ ?_ _) | go_size))⟩
          · by_cases g4 : 1000000000000000 < r.iv
            · clear hbad
              go_enter Tryd.func15, Tryd.ntmps15
              go_wp2_with fail
              refine (HIs.out _).mono ?_
              rintro e w1 ⟨rfl, rfl⟩
              go_wp2
              go_ret
              exact ⟨ret_int HR.out.symm, by (repeat' (first | (with_reducible exact Below.refl _ _) | (with_reducible assumption) | (with_reducible refine below_drewN ?_ _) | (with_reducible refine Below.alloc ?_ ?_ _) | (with_reducible refine Below.drew ?_) | (with_reducible refine Below.setCell ?_ ?_ _) | go_size))⟩
            · by_cases g5 : r.ct < 0
              · clear hbad
                go_enter Tryd.func15, Tryd.ntmps15
                go_wp2_with fail
                refine (HIs.out _).mono ?_
                rintro e w1 ⟨rfl, rfl⟩
                go_wp2
                go_ret
                exact ⟨ret_int HR.out.symm, by (repeat' (first | (with_reducible exact Below.refl _ _) | (with_reducible assumption) | (with_reducible refine below_drewN ?_ _) | (with_reducible refine Below.alloc ?_ ?_ _) | (with_reducible refine Below.drew ?_) | (with_reducible refine Below.setCell ?_ ?_ _) | go_size))⟩
              · have g6 : 1000000000000000 < r.ct := by
                  rcases hbad with h | h | h
                  · cases h
                  · omega
                  · omega
                clear hbad
                go_enter Tryd.func15, Tryd.ntmps15
                go_wp2_with fail
                refine (HIs.out _).mono ?_
                rintro e w1 ⟨rfl, rfl⟩
                go_wp2
                go_ret
                exact ⟨ret_int HR.out.symm, by (repeat' (first | (with_reducible exact Below.refl _ _) | (with_reducible assumption) | (with_reducible refine below_drewN ?_ _) | (with_reducible refine Below.alloc ?_ ?_ _) | (with_reducible refine Below.drew ?_) | (with_reducible refine Below.setCell ?_ ?_ _) | go_size))⟩
  · obtain ⟨h1, h2, h3, h4, h5, h6⟩ : is ≠ false ∧ ¬ (r.fr < 0 ∨ 6 < r.fr) ∧ ¬ r.iv < 1 ∧ ¬ 1000000000000000 < r.iv ∧ ¬ r.ct < 0 ∧ ¬ 1000000000000000 < r.ct := by
      refine ⟨fun h => hbad (.inl h), fun h => hbad (.inr (.inl h)), fun h => hbad (.inr (.inr (.inl h))), fun h => hbad (.inr (.inr (.inr (.inl h)))), fun h => hbad (.inr (.inr (.inr (.inr (.inl h))))), fun h => hbad (.inr (.inr (.inr (.inr (.inr h)))))⟩
    have HV2 := HV.out
    rw [if_neg (by
      rintro (h | h | h)
      · exact h1 h
      · exact h2 (HU.out.1 h)
      · omega)] at HV2
    replace HV2 := Lib.hid HV2
    obtain rfl : is = true := by simpa using h1
    have g1 : ¬ r.fr < 0 := by omega
    have g2 : ¬ 6 < r.fr := by omega
    have F3' := Lib.hid (F3.out ⟨by omega, by omega⟩)
    clear HV HU hbad h1 h2 F3
    by_cases hun : r.un = -1
    · have hun' : (r.un != -1) = false := by simpa using hun
      have h0 : Hd = 0 := by rw [HV2.out, if_neg (fun h => h.1 hun), if_neg (fun h => h.1 hun)]
      subst h0
      have HC1 := Lib.hid (HCat.out rfl)
      have HC2 := Lib.hid (HCall.out rfl)
      clear HV2 HHe hun HCat HCall HIu
      go_enter Tryd.func15, Tryd.ntmps15
      go_wp2_with fail
      refine (HIs.out _).mono ?_
      rintro e w1 ⟨rfl, rfl⟩
      go_wp2_with fail
      generalize hW : World.alloc w _ = wr
      have hbW : Below w.heap.size w wr := by rw [← hW]; exact (Below.refl _ w).alloc (Nat.le_refl _) _
      have HEw : Hid (RuAt wr w.heap.size r A n c) := by rw [← hW]; exact HE.out
      clear hW HE HIs
      have HS : Hid (∀ w', Below wr.heap.size wr w' → Below wr.heap.size wr w' ∧ w'.cell? ⟨w.heap.size, 0, none⟩ = some (.int .i64 r.st) ∧ w'.cell? ⟨w.heap.size, 1, none⟩ = some (.int .i64 r.fr) ∧ w'.cell? ⟨w.heap.size, 2, none⟩ = some (.int .i64 r.iv) ∧ w'.cell? ⟨w.heap.size, 3, none⟩ = some (.int .i64 r.ct) ∧ w'.cell? ⟨w.heap.size, 4, none⟩ = some (.int .i64 r.un) ∧ w'.cell? ⟨w.heap.size, 5, none⟩ = some (.slice (A 5) (n 5) (c 5)) ∧ w'.cell? ⟨w.heap.size, 6, none⟩ = some (.slice (A 6) (n 6) (c 6)) ∧ w'.cell? ⟨w.heap.size, 7, none⟩ = some (.slice (A 7) (n 7) (c 7)) ∧ w'.cell? ⟨w.heap.size, 8, none⟩ = some (.slice (A 8) (n 8) (c 8)) ∧ w'.cell? ⟨w.heap.size, 9, none⟩ = some (.slice (A 9) (n 9) (c 9)) ∧ w'.cell? ⟨w.heap.size, 10, none⟩ = some (.slice (A 10) (n 10) (c 10))) := by
        intro w' hW
        obtain ⟨x0, x1, x2, x3, x4, x5, x6, x7, x8, x9, x10⟩ := HEw.out.below hW
        exact ⟨hW, x0, x1, x2, x3, x4, x5, x6, x7, x8, x9, x10⟩
      have HWw : Hid (∀ w', Below wr.heap.size wr w' → Below w.heap.size w w') := fun w' hW => bthen hbW hW hbW.size
      obtain ⟨y0, y1, y2, y3, y4, y5, y6, y7, y8, y9, y10⟩ := HEw.out
      go_region_held3 (fun w' => Below wr.heap.size wr w' ∧ w'.cell? ⟨w.heap.size, 0, none⟩ = some (.int .i64 r.st) ∧ w'.cell? ⟨w.heap.size, 1, none⟩ = some (.int .i64 r.fr) ∧ w'.cell? ⟨w.heap.size, 2, none⟩ = some (.int .i64 r.iv) ∧ w'.cell? ⟨w.heap.size, 3, none⟩ = some (.int .i64 r.ct) ∧ w'.cell? ⟨w.heap.size, 4, none⟩ = some (.int .i64 r.un) ∧ w'.cell? ⟨w.heap.size, 5, none⟩ = some (.slice (A 5) (n 5) (c 5)) ∧ w'.cell? ⟨w.heap.size, 6, none⟩ = some (.slice (A 6) (n 6) (c 6)) ∧ w'.cell? ⟨w.heap.size, 7, none⟩ = some (.slice (A 7) (n 7) (c 7)) ∧ w'.cell? ⟨w.heap.size, 8, none⟩ = some (.slice (A 8) (n 8) (c 8)) ∧ w'.cell? ⟨w.heap.size, 9, none⟩ = some (.slice (A 9) (n 9) (c 9)) ∧ w'.cell? ⟨w.heap.size, 10, none⟩ = some (.slice (A 10) (n 10) (c 10)))
        (first | (go_split_ands; refine HS.out _ (bthen ?_ hb1 ?_); assumption; exact Below.size (by assumption)) | (go_split_ands; refine HS.out _ (Below.alloc ?_ ?_ _); assumption; exact Below.size (by assumption)) | (refine HS.out _ ?_; exact Below.drew (Below.refl _ _)) | (refine HS.out _ ?_; exact below_drewN (Below.refl _ _) _))
        (first | (go_at_call 46; (with_reducible refine (F1.out _ ?_).mono ?_); (focus (go_split_ands; exact HWw.out _ (by assumption))); rintro e w1 ⟨rfl, hb1⟩) | (go_at_call 46; (with_reducible refine (F4.out _ ?_).mono ?_); (focus (go_split_ands; exact HWw.out _ (by assumption))); rintro e w1 ⟨rfl, hb1⟩) | (go_at_call 46; (with_reducible refine (F5.out _ ?_).mono ?_); (focus (go_split_ands; exact HWw.out _ (by assumption))); rintro e w1 ⟨rfl, hb1⟩) | (go_at_call 46; (with_reducible refine (F6.out _ ?_).mono ?_); (focus (go_split_ands; exact HWw.out _ (by assumption))); rintro e w1 ⟨rfl, hb1⟩) | (go_at_call 47; (with_reducible refine (F2.out _ ?_).mono ?_); (focus (go_split_ands; exact HWw.out _ (by assumption))); rintro e w1 ⟨rfl, hb1⟩) | (go_at_call 48; (with_reducible refine (F3'.out _ ?_).mono ?_); (focus (go_split_ands; exact HWw.out _ (by assumption))); rintro e w1 ⟨rfl, hb1⟩))
      have hbf : Below wr.heap.size wr (w1.alloc (.cells #[.int .i64 (faultR r 1), .int .i64 (faultR r 2), .int .i64 (faultR r 3), .int .i64 (faultR r 4), .int .i64 (faultR r 5), .int .i64 (faultR r 6)] 3)) := by go_split_ands; assumption
      have HArr : Hid (Arr (w1.alloc (.cells #[.int .i64 (faultR r 1), .int .i64 (faultR r 2), .int .i64 (faultR r 3), .int .i64 (faultR r 4), .int .i64 (faultR r 5), .int .i64 (faultR r 6)] 3)) w1.heap.size 6 (fltV r)) := arr_new w1 #[.int .i64 (faultR r 1), .int .i64 (faultR r 2), .int .i64 (faultR r 3), .int .i64 (faultR r 4), .int .i64 (faultR r 5), .int .i64 (faultR r 6)] 3 (fltV r) (by
        intro j hj
        obtain rfl | rfl | rfl | rfl | rfl | rfl : j = 0 ∨ j = 1 ∨ j = 2 ∨ j = 3 ∨ j = 4 ∨ j = 5 := by simp at hj; omega
        all_goals rfl)
      have hbG : Below w.heap.size w (w1.alloc (.cells #[.int .i64 (faultR r 1), .int .i64 (faultR r 2), .int .i64 (faultR r 3), .int .i64 (faultR r 4), .int .i64 (faultR r 5), .int .i64 (faultR r 6)] 3)) := bthen hbW hbf hbW.size
      clear HS HWw HEw y0 y1 y2 y3 y4 y5 y6 y7 y8 y9 y10 hbf F1 F2 F3' F4 F5 F6
      go_wp2
      go_loop [4] (fun i => ∃ k : Nat, k ≤ 6 ∧ i = .int .i64 k ∧ Hid (∀ j, j < k → faultR r (j + 1) = 0)) (fun i => 6 - (intOf i).toNat)
      case atStart => exact ⟨0, Nat.zero_le _, rfl, fun j h => absurd h (Nat.not_lt_zero _)⟩
      case round =>
        obtain ⟨k, hk, rfl, H⟩ := hrel
        by_cases hlt : k < 6
        · have hlt' : (k : Int) < 6 := by omega
          have hx := HArr.out.1 k hlt
          unfold fltV at hx
          by_cases hz : faultR r (k + 1) = 0
          · have HZ := Lib.hid hz
            rw [hz] at hx
            clear hz
            go_wp2
            go_round
            case rel => exact ⟨k + 1, by omega, by go_num, upto_succ H.out HZ.out⟩
            case measure => simp [intOf]; omega
          · have HR : Hid (R = faultR r (k + 1)) := HC1.out k hlt H.out hz
            have hz' : (faultR r (k + 1) != 0) = true := by simpa using hz
            clear hz
            generalize faultR r (k + 1) = q at *
            go_wp2
            go_ret
            exact ⟨ret_int HR.out.symm, hbG⟩
        · obtain rfl : k = 6 := by omega
          have HR : Hid (R = 0) := HC2.out H.out
          go_wp2
          go_ret
          exact ⟨ret_int HR.out.symm, hbG⟩
    · have hun' : (r.un != -1) = true := by simpa using hun
      cases iu with
      | false =>
        have HR : Hid (R = 4) := by
          have h4 : Hd = 4 := by rw [HV2.out, if_pos ⟨hun, rfl⟩]
          show _ = _
          rw [HHe.out (by omega), h4]
        clear HV2 HHe hun HCat HCall F1 F2 F3' F4 F5 F6
        go_enter Tryd.func15, Tryd.ntmps15
        go_wp2_with fail
        refine (HIs.out _).mono ?_
        rintro e w1 ⟨rfl, rfl⟩
        go_wp2_with fail
        refine (HIu.out _).mono ?_
        rintro e w1 ⟨rfl, rfl⟩
        go_wp2
        go_ret
        exact ⟨ret_int HR.out.symm, by (repeat' (first | (with_reducible exact Below.refl _ _) | (with_reducible assumption) | (with_reducible refine below_drewN ?_ _) | (with_reducible refine Below.alloc ?_ ?_ _) | (with_reducible refine Below.drew ?_) | (with_reducible refine Below.setCell ?_ ?_ _) | go_size))⟩
      | true =>
        by_cases hct : 0 < r.ct
        · have HR : Hid (R = 12) := by
            have h4 : Hd = 12 := by rw [HV2.out, if_neg (fun h => by cases h.2), if_pos ⟨hun, hct⟩]
            show _ = _
            rw [HHe.out (by omega), h4]
          clear HV2 HHe hun HCat HCall F1 F2 F3' F4 F5 F6
          go_enter Tryd.func15, Tryd.ntmps15
          go_wp2_with fail
          refine (HIs.out _).mono ?_
          rintro e w1 ⟨rfl, rfl⟩
          go_wp2_with fail
          refine (HIu.out _).mono ?_
          rintro e w1 ⟨rfl, rfl⟩
          go_wp2
          go_ret
          exact ⟨ret_int HR.out.symm, by (repeat' (first | (with_reducible exact Below.refl _ _) | (with_reducible assumption) | (with_reducible refine below_drewN ?_ _) | (with_reducible refine Below.alloc ?_ ?_ _) | (with_reducible refine Below.drew ?_) | (with_reducible refine Below.setCell ?_ ?_ _) | go_size))⟩
        · have h0 : Hd = 0 := by rw [HV2.out, if_neg (fun h => by cases h.2), if_neg (fun h => hct h.2)]
          subst h0
          have HC1 := Lib.hid (HCat.out rfl)
          have HC2 := Lib.hid (HCall.out rfl)
          clear HV2 HHe hun HCat HCall
          go_enter Tryd.func15, Tryd.ntmps15
          go_wp2_with fail
          refine (HIs.out _).mono ?_
          rintro e w1 ⟨rfl, rfl⟩
          go_wp2_with fail
          refine (HIu.out _).mono ?_
          rintro e w1 ⟨rfl, rfl⟩
          go_wp2_with fail
          generalize hW : World.alloc w _ = wr
          have hbW : Below w.heap.size w wr := by rw [← hW]; exact (Below.refl _ w).alloc (Nat.le_refl _) _
          have HEw : Hid (RuAt wr w.heap.size r A n c) := by rw [← hW]; exact HE.out
          clear hW HE HIs
          have HS : Hid (∀ w', Below wr.heap.size wr w' → Below wr.heap.size wr w' ∧ w'.cell? ⟨w.heap.size, 0, none⟩ = some (.int .i64 r.st) ∧ w'.cell? ⟨w.heap.size, 1, none⟩ = some (.int .i64 r.fr) ∧ w'.cell? ⟨w.heap.size, 2, none⟩ = some (.int .i64 r.iv) ∧ w'.cell? ⟨w.heap.size, 3, none⟩ = some (.int .i64 r.ct) ∧ w'.cell? ⟨w.heap.size, 4, none⟩ = some (.int .i64 r.un) ∧ w'.cell? ⟨w.heap.size, 5, none⟩ = some (.slice (A 5) (n 5) (c 5)) ∧ w'.cell? ⟨w.heap.size, 6, none⟩ = some (.slice (A 6) (n 6) (c 6)) ∧ w'.cell? ⟨w.heap.size, 7, none⟩ = some (.slice (A 7) (n 7) (c 7)) ∧ w'.cell? ⟨w.heap.size, 8, none⟩ = some (.slice (A 8) (n 8) (c 8)) ∧ w'.cell? ⟨w.heap.size, 9, none⟩ = some (.slice (A 9) (n 9) (c 9)) ∧ w'.cell? ⟨w.heap.size, 10, none⟩ = some (.slice (A 10) (n 10) (c 10))) := by
            intro w' hW
            obtain ⟨x0, x1, x2, x3, x4, x5, x6, x7, x8, x9, x10⟩ := HEw.out.below hW
            exact ⟨hW, x0, x1, x2, x3, x4, x5, x6, x7, x8, x9, x10⟩
          have HWw : Hid (∀ w', Below wr.heap.size wr w' → Below w.heap.size w w') := fun w' hW => bthen hbW hW hbW.size
          obtain ⟨y0, y1, y2, y3, y4, y5, y6, y7, y8, y9, y10⟩ := HEw.out
          go_region_held3 (fun w' => Below wr.heap.size wr w' ∧ w'.cell? ⟨w.heap.size, 0, none⟩ = some (.int .i64 r.st) ∧ w'.cell? ⟨w.heap.size, 1, none⟩ = some (.int .i64 r.fr) ∧ w'.cell? ⟨w.heap.size, 2, none⟩ = some (.int .i64 r.iv) ∧ w'.cell? ⟨w.heap.size, 3, none⟩ = some (.int .i64 r.ct) ∧ w'.cell? ⟨w.heap.size, 4, none⟩ = some (.int .i64 r.un) ∧ w'.cell? ⟨w.heap.size, 5, none⟩ = some (.slice (A 5) (n 5) (c 5)) ∧ w'.cell? ⟨w.heap.size, 6, none⟩ = some (.slice (A 6) (n 6) (c 6)) ∧ w'.cell? ⟨w.heap.size, 7, none⟩ = some (.slice (A 7) (n 7) (c 7)) ∧ w'.cell? ⟨w.heap.size, 8, none⟩ = some (.slice (A 8) (n 8) (c 8)) ∧ w'.cell? ⟨w.heap.size, 9, none⟩ = some (.slice (A 9) (n 9) (c 9)) ∧ w'.cell? ⟨w.heap.size, 10, none⟩ = some (.slice (A 10) (n 10) (c 10)))
            (first | (go_split_ands; refine HS.out _ (bthen ?_ hb1 ?_); assumption; exact Below.size (by assumption)) | (go_split_ands; refine HS.out _ (Below.alloc ?_ ?_ _); assumption; exact Below.size (by assumption)) | (refine HS.out _ ?_; exact Below.drew (Below.refl _ _)) | (refine HS.out _ ?_; exact below_drewN (Below.refl _ _) _))
            (first | (go_at_call 46; (with_reducible refine (F1.out _ ?_).mono ?_); (focus (go_split_ands; exact HWw.out _ (by assumption))); rintro e w1 ⟨rfl, hb1⟩) | (go_at_call 46; (with_reducible refine (F4.out _ ?_).mono ?_); (focus (go_split_ands; exact HWw.out _ (by assumption))); rintro e w1 ⟨rfl, hb1⟩) | (go_at_call 46; (with_reducible refine (F5.out _ ?_).mono ?_); (focus (go_split_ands; exact HWw.out _ (by assumption))); rintro e w1 ⟨rfl, hb1⟩) | (go_at_call 46; (with_reducible refine (F6.out _ ?_).mono ?_); (focus (go_split_ands; exact HWw.out _ (by assumption))); rintro e w1 ⟨rfl, hb1⟩) | (go_at_call 47; (with_reducible refine (F2.out _ ?_).mono ?_); (focus (go_split_ands; exact HWw.out _ (by assumption))); rintro e w1 ⟨rfl, hb1⟩) | (go_at_call 48; (with_reducible refine (F3'.out _ ?_).mono ?_); (focus (go_split_ands; exact HWw.out _ (by assumption))); rintro e w1 ⟨rfl, hb1⟩))
          have hbf : Below wr.heap.size wr (w1.alloc (.cells #[.int .i64 (faultR r 1), .int .i64 (faultR r 2), .int .i64 (faultR r 3), .int .i64 (faultR r 4), .int .i64 (faultR r 5), .int .i64 (faultR r 6)] 3)) := by go_split_ands; assumption
          have HArr : Hid (Arr (w1.alloc (.cells #[.int .i64 (faultR r 1), .int .i64 (faultR r 2), .int .i64 (faultR r 3), .int .i64 (faultR r 4), .int .i64 (faultR r 5), .int .i64 (faultR r 6)] 3)) w1.heap.size 6 (fltV r)) := arr_new w1 #[.int .i64 (faultR r 1), .int .i64 (faultR r 2), .int .i64 (faultR r 3), .int .i64 (faultR r 4), .int .i64 (faultR r 5), .int .i64 (faultR r 6)] 3 (fltV r) (by
            intro j hj
            obtain rfl | rfl | rfl | rfl | rfl | rfl : j = 0 ∨ j = 1 ∨ j = 2 ∨ j = 3 ∨ j = 4 ∨ j = 5 := by simp at hj; omega
            all_goals rfl)
          have hbG : Below w.heap.size w (w1.alloc (.cells #[.int .i64 (faultR r 1), .int .i64 (faultR r 2), .int .i64 (faultR r 3), .int .i64 (faultR r 4), .int .i64 (faultR r 5), .int .i64 (faultR r 6)] 3)) := bthen hbW hbf hbW.size
          clear HS HWw HEw y0 y1 y2 y3 y4 y5 y6 y7 y8 y9 y10 hbf F1 F2 F3' F4 F5 F6
          go_wp2
          go_loop [4] (fun i => ∃ k : Nat, k ≤ 6 ∧ i = .int .i64 k ∧ Hid (∀ j, j < k → faultR r (j + 1) = 0)) (fun i => 6 - (intOf i).toNat)
          case atStart => exact ⟨0, Nat.zero_le _, rfl, fun j h => absurd h (Nat.not_lt_zero _)⟩
          case round =>
            obtain ⟨k, hk, rfl, H⟩ := hrel
            by_cases hlt : k < 6
            · have hlt' : (k : Int) < 6 := by omega
              have hx := HArr.out.1 k hlt
              unfold fltV at hx
              by_cases hz : faultR r (k + 1) = 0
              · have HZ := Lib.hid hz
                rw [hz] at hx
                clear hz
                go_wp2
                go_round
                case rel => exact ⟨k + 1, by omega, by go_num, upto_succ H.out HZ.out⟩
                case measure => simp [intOf]; omega
              · have HR : Hid (R = faultR r (k + 1)) := HC1.out k hlt H.out hz
                have hz' : (faultR r (k + 1) != 0) = true := by simpa using hz
                clear hz
                generalize faultR r (k + 1) = q at *
                go_wp2
                go_ret
                exact ⟨ret_int HR.out.symm, hbG⟩
            · obtain rfl : k = 6 := by omega
              have HR : Hid (R = 0) := HC2.out H.out
              go_wp2
              go_ret
              exact ⟨ret_int HR.out.symm, hbG⟩
end
end Go.Proofs.YtnelecjjbmjhaaaDoor
