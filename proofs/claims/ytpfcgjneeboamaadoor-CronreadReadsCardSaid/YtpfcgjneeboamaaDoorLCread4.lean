/- The law CronreadReads: what is read of any text is the document's line, or the document's error at the document's place. -/
import Derived.Test.YtpfcgjneeboamaaDoorWRef25m
import Derived.Test.YtpfcgjneeboamaaDoorWRef25n
import Derived.Test.YtpfcgjneeboamaaDoorWRef25o
import Derived.Test.YtpfcgjneeboamaaDoorLCread
import Derived.Test.YtpfcgjneeboamaaDoorWSame24
namespace Go.Proofs.YtpfcgjneeboamaaDoor
open Go.RowKit
set_option linter.unusedSimpArgs false
set_option linter.unusedVariables false

theorem rread_any (s : ByteArray) (hs : s.size ≤ 1000000) (w : World) : Calls Tryd.prog 6 #[.string s] w (RetRef s (rLast s) (fun f => (rListR s.size f (rAt s.size (rHead s) f)).2) w) := by
  cases hd : doneP (someP blankP (newP s)).1 with
  | true => exact rread_done s hs w hd
  | false =>
    by_cases h : peekP (someP blankP (newP s)).1 = 64
    · exact rread_nick s hs w hd h
    · exact rread_plain s hs w hd h
/-- What the document's Read hands back, told by what the program's does. -/
def RetRef2 (s : ByteArray) (w : World) (x : Ending) (w' : World) : Prop :=
  Below w.heap.size w w' ∧ ∃ (G : Nat → List It) (B : Nat → Option Addr) (m d : Nat → Nat) (p e : Int), x = .returned (.tuple #[crV B m d, .int .i64 p, .int .i64 e]) ∧ RdLine w' B m G ∧ (∀ k, m k ≤ 64) ∧
    (outR s = .ok ((List.range 5).map G) ∧ p = (s.size : Int) ∧ e = 0 ∨ outR s = .error (p, e) ∧ e ≠ 0 ∧ G = fun _ => [])
theorem rread_line (s : ByteArray) (hs : s.size ≤ 1000000) (w : World) : Calls Tryd.prog 6 #[.string s] w (RetRef2 s w) := by
  refine (rread_any s hs w).mono ?_
  rintro x w' ⟨hb, h⟩
  refine ⟨hb, ?_⟩
  have hsim := rLast_sim s
  rcases outR_inv (s := s) with ⟨X, hX, hO⟩ | ⟨m, c, hE, hO⟩
  · rw [hX] at hsim
    obtain ⟨h1, h2⟩ := hsim
    rcases h with ⟨A, n, c, he, rfl, hown⟩ | ⟨he, _⟩
    · have hO2 : outR s = .ok ((List.range 5).map (fun f => (rListR s.size f (rAt s.size (rHead s) f)).2)) := by rw [hO, h2]
      have hmay := outR_may hO2
      have hlen : ∀ k, k < 5 → ((rListR s.size k (rAt s.size (rHead s) k)).2).length ≤ 64 := fun k hk => (fault_parts (hmay k hk)).2.1
      have hat : atP s.size (rLast s) = (s.size : Int) := by rw [h1]; unfold atP; simp
      obtain ⟨F, hF⟩ : ∃ F : Nat → List It, F = fun f => (rListR s.size f (rAt s.size (rHead s) f)).2 := ⟨_, rfl⟩
      have hlen' : ∀ k, k < 5 → (F k).length ≤ 64 := fun k hk => by rw [hF]; exact hlen k hk
      rw [← hF] at hown hO2
      have hk : ∀ k, k < 5 → n k = (F k).length ∧ RdIts w' (A k) (n k) (F k) := by
        intro k hk
        obtain ⟨A', c', he, h1, h2, h3, _⟩ := Rd.of_own (enc := itEnc) itEnc_len (hown k hk) rfl
        unfold slAt at he
        injection he with e1 e2 e3
        rw [e1, e2]
        exact ⟨rfl, h3⟩
      refine ⟨fun k => if k < 5 then F k else [], fun k => if k < 5 then A k else none, fun k => if k < 5 then n k else 0, c, _, 0, rfl, ?_, ?_, .inl ⟨?_, hat, rfl⟩⟩
      · intro k h5
        dsimp only
        rw [if_pos h5, if_pos h5, if_pos h5]
        exact (hk k h5).2
      · intro k
        dsimp only
        by_cases h5 : k < 5
        · rw [if_pos h5]; have := hk k h5; have := hlen' k h5; omega
        · rw [if_neg h5]; omega
      · rw [hO2]; rfl
    · rw [h1] at he; exact absurd rfl he
  · rw [hE] at hsim
    obtain ⟨h1, h2, h3⟩ := hsim
    rcases h with ⟨A, n, c', he, _⟩ | ⟨he, rfl⟩
    · rw [h1] at he; exact absurd he h2
    · refine ⟨fun _ => [], fun _ => none, fun _ => 0, fun _ => 0, _, _, rfl, rd_nil _, fun _ => Nat.zero_le _, .inr ⟨?_, he, rfl⟩⟩
      rw [hO, h3, h1]
      have hm := ((cRead_good s.data.toList).error hE).1
      rw [len_data] at hm
      dsimp only at hm
      rw [show placeI s m = (s.size : Int) - (m : Int) from by unfold placeI; omega]
set_option maxRecDepth 20000 in
set_option maxHeartbeats 2000000 in
theorem cronreadReads_any (s : ByteArray) (hs : s.size ≤ 9223372036854775807) (w : World) : Calls Tryd.prog 3 #[.string s] w (Ret (.bool true) w) := by
  have HV := Lib.hid (fun W => lives25_any W)
  by_cases hbig : 9000 < s.size
  · have hbig' : (9000 : Int) < (s.size : Int) := by omega
    clear hbig
    go_enter Tryd.func3, Tryd.ntmps3
    go_wp2_with fail
    refine (HV.out _).mono ?_
    rintro e w1 ⟨rfl, hb1⟩
    go_wp2
    go_ret
    exact ⟨rfl, hb1⟩
  · have hbig' : ¬ (9000 : Int) < (s.size : Int) := by omega
    have HR := Lib.hid (fun W => read_line s (by omega) W)
    have HR2 := Lib.hid (fun W => rread_line s (by omega) W)
    clear hbig
    go_enter Tryd.func3, Tryd.ntmps3
    go_wp2_with fail
    refine (HR.out _).mono ?_
    rintro x w1 ⟨hb1, ⟨F, A, n, c, hO, rfl, hrd, hn, hz, hF, hm⟩ | ⟨a, e, hO, he, ha0, ha1, rfl⟩⟩
    · have hz1 := hb1.size
      have HO := Lib.hid hO
      have HRd := Lib.hid hrd
      have HNn : Hid (∀ k, n k ≤ 64) := fun k => (hn k).1
      clear hO hrd hn hz hF hm
      go_wp2_with fail
      refine (HR2.out _).mono ?_
      rintro x w2 ⟨hb2, G, B, m, d, p, e, rfl, hrd2, hm2, ⟨hO2, rfl, rfl⟩ | ⟨hO2, _, _⟩⟩
      · have hbx := (Below.refl w1.heap.size w1).alloc (Nat.le_refl _) (.cells #[.slice (A 0) (n 0) (c 0), .slice (A 1) (n 1) (c 1), .slice (A 2) (n 2) (c 2), .slice (A 3) (n 3) (c 3), .slice (A 4) (n 4) (c 4)] 25)
        have hb12 : Below w1.heap.size w1 w2 := hbx.trans (hb2.mono (by simp))
        have hb3 : Below w.heap.size w w2 := bthen hb1 hb12 hb1.size
        obtain ⟨hq1, hq2⟩ := bcell hb2
        have x0 : w2.cell? ⟨w1.heap.size, 0, none⟩ = some (.slice (A 0) (n 0) (c 0)) := by rw [hq1 _ _ (by simp)]; exact cell_new rfl rfl
        have x1 : w2.cell? ⟨w1.heap.size, 1, none⟩ = some (.slice (A 1) (n 1) (c 1)) := by rw [hq1 _ _ (by simp)]; exact cell_new rfl rfl
        have x2 : w2.cell? ⟨w1.heap.size, 2, none⟩ = some (.slice (A 2) (n 2) (c 2)) := by rw [hq1 _ _ (by simp)]; exact cell_new rfl rfl
        have x3 : w2.cell? ⟨w1.heap.size, 3, none⟩ = some (.slice (A 3) (n 3) (c 3)) := by rw [hq1 _ _ (by simp)]; exact cell_new rfl rfl
        have x4 : w2.cell? ⟨w1.heap.size, 4, none⟩ = some (.slice (A 4) (n 4) (c 4)) := by rw [hq1 _ _ (by simp)]; exact cell_new rfl rfl
        have hz2 : w1.heap.size < w2.heap.size := World.block_lt_of_cell? _ _ x0
        have hsm : sameLine F G = true := by
          have h3 := range5_eq ((Except.ok.inj (HO.out.symm.trans hO2)))
          exact sameLine_yes fun k hk => by rw [h3 k hk]; simp [sameIts]
        have HSm : Hid (∀ W, Below w2.heap.size w2 W → Calls Tryd.prog 7 #[crV A n c, crV B m d] W (Ret (.bool true) W)) := by
          intro W hW
          have := rsame24_any A B n c m d F G W ((HRd.out.below hb12 (Nat.le_refl _)).below hW (Nat.le_refl _)) (hrd2.below hW (Nat.le_refl _)) (fun k => by have := HNn.out k; omega) (fun k => by have := hm2 k; omega)
          rw [hsm] at this
          exact this
        clear hrd2 hm2 hO2 hsm hb12 hbx hq1 hq2 hb2 HO HRd HNn
        go_wp2_with fail
        refine (HSm.out _ (by (repeat' (first | (with_reducible exact Below.refl _ _) | (with_reducible assumption) | (with_reducible refine below_drewN ?_ _) | (with_reducible refine Below.alloc ?_ ?_ _) | (with_reducible refine Below.drew ?_) | (with_reducible refine Below.setCell ?_ ?_ _) | go_size)))).mono ?_
        rintro x w3 ⟨rfl, hb4⟩
        have hb5 : Below w.heap.size w w3 := (hb3.alloc hb3.size _).trans (hb4.mono (by simp; have := hb3.size; omega))
        go_wp2_with fail
        refine (HV.out _).mono ?_
        rintro x w4 ⟨rfl, hb6⟩
        go_wp2
        go_ret
        exact ⟨rfl, bthen hb5 hb6 hb5.size⟩
      · rw [HO.out] at hO2; cases hO2
    · have hz1 := hb1.size
      have HO := Lib.hid hO
      clear hO he ha0 ha1
      obtain ⟨A, hA⟩ : ∃ A : Nat → Option Addr, A = fun _ => none := ⟨_, rfl⟩
      obtain ⟨n, hn⟩ : ∃ n : Nat → Nat, n = fun _ => 0 := ⟨_, rfl⟩
      obtain ⟨c, hc⟩ : ∃ c : Nat → Nat, c = fun _ => 0 := ⟨_, rfl⟩
      rw [← hA, show crV A (fun _ => 0) (fun _ => 0) = crV A n c from by rw [hn, hc]]
      have HNil : Hid (∀ W, RdLine W A n (fun _ => []) ∧ ∀ k, n k ≤ 64) := fun W => by rw [hA, hn]; exact ⟨rd_nil W, fun _ => Nat.zero_le _⟩
      clear hA hn hc
      go_wp2_with fail
      refine (HR2.out _).mono ?_
      rintro x w2 ⟨hb2, G, B, m, d, p, e2, rfl, hrd2, hm2, ⟨hO2, _, _⟩ | ⟨hO2, _, rfl⟩⟩
      · rw [HO.out] at hO2; cases hO2
      · obtain ⟨rfl, rfl⟩ : a = p ∧ e = e2 := by
          have := HO.out.symm.trans hO2
          injection this with h
          injection h with h1 h2
          exact ⟨h1, h2⟩
        have hbx := (Below.refl w1.heap.size w1).alloc (Nat.le_refl _) (.cells #[.slice (A 0) (n 0) (c 0), .slice (A 1) (n 1) (c 1), .slice (A 2) (n 2) (c 2), .slice (A 3) (n 3) (c 3), .slice (A 4) (n 4) (c 4)] 25)
        have hb12 : Below w1.heap.size w1 w2 := hbx.trans (hb2.mono (by simp))
        have hb3 : Below w.heap.size w w2 := bthen hb1 hb12 hb1.size
        obtain ⟨hq1, hq2⟩ := bcell hb2
        have x0 : w2.cell? ⟨w1.heap.size, 0, none⟩ = some (.slice (A 0) (n 0) (c 0)) := by rw [hq1 _ _ (by simp)]; exact cell_new rfl rfl
        have x1 : w2.cell? ⟨w1.heap.size, 1, none⟩ = some (.slice (A 1) (n 1) (c 1)) := by rw [hq1 _ _ (by simp)]; exact cell_new rfl rfl
        have x2 : w2.cell? ⟨w1.heap.size, 2, none⟩ = some (.slice (A 2) (n 2) (c 2)) := by rw [hq1 _ _ (by simp)]; exact cell_new rfl rfl
        have x3 : w2.cell? ⟨w1.heap.size, 3, none⟩ = some (.slice (A 3) (n 3) (c 3)) := by rw [hq1 _ _ (by simp)]; exact cell_new rfl rfl
        have x4 : w2.cell? ⟨w1.heap.size, 4, none⟩ = some (.slice (A 4) (n 4) (c 4)) := by rw [hq1 _ _ (by simp)]; exact cell_new rfl rfl
        have hz2 : w1.heap.size < w2.heap.size := World.block_lt_of_cell? _ _ x0
        have HSm : Hid (∀ W, Below w2.heap.size w2 W → Calls Tryd.prog 7 #[crV A n c, crV B m d] W (Ret (.bool true) W)) := by
          intro W hW
          have := rsame24_any A B n c m d (fun _ => []) (fun _ => []) W (HNil.out W).1 (hrd2.below hW (Nat.le_refl _)) (fun k => by have := (HNil.out W).2 k; omega) (fun k => by have := hm2 k; omega)
          rw [sameLine_self] at this
          exact this
        clear hrd2 hm2 hO2 hb12 hbx hq1 hq2 hb2 HO HNil
        go_wp2_with fail
        refine (HSm.out _ (by (repeat' (first | (with_reducible exact Below.refl _ _) | (with_reducible assumption) | (with_reducible refine below_drewN ?_ _) | (with_reducible refine Below.alloc ?_ ?_ _) | (with_reducible refine Below.drew ?_) | (with_reducible refine Below.setCell ?_ ?_ _) | go_size)))).mono ?_
        rintro x w3 ⟨rfl, hb4⟩
        have hb5 : Below w.heap.size w w3 := (hb3.alloc hb3.size _).trans (hb4.mono (by simp; have := hb3.size; omega))
        go_wp2_with fail
        refine (HV.out _).mono ?_
        rintro x w4 ⟨rfl, hb6⟩
        go_wp2
        go_ret
        exact ⟨rfl, bthen hb5 hb6 hb5.size⟩
end Go.Proofs.YtpfcgjneeboamaaDoor
