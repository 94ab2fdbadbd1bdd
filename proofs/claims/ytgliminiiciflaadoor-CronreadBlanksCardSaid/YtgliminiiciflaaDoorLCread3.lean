/- The walk of the law CronreadBlanks. -/
import Derived.Test.YtgliminiiciflaaDoorLCread
import Derived.Test.YtgliminiiciflaaDoorRBlank
namespace Go.Proofs.YtgliminiiciflaaDoor
open Go.RowKit
set_option linter.unusedSimpArgs false
set_option linter.unusedVariables false

/-- What Read hands back, whether something is wrong or not. -/
def RetLine2 (s : ByteArray) (w : World) (x : Ending) (w' : World) : Prop :=
  ∃ (F : Nat → List It) (A : Nat → Option Addr) (n c : Nat → Nat) (at' e : Int), x = .returned (.tuple #[crV A n c, .int .i64 at', .int .i64 e]) ∧ Below w.heap.size w w' ∧ RdLine w' A n F ∧ (∀ k, n k ≤ 64) ∧
    (e = 0 ∧ outR s = .ok ((List.range 5).map F) ∨ e ≠ 0 ∧ (∃ a, outR s = .error (a, e)) ∧ F = fun _ => [])
theorem read_line2 (s : ByteArray) (hs : s.size ≤ 1000000) (w : World) : Calls Tryd.prog 20 #[.string s] w (RetLine2 s w) := by
  refine (read_line s hs w).mono ?_
  rintro x w1 ⟨hb1, ⟨F, A, n, c, hO, rfl, hrd, hn, hz, hF, hm⟩ | ⟨a, e, hO, he, ha0, ha1, rfl⟩⟩
  · exact ⟨F, A, n, c, _, 0, rfl, hb1, hrd, fun k => (hn k).1, .inl ⟨rfl, hO⟩⟩
  · exact ⟨fun _ => [], fun _ => none, fun _ => 0, fun _ => 0, a, e, rfl, hb1, rd_nil _, fun _ => Nat.zero_le _, .inr ⟨he, ⟨a, hO⟩, rfl⟩⟩
theorem widen_snoc (k : Nat) (l : List UInt8) (c : UInt8) : widen k (l ++ [c]) = widen k l ++ (if blankP c then c :: List.replicate k 9 else [c]) := by simp [widen]
theorem widen_len (k : Nat) (l : List UInt8) : (widen k l).length ≤ l.length * (k + 1) := by
  induction l with
  | nil => simp [widen]
  | cons c l ih =>
    rw [widen_cons, List.length_append, List.length_cons, Nat.succ_mul]
    split
    · simp only [List.length_cons, List.length_replicate]; omega
    · simp only [List.length_cons, List.length_nil]; omega
/-- Both texts are read alike. -/
theorem wid_same {s t : ByteArray} {a m b : Nat} (hs : s.size ≤ 8192) (ht : t.size ≤ 8192) (h : t.data.toList = List.replicate a 32 ++ (widen m s.data.toList ++ List.replicate b 32)) :
    (∃ x, outR s = .ok x ∧ outR t = .ok x) ∨ ∃ e e', outR s = .error e ∧ outR t = .error e' := by
  have hb : ∀ n, ∀ c ∈ List.replicate n (32 : UInt8), blankP c = true := fun n c hc => by rw [(List.mem_replicate.1 hc).2]; rfl
  have hw := cRead_wid (k := m) (hb b) (List.replicate a 32) s.data.toList (hb a) (by rw [len_data]; exact hs) (by
    show (List.replicate a 32 ++ (widen m s.data.toList ++ List.replicate b 32)).length ≤ 8192
    rw [← h, len_data]; exact ht)
  have e1 : List.replicate a 32 ++ wid m (List.replicate b 32) s.data.toList = t.data.toList := h.symm
  rw [e1] at hw
  rcases hw with ⟨x, h1, h2⟩ | ⟨e, e', h1, h2⟩
  · exact .inl ⟨x, outR_ok h1, outR_ok h2⟩
  · exact .inr ⟨_, _, outR_err h1, outR_err h2⟩
theorem range5_eq {F G : Nat → List It} (h : (List.range 5).map F = (List.range 5).map G) : ∀ k, k < 5 → F k = G k := by
  intro k hk
  have := congrArg (·[k]?) h
  simpa [hk] using this

set_option maxRecDepth 20000 in
set_option maxHeartbeats 4000000 in
theorem blanks_in (s : ByteArray) (m0 m1 m2 : Int) (a m b : Nat) (ha : m0 % 5 = (a : Int)) (hm : m1 % 4 = (m : Int)) (hb : m2 % 5 = (b : Int)) (h0 : 0 ≤ m0 ∧ m0 ≤ 255) (h1 : 0 ≤ m1 ∧ m1 ≤ 255) (h2 : 0 ≤ m2 ∧ m2 ≤ 255) (hsz : s.size ≤ 3000) (w : World) :
    Calls Tryd.prog 7 #[.string s, .agg #[.int .u8 m0, .int .u8 m1, .int .u8 m2]] w (Ret (.bool true) w) := by
  have ha4 : a ≤ 4 := by omega
  have hm3 : m ≤ 3 := by omega
  have hb4 : b ≤ 4 := by omega
  obtain ⟨h00, h01⟩ := h0
  obtain ⟨h10, h11⟩ := h1
  obtain ⟨h20, h21⟩ := h2
  have hbig : ¬ (3000 : Int) < (s.size : Int) := by omega
  have HV := Lib.hid (fun W => lives25_any W)
  have HR := Lib.hid (fun W => read_line2 s (by omega) W)
  have HA := Lib.hid ha
  have HM := Lib.hid hm
  have HB := Lib.hid hb
  clear ha hm hb
  go_enter Tryd.func7, Tryd.ntmps7
  go_wp2_with fail
  refine (HR.out _).mono ?_
  rintro x w1 ⟨F, A, n, c, pl, ec, rfl, hb1, hrd, hn, hst⟩
  have hbW : Below w.heap.size w w1 := ((Below.refl _ w).alloc (Nat.le_refl _) _).trans (hb1.mono (by simp))
  have hz1 : w.heap.size < w1.heap.size := by have := hb1.size; simp at this; omega
  obtain ⟨hq1, hq2⟩ := bcell hb1
  have d0 : w1.cell? ⟨w.heap.size, 0, none⟩ = some (.int .u8 m0) := by rw [hq1 _ _ (by simp)]; simp [go_sem]
  have d1 : w1.cell? ⟨w.heap.size, 1, none⟩ = some (.int .u8 m1) := by rw [hq1 _ _ (by simp)]; simp [go_sem]
  have d2 : w1.cell? ⟨w.heap.size, 2, none⟩ = some (.int .u8 m2) := by rw [hq1 _ _ (by simp)]; simp [go_sem]
  have HRd := Lib.hid hrd
  have HNn := Lib.hid hn
  have HSt := Lib.hid hst
  clear hrd hn hst hq1 hq2 hb1
  go_wp2
  go_loop [8, 9] (fun tv iv => ∃ (T : ByteArray) (k : Nat), tv = .string T ∧ iv = .int .i64 k ∧ k ≤ a ∧ Hid (T.data.toList = List.replicate k 32)) (fun _ iv => a - (intOf iv).toNat)
  case atStart => exact ⟨_, 0, rfl, rfl, Nat.zero_le _, rfl⟩
  case round =>
    obtain ⟨T, k, rfl, rfl, hk, HT⟩ := hrel
    have hzT : T.size ≤ 100 := by rw [← len_data, HT.out, List.length_replicate]; omega
    by_cases hlt : k < a
    · have hlt' : (k : Int) < m0 % 5 := by rw [HA.out]; omega
      go_wp2
      go_round
      case rel => exact ⟨_, k + 1, rfl, by go_num, by omega, by show _ = _; rw [str_app, HT.out, List.replicate_succ']⟩
      case measure => simp [intOf]; omega
    · obtain rfl : k = a := by omega
      have hlt' : ¬ (k : Int) < m0 % 5 := by rw [HA.out]; omega
      have HT0 := HT
      go_wp2
      go_loop [8, 10] (fun tv iv => ∃ (T : ByteArray) (j : Nat), tv = .string T ∧ iv = .int .i64 j ∧ j ≤ s.size ∧ Hid (T.data.toList = List.replicate k 32 ++ widen m (s.data.toList.take j))) (fun _ iv => s.size - (intOf iv).toNat)
      case atStart => exact ⟨_, 0, rfl, rfl, Nat.zero_le _, by show _ = _; rw [HT0.out]; simp [widen]⟩
      case round =>
        clear HT HT0 hzT
        obtain ⟨T, j, rfl, rfl, hj, HT⟩ := hrel
        have hzT : T.size ≤ 20000 := by
          rw [← len_data, HT.out, List.length_append, List.length_replicate]
          have h1 := widen_len m (s.data.toList.take j)
          have h2 : (s.data.toList.take j).length ≤ 3000 := by rw [List.length_take, len_data]; omega
          have h3 : (s.data.toList.take j).length * (m + 1) ≤ 3000 * 4 := Nat.mul_le_mul h2 (by omega)
          omega
        by_cases hlj : j < s.size
        · have hlj' : (j : Int) < (s.size : Int) := by omega
          have hx1 : (s.extract j (j + 1)).size ≤ 1 := by simp; omega
          have HX : Hid ((s.extract j (j + 1)).data.toList = [s[j]]) := by
            show _ = _
            rw [extract_list, show j + 1 - j = 1 from by omega, drop_cons s j hlj]; rfl
          have HW : Hid (s.data.toList.take (j + 1) = s.data.toList.take j ++ [s[j]]) := by
            show _ = _
            rw [List.take_add_one, byte_at s j hlj]; rfl
          obtain ⟨X, hX⟩ : ∃ X, X = s.extract j (j + 1) := ⟨_, rfl⟩
          by_cases hbl : blankP s[j] = true
          · have HBl := Lib.hid hbl
            by_cases h32 : s[j] = 32
            · have e32 : ((s[j].toNat : Int) == 32) = true := by rw [h32]; rfl
              have HN : Hid (widen m (s.data.toList.take (j + 1)) = widen m (s.data.toList.take j) ++ (s[j] :: List.replicate m 9)) := by show _ = _; rw [HW.out, widen_snoc, if_pos hbl]
              clear hbl h32
              obtain ⟨T1, hT1⟩ : ∃ T1 : ByteArray, T1 = T ++ s.extract j (j + 1) := ⟨_, rfl⟩
              have HT1 : Hid (T1.data.toList = List.replicate k 32 ++ (widen m (s.data.toList.take j) ++ [s[j]])) := by show _ = _; rw [hT1, str_app, HX.out, HT.out]; simp
              have hz1 : T1.size ≤ 20001 := by rw [hT1, ByteArray.size_append]; omega
              go_wp2
              rw [← hT1]
              clear hT1
              go_loop [8, 11] (fun tv iv => ∃ (T2 : ByteArray) (q : Nat), tv = .string T2 ∧ iv = .int .i64 q ∧ q ≤ m ∧ Hid (T2.data.toList = List.replicate k 32 ++ (widen m (s.data.toList.take j) ++ (s[j] :: List.replicate q 9)))) (fun _ iv => m - (intOf iv).toNat)
              case atStart => exact ⟨_, 0, rfl, rfl, Nat.zero_le _, by show _ = _; rw [HT1.out]; rfl⟩
              case round =>
                obtain ⟨T2, q, rfl, rfl, hq, HT2⟩ := hrel
                have hz2 : T2.size ≤ 20100 := by
                  have h1 := len_data T1
                  rw [HT1.out] at h1
                  rw [← len_data, HT2.out]
                  simp only [List.length_append, List.length_replicate, List.length_cons, List.length_nil] at h1 ⊢
                  omega
                by_cases hlq : q < m
                · have hlq' : (q : Int) < m1 % 4 := by rw [HM.out]; omega
                  go_wp2
                  go_round
                  case rel => exact ⟨_, q + 1, rfl, by go_num, by omega, by show _ = _; rw [str_app, HT2.out, List.replicate_succ']; simp⟩
                  case measure => simp [intOf]; omega
                · obtain rfl : q = m := by omega
                  have hlq' : ¬ (q : Int) < m1 % 4 := by rw [HM.out]; omega
                  go_wp2
                  go_round
                  case rel => exact ⟨_, j + 1, rfl, by go_num, by omega, by show _ = _; rw [HT2.out, HN.out]⟩
                  case measure => simp [intOf]; omega
            · have e32 : ((s[j].toNat : Int) == 32) = false := by
                rw [beq_eq_false_iff_ne]; intro h; exact h32 (UInt8.toNat_inj.1 (by show s[j].toNat = 32; omega))
              have e9 : ((s[j].toNat : Int) == 9) = true := by
                simp only [blankP, decide_eq_true_eq] at hbl
                rcases hbl with h | h
                · exact absurd h h32
                · rw [h]; rfl
              have HN : Hid (widen m (s.data.toList.take (j + 1)) = widen m (s.data.toList.take j) ++ (s[j] :: List.replicate m 9)) := by show _ = _; rw [HW.out, widen_snoc, if_pos hbl]
              clear hbl h32
              obtain ⟨T1, hT1⟩ : ∃ T1 : ByteArray, T1 = T ++ s.extract j (j + 1) := ⟨_, rfl⟩
              have HT1 : Hid (T1.data.toList = List.replicate k 32 ++ (widen m (s.data.toList.take j) ++ [s[j]])) := by show _ = _; rw [hT1, str_app, HX.out, HT.out]; simp
              have hz1 : T1.size ≤ 20001 := by rw [hT1, ByteArray.size_append]; omega
              go_wp2
              rw [← hT1]
              clear hT1
              go_loop [8, 11] (fun tv iv => ∃ (T2 : ByteArray) (q : Nat), tv = .string T2 ∧ iv = .int .i64 q ∧ q ≤ m ∧ Hid (T2.data.toList = List.replicate k 32 ++ (widen m (s.data.toList.take j) ++ (s[j] :: List.replicate q 9)))) (fun _ iv => m - (intOf iv).toNat)
              case atStart => exact ⟨_, 0, rfl, rfl, Nat.zero_le _, by show _ = _; rw [HT1.out]; rfl⟩
              case round =>
                obtain ⟨T2, q, rfl, rfl, hq, HT2⟩ := hrel
                have hz2 : T2.size ≤ 20100 := by
                  have h1 := len_data T1
                  rw [HT1.out] at h1
                  rw [← len_data, HT2.out]
                  simp only [List.length_append, List.length_replicate, List.length_cons, List.length_nil] at h1 ⊢
                  omega
                by_cases hlq : q < m
                · have hlq' : (q : Int) < m1 % 4 := by rw [HM.out]; omega
                  go_wp2
                  go_round
                  case rel => exact ⟨_, q + 1, rfl, by go_num, by omega, by show _ = _; rw [str_app, HT2.out, List.replicate_succ']; simp⟩
                  case measure => simp [intOf]; omega
                · obtain rfl : q = m := by omega
                  have hlq' : ¬ (q : Int) < m1 % 4 := by rw [HM.out]; omega
                  go_wp2
                  go_round
                  case rel => exact ⟨_, j + 1, rfl, by go_num, by omega, by show _ = _; rw [HT2.out, HN.out]⟩
                  case measure => simp [intOf]; omega
          · have e32 : ((s[j].toNat : Int) == 32) = false := by
              rw [beq_eq_false_iff_ne]; intro h; apply hbl
              rw [show s[j] = 32 from UInt8.toNat_inj.1 (by show s[j].toNat = 32; omega)]; rfl
            have e9 : ((s[j].toNat : Int) == 9) = false := by
              rw [beq_eq_false_iff_ne]; intro h; apply hbl
              rw [show s[j] = 9 from UInt8.toNat_inj.1 (by show s[j].toNat = 9; omega)]; rfl
            have HN : Hid (widen m (s.data.toList.take (j + 1)) = widen m (s.data.toList.take j) ++ [s[j]]) := by show _ = _; rw [HW.out, widen_snoc, if_neg hbl]
            clear hbl
            go_wp2
            go_round
            case rel => exact ⟨_, j + 1, rfl, by go_num, by omega, by show _ = _; rw [str_app, HX.out, HT.out, HN.out]; simp⟩
            case measure => simp [intOf]; omega
        · obtain rfl : j = s.size := by omega
          have HT0 : Hid (T.data.toList = List.replicate k 32 ++ widen m s.data.toList) := by
            show _ = _
            rw [HT.out, List.take_of_length_le (by rw [len_data]; exact Nat.le_refl _)]
          clear HT
          go_wp2
          go_loop [8, 12] (fun tv iv => ∃ (T : ByteArray) (j : Nat), tv = .string T ∧ iv = .int .i64 j ∧ j ≤ b ∧ Hid (T.data.toList = List.replicate k 32 ++ (widen m s.data.toList ++ List.replicate j 32))) (fun _ iv => b - (intOf iv).toNat)
          case atStart => exact ⟨_, 0, rfl, rfl, Nat.zero_le _, by show _ = _; rw [HT0.out]; simp⟩
          case round =>
            clear HT0 hzT
            obtain ⟨T, j, rfl, rfl, hj, HT⟩ := hrel
            have hzT : T.size ≤ 20100 := by
              rw [← len_data, HT.out, List.length_append, List.length_append, List.length_replicate, List.length_replicate]
              have h1 := widen_len m s.data.toList
              have h2 : s.data.toList.length ≤ 3000 := by rw [len_data]; omega
              have h3 : s.data.toList.length * (m + 1) ≤ 3000 * 4 := Nat.mul_le_mul h2 (by omega)
              omega
            by_cases hlb : j < b
            · have hlb' : (j : Int) < m2 % 5 := by rw [HB.out]; omega
              go_wp2
              go_round
              case rel => exact ⟨_, j + 1, rfl, by go_num, by omega, by show _ = _; rw [str_app, HT.out, List.replicate_succ']; simp⟩
              case measure => simp [intOf]; omega
            · obtain rfl : j = b := by omega
              have hlb' : ¬ (j : Int) < m2 % 5 := by rw [HB.out]; omega
              by_cases hgt : 8192 < T.size
              · have hgt' : (8192 : Int) < (T.size : Int) := by omega
                clear hgt
                go_wp2_with fail
                refine (HV.out _).mono ?_
                rintro x w2 ⟨rfl, hb2⟩
                go_wp2
                go_ret
                exact ⟨rfl, (hbW.alloc (by omega) _).trans (hb2.mono (by simp; omega))⟩
              · have hgt' : ¬ (8192 : Int) < (T.size : Int) := by omega
                have HSame := Lib.hid (wid_same (s := s) (by omega) (by omega) HT.out)
                have HR2 := Lib.hid (fun W => read_line2 T (by omega) W)
                clear hgt
                go_wp2_with fail
                have hbx := (Below.refl w1.heap.size w1).alloc (Nat.le_refl _) (.cells #[.slice (A 0) (n 0) (c 0), .slice (A 1) (n 1) (c 1), .slice (A 2) (n 2) (c 2), .slice (A 3) (n 3) (c 3), .slice (A 4) (n 4) (c 4)] 30)
                refine (HR2.out _).mono ?_
                rintro x w2 ⟨F2, A2, n2, c2, pl2, ec2, rfl, hb2, hrd2, hn2, hst2⟩
                have hb12 : Below w1.heap.size w1 w2 := hbx.trans (hb2.mono (by simp))
                have hb3 : Below w.heap.size w w2 := bthen hbW hb12 hbW.size
                obtain ⟨hq1, hq2⟩ := bcell hb2
                have x0 : w2.cell? ⟨w1.heap.size, 0, none⟩ = some (.slice (A 0) (n 0) (c 0)) := by rw [hq1 _ _ (by simp)]; exact cell_new rfl rfl
                have x1 : w2.cell? ⟨w1.heap.size, 1, none⟩ = some (.slice (A 1) (n 1) (c 1)) := by rw [hq1 _ _ (by simp)]; exact cell_new rfl rfl
                have x2 : w2.cell? ⟨w1.heap.size, 2, none⟩ = some (.slice (A 2) (n 2) (c 2)) := by rw [hq1 _ _ (by simp)]; exact cell_new rfl rfl
                have x3 : w2.cell? ⟨w1.heap.size, 3, none⟩ = some (.slice (A 3) (n 3) (c 3)) := by rw [hq1 _ _ (by simp)]; exact cell_new rfl rfl
                have x4 : w2.cell? ⟨w1.heap.size, 4, none⟩ = some (.slice (A 4) (n 4) (c 4)) := by rw [hq1 _ _ (by simp)]; exact cell_new rfl rfl
                have hz2 : w1.heap.size < w2.heap.size := World.block_lt_of_cell? _ _ x0
                have hsm : sameLine F F2 = true := by
                  rcases HSame.out with ⟨y, e1, e2⟩ | ⟨y, y', e1, e2⟩
                  · rcases HSt.out with ⟨_, g1⟩ | ⟨_, ⟨_, g1⟩, _⟩
                    · rcases hst2 with ⟨_, g2⟩ | ⟨_, ⟨_, g2⟩, _⟩
                      · rw [e1] at g1
                        rw [e2] at g2
                        have h3 := range5_eq ((Except.ok.inj g1).symm.trans (Except.ok.inj g2))
                        exact sameLine_yes fun k hk => by rw [h3 k hk]; simp [sameIts]
                      · rw [e2] at g2; cases g2
                    · rw [e1] at g1; cases g1
                  · rcases HSt.out with ⟨_, g1⟩ | ⟨_, _, f1⟩
                    · rw [e1] at g1; cases g1
                    · rcases hst2 with ⟨_, g2⟩ | ⟨_, _, f2⟩
                      · rw [e2] at g2; cases g2
                      · rw [f1, f2]; exact sameLine_self _
                have hec : (ec = 0 ∧ ec2 = 0) ∨ (ec ≠ 0 ∧ ec2 ≠ 0) := by
                  rcases HSame.out with ⟨y, e1, e2⟩ | ⟨y, y', e1, e2⟩
                  · rcases HSt.out with ⟨z1, g1⟩ | ⟨_, ⟨_, g1⟩, _⟩
                    · rcases hst2 with ⟨z2, g2⟩ | ⟨_, ⟨_, g2⟩, _⟩
                      · exact .inl ⟨z1, z2⟩
                      · rw [e2] at g2; cases g2
                    · rw [e1] at g1; cases g1
                  · rcases HSt.out with ⟨_, g1⟩ | ⟨z1, _, _⟩
                    · rw [e1] at g1; cases g1
                    · rcases hst2 with ⟨_, g2⟩ | ⟨z2, _, _⟩
                      · rw [e2] at g2; cases g2
                      · exact .inr ⟨z1, z2⟩
                have HSm : Hid (∀ W, Below w2.heap.size w2 W → Calls Tryd.prog 23 #[crV A n c, crV A2 n2 c2] W (Ret (.bool true) W)) := by
                  intro W hW
                  have := same_any A A2 n c n2 c2 F F2 W ((HRd.out.below hb12 (Nat.le_refl _)).below hW (Nat.le_refl _)) (hrd2.below hW (Nat.le_refl _)) (fun k => by have := HNn.out k; omega) (fun k => by have := hn2 k; omega)
                  rw [hsm] at this
                  exact this
                clear hrd2 hn2 hst2 hsm hb12 hbx hq1 hq2 hb2 d0 d1 d2
                rcases hec with ⟨rfl, rfl⟩ | ⟨he1, he2⟩
                · go_wp2_with fail
                  refine (HSm.out _ (by (repeat' (first | (with_reducible exact Below.refl _ _) | (with_reducible assumption) | (with_reducible refine below_drewN ?_ _) | (with_reducible refine Below.alloc ?_ ?_ _) | (with_reducible refine Below.drew ?_) | (with_reducible refine Below.setCell ?_ ?_ _) | go_size)))).mono ?_
                  rintro x w3 ⟨rfl, hb4⟩
                  have hb5 : Below w.heap.size w w3 := (hb3.alloc hb3.size _).trans (hb4.mono (by simp; have := hb3.size; omega))
                  go_wp2_with fail
                  refine (HV.out _).mono ?_
                  rintro x w4 ⟨rfl, hb6⟩
                  go_wp2
                  go_ret
                  exact ⟨rfl, bthen hb5 hb6 hb5.size⟩
                · have he1' : (ec == 0) = false := by simpa using he1
                  have he2' : (ec2 == 0) = false := by simpa using he2
                  clear he1 he2
                  go_wp2_with fail
                  refine (HSm.out _ (by (repeat' (first | (with_reducible exact Below.refl _ _) | (with_reducible assumption) | (with_reducible refine below_drewN ?_ _) | (with_reducible refine Below.alloc ?_ ?_ _) | (with_reducible refine Below.drew ?_) | (with_reducible refine Below.setCell ?_ ?_ _) | go_size)))).mono ?_
                  rintro x w3 ⟨rfl, hb4⟩
                  have hb5 : Below w.heap.size w w3 := (hb3.alloc hb3.size _).trans (hb4.mono (by simp; have := hb3.size; omega))
                  go_wp2_with fail
                  refine (HV.out _).mono ?_
                  rintro x w4 ⟨rfl, hb6⟩
                  go_wp2
                  go_ret
                  exact ⟨rfl, bthen hb5 hb6 hb5.size⟩

set_option maxRecDepth 20000 in
theorem cronreadBlanks_any (s : ByteArray) (m0 m1 m2 : Int) (hs : s.size ≤ 9223372036854775807) (h0 : 0 ≤ m0 ∧ m0 ≤ 255) (h1 : 0 ≤ m1 ∧ m1 ≤ 255) (h2 : 0 ≤ m2 ∧ m2 ≤ 255) (w : World) :
    Calls Tryd.prog 7 #[.string s, .agg #[.int .u8 m0, .int .u8 m1, .int .u8 m2]] w (Ret (.bool true) w) := by
  by_cases hbig : 3000 < s.size
  · have HV := Lib.hid (fun W => lives25_any W)
    have hbig' : (3000 : Int) < (s.size : Int) := by omega
    clear hbig
    go_enter Tryd.func7, Tryd.ntmps7
    go_wp2_with fail
    refine (HV.out _).mono ?_
    rintro e w1 ⟨rfl, hb1⟩
    go_wp2
    go_ret
    exact ⟨rfl, ((Below.refl _ w).alloc (Nat.le_refl _) _).trans (hb1.mono (by simp))⟩
  · exact blanks_in s m0 m1 m2 (m0 % 5).toNat (m1 % 4).toNat (m2 % 5).toNat (by omega) (by omega) (by omega) h0 h1 h2 (by omega) w
end Go.Proofs.YtgliminiiciflaaDoor
