/- The walks of cover: may, first, Len, Of. -/
import Derived.Test.YtgliminiiciflaaAid2
namespace Go.Proofs.Ytgliminiiciflaa
open Go.RowKit
set_option linter.unusedSimpArgs false
set_option linter.unusedVariables false

theorem wrap64_of {x : Int} (h0 : -9223372036854775808 ≤ x) (h1 : x ≤ 9223372036854775807) : IntKind.i64.wrap x = x := by
  simp [IntKind.wrap, IntKind.bits, IntKind.signed]; omega

/-- Numbers that may be told as pieces: each of 0 .. 9999, rising. -/
def mayC : Option Int → List Int → Bool
  | _, [] => true
  | p, x :: l => decide (0 ≤ x ∧ x ≤ 9999 ∧ ∀ y, p = some y → y < x) && mayC (some x) l
def prevC (l : List Int) : Nat → Option Int
  | 0 => none
  | k + 1 => l[k]?
theorem drop_at {α : Type} {l : List α} {k : Nat} {x : α} (h : l[k]? = some x) : l.drop k = x :: l.drop (k + 1) := by
  obtain ⟨h1, h2⟩ := List.getElem?_eq_some_iff.1 h
  rw [List.drop_eq_getElem_cons h1, h2]

set_option maxHeartbeats 1000000 in
theorem cmay_any (A : Option Addr) (n c : Nat) (l : List Int) (w : World) (hA : RdInts w A n l) (hn : n ≤ 9223372036854775806) :
    Calls Try.prog 85 #[.slice A n c] w (RetQ (.bool (mayC none l)) w) := by
  have HL : Hid (l.length = n) := hA.1
  have HA := Lib.hid hA
  clear hA
  go_enter Try.func85, Try.ntmps85
  go_wp2
  go_loopw [7] (fun i wr => ∃ k : Nat, k ≤ n ∧ i = .int .i64 k ∧ Hid (mayC none l = mayC (prevC l k) (l.drop k)) ∧ wr = w) (fun i _ => n - (intOf i).toNat)
  case atStart => exact ⟨0, Nat.zero_le _, rfl, rfl, rfl⟩
  case round =>
    obtain ⟨k, hk, rfl, HM, rfl⟩ := hrel
    by_cases hlt : k < n
    · obtain ⟨b, o, x, rfl, hbl, hx, c0⟩ := RdInts.at_ HA.out hlt
      have hlt' : (k : Int) < (n : Int) := by omega
      have hE : mayC none l = (decide (0 ≤ x ∧ x ≤ 9999 ∧ ∀ y, prevC l k = some y → y < x) && mayC (prevC l (k + 1)) (l.drop (k + 1))) := by
        rw [HM.out, drop_at hx, mayC]
        show _ = (_ && mayC l[k]? _)
        rw [hx]
      clear HM
      by_cases hr : 0 ≤ x ∧ x ≤ 9999
      · obtain ⟨hr0, hr1⟩ := hr
        have hr0' : ¬ x < 0 := by omega
        have hr1' : ¬ 9999 < x := by omega
        rcases k with _ | k
        · have HE : Hid (mayC none l = mayC (prevC l (0 + 1)) (l.drop (0 + 1))) := by
            show _ = _
            rw [hE]; simp [prevC, hr0, hr1]
          clear hE hx
          rw [Nat.add_zero] at c0
          go_wp2
          go_roundw
          case rel => exact ⟨1, by omega, by go_num, HE.out, by trivial⟩
          case measure => simp [intOf]; omega
        · obtain ⟨b', o', y, e, -, hy, c1⟩ := RdInts.at_ HA.out (i := k) (by omega)
          cases e
          by_cases hyx : y < x
          · have HE : Hid (mayC none l = mayC (prevC l (k + 1 + 1)) (l.drop (k + 1 + 1))) := by
              show _ = _
              rw [hE]; simp [hr0, hr1, prevC, hy]; intro h; omega
            have hyx' : ¬ x ≤ y := by omega
            clear hE hx hy
            go_wp2
            go_roundw
            case rel => exact ⟨k + 1 + 1, by omega, by go_num, HE.out, by trivial⟩
            case measure => simp [intOf]; omega
          · have HE : Hid (mayC none l = false) := by
              show _ = _
              rw [hE]; simp [hr0, hr1, prevC, hy]; intro h; omega
            have hyx' : x ≤ y := by omega
            clear hE hx hy
            go_wp2
            go_ret
            exact ⟨ret_bool HE.out.symm, rfl⟩
      · have HE : Hid (mayC none l = false) := by
          show _ = _
          rw [hE]
          have : ¬ (0 ≤ x ∧ x ≤ 9999 ∧ ∀ y, prevC l k = some y → y < x) := fun h => hr ⟨h.1, h.2.1⟩
          simp only [this, decide_false, Bool.false_and]
        clear hE hx
        by_cases h0 : x < 0
        · clear hr
          go_wp2
          go_ret
          exact ⟨ret_bool HE.out.symm, rfl⟩
        · have h1 : 9999 < x := by omega
          clear hr
          go_wp2
          go_ret
          exact ⟨ret_bool HE.out.symm, rfl⟩
    · obtain rfl : k = n := by omega
      have HE : Hid (mayC none l = true) := by
        show _ = _
        rw [HM.out, List.drop_of_length_le (by have := HL.out; omega)]; rfl
      clear HM
      go_wp2
      go_ret
      exact ⟨ret_bool HE.out.symm, rfl⟩

/-- A piece. -/
structure Pc where
  f : Int
  t : Int
  s : Int
  deriving DecidableEq
def pcEnc (p : Pc) : List Value := [.int .i64 p.f, .int .i64 p.t, .int .i64 p.s]
theorem pcEnc_len (p : Pc) : (pcEnc p).length = 3 := rfl
abbrev pcV (p : Pc) : Value := .agg #[.int .i64 p.f, .int .i64 p.t, .int .i64 p.s]
abbrev RdPcs (w : World) (A : Option Addr) (n : Nat) (l : List Pc) : Prop := Rd 3 pcEnc w A n l
theorem RdPcs.at_ {w : World} {A : Option Addr} {n : Nat} {l : List Pc} (h : RdPcs w A n l) {i : Nat} (hi : i < n) :
    ∃ b o p, A = some ⟨b, o, none⟩ ∧ b < w.heap.size ∧ l[i]? = some p ∧ w.cell? ⟨b, o + i * 3, none⟩ = some (.int .i64 p.f) ∧ w.cell? ⟨b, o + i * 3 + 1, none⟩ = some (.int .i64 p.t) ∧
    w.cell? ⟨b, o + i * 3 + 2, none⟩ = some (.int .i64 p.s) := by
  obtain ⟨b, o, it, e, hlt, hl, hc⟩ := h.gen hi
  exact ⟨b, o, it, e, hlt, hl, hc 0 _ rfl, hc 1 _ rfl, hc 2 _ rfl⟩

/-- How many more follow, each s above the one ahead. -/
def runC (s : Int) : Int → List Int → Nat
  | _, [] => 0
  | a, b :: l => if b - a = s then runC s b l + 1 else 0
def stepC (a : Int) : List Int → Int
  | [] => 1
  | b :: _ => b - a
def manyC (a : Int) (l : List Int) : Nat := runC (stepC a l) a l + 1
theorem runC_le (s a : Int) (l : List Int) : runC s a l ≤ l.length := by
  induction l generalizing a with
  | nil => simp [runC]
  | cons b l ih => simp only [runC]; split <;> simp [ih]
/-- The first piece, and how many numbers it has. -/
def pieceC (a : Int) (l : List Int) : Pc × Nat := if manyC a l = 1 ∨ manyC a l = 2 ∧ 1 < stepC a l then (⟨a, a, 1⟩, 1) else (⟨a, (a :: l).getD (manyC a l - 1) 0, stepC a l⟩, manyC a l)

/-- The numbers of a list are of 0 .. 9999. -/
def InC (l : List Int) : Prop := ∀ (j : Nat) x, l[j]? = some x → 0 ≤ x ∧ x ≤ 9999

set_option maxHeartbeats 2000000 in
theorem first_any (A : Option Addr) (n c : Nat) (a : Int) (l : List Int) (w : World) (hA : RdInts w A n (a :: l)) (hn : n ≤ 9223372036854775806) (hi : InC (a :: l)) :
    Calls Try.prog 86 #[.slice A n c] w (Ret (.tuple #[pcV (pieceC a l).1, .int .i64 (pieceC a l).2]) w) := by
  have hL : l.length + 1 = n := hA.1
  obtain ⟨b, o, x0, rfl, hbl, hx, c0⟩ := RdInts.at_ hA (i := 0) (by omega)
  obtain rfl : a = x0 := by simpa using hx
  have ha := hi 0 a rfl
  have HI := Lib.hid hi
  have HA := Lib.hid hA
  clear hA hi hx
  rw [Nat.add_zero] at c0
  obtain ⟨s, hs⟩ : ∃ s, s = stepC a l := ⟨_, rfl⟩
  have hsb : -9999 ≤ s ∧ s ≤ 9999 := by
    rcases l with _ | ⟨y, l⟩
    · simp [stepC] at hs; omega
    · have := HI.out 1 y rfl
      simp [stepC] at hs; omega
  have HP : Hid (pieceC a l = if manyC a l = 1 ∨ manyC a l = 2 ∧ 1 < s then (⟨a, a, 1⟩, 1) else (⟨a, (a :: l).getD (manyC a l - 1) 0, s⟩, manyC a l)) := by
    show _ = _
    rw [hs]; rfl
  have HM : Hid (manyC a l = runC s a l + 1) := by show _ = _; unfold manyC; rw [← hs]
  have HS : Hid (l = [] → s = 1) := by rintro rfl; exact hs
  have HS2 : Hid (∀ y l', l = y :: l' → s = y - a) := by rintro y l' rfl; exact hs
  obtain ⟨m, hm⟩ : ∃ m, m = manyC a l := ⟨_, rfl⟩
  have hm1 : 1 ≤ m ∧ m ≤ n := by rw [hm, HM.out]; have := runC_le s a l; omega
  have hlast : ∃ z, (a :: l)[m - 1]? = some z := ⟨_, List.getElem?_eq_getElem (by simp; omega)⟩
  obtain ⟨z, hz⟩ := hlast
  have HP2 : Hid (pieceC a l = if m = 1 ∨ m = 2 ∧ 1 < s then (⟨a, a, 1⟩, 1) else (⟨a, z, s⟩, m)) := by
    show _ = _
    rw [HP.out, ← hm, List.getD_eq_getElem?_getD, hz]; rfl
  have HM2 : Hid (m = runC s a l + 1) := hm.trans HM.out
  clear HP HM hm hs
  obtain ⟨b', o', z', e, -, hz', c2⟩ := RdInts.at_ HA.out (i := m - 1) (by omega)
  cases e
  obtain rfl : z = z' := by rw [hz] at hz'; injection hz'
  clear hz hz'
  have HD : Hid (∀ k, k ≤ n → ∀ y, (a :: l)[k]? = some y → 0 ≤ y ∧ y ≤ 9999) := fun k _ y h => HI.out k y h
  clear HI
  by_cases h1 : n = 1
  · subst h1
    obtain rfl : l = [] := List.length_eq_zero_iff.1 (by omega)
    obtain rfl := HS.out rfl
    obtain rfl : m = 1 := by omega
    have HQ : Hid ((pieceC a []).1 = ⟨a, a, 1⟩ ∧ (pieceC a []).2 = 1) := by show _ ∧ _; rw [HP2.out]; simp
    clear HP2 HS2 HM2 HD HA hm1
    go_enter Try.func86, Try.ntmps86
    go_wp2; go_step3; go_wp2; go_step3; go_wp2
    go_loopw [4, 6] (fun v i wr => v = .int .i64 1 ∧ i = .int .i64 1 ∧ wr = w.alloc (.cells #[.int .i64 0, .int .i64 0, .int .i64 0] 104)) (fun _ _ _ => 0)
    case atStart => exact ⟨rfl, rfl, by trivial⟩
    case round =>
      obtain ⟨rfl, rfl, rfl⟩ := hrel
      go_wp2
      go_region
      all_goals (try go_wp2)
      all_goals (try simp only [Exit.inBlock, Exit.then, Exit.noGoto])
      all_goals refine bodyPost_ret (v := .tuple #[.agg #[.int .i64 a, .int .i64 a, .int .i64 1], .int .i64 1]) ?_ rfl ⟨?_, ?_⟩
      all_goals first
        | (rw [results_cell_tmp rfl]; go_simp; done)
        | (rw [HQ.out.1, HQ.out.2]; rfl)
        | go_grown
  · have h1' : 1 < (n : Int) := by omega
    obtain ⟨y1, l', rfl⟩ : ∃ y l', l = y :: l' := by
      rcases l with _ | ⟨y, l'⟩
      · simp at hL; omega
      · exact ⟨y, l', rfl⟩
    have hsy := HS2.out y1 l' rfl
    have hy1 := HD.out 1 (by omega) y1 rfl
    obtain ⟨b', o', z', e, -, hz', c1⟩ := RdInts.at_ HA.out (i := 1) (by omega)
    cases e
    obtain rfl : y1 = z' := by simpa using hz'
    clear hz' HS HS2
    have HSY := Lib.hid hsy
    have HL := Lib.hid hL
    clear hL hsy
    generalize hl2 : y1 :: l' = l at *
    clear hl2
    go_enter Try.func86, Try.ntmps86
    go_wp2; go_step3; go_wp2
    have hwr : IntKind.i64.wrap (y1 - a) = s := by rw [HSY.out]; apply wrap64_of <;> omega
    go_quiet (fail)
    clear hwr
    go_wp2; go_step3; go_wp2
    go_loopw [4, 6] (fun v i wr => ∃ (k q : Nat) (y : Int), 1 ≤ k ∧ k ≤ n ∧ v = .int .i64 k ∧ i = .int .i64 k ∧ Hid ((a :: l)[k - 1]? = some y ∧ m = k + runC s y ((a :: l).drop k)) ∧ wr = (w.alloc (.cells #[.int .i64 0, .int .i64 0, .int .i64 0] 104)).drewN q) (fun _ i _ => n - (intOf i).toNat)
    case atStart => exact ⟨1, _, a, by omega, by omega, by go_num, by go_num, ⟨rfl, by have := HM2.out; simp only [List.drop_succ_cons, List.drop_zero]; omega⟩, rfl⟩
    case round =>
      obtain ⟨k, q, y, hk1, hk, rfl, rfl, HR, rfl⟩ := hrel
      by_cases hlt : k < n
      · obtain ⟨b', o', x, e, -, hx, cx⟩ := RdInts.at_ HA.out hlt
        cases e
        obtain ⟨b', o', y', e, -, hy, cy⟩ := RdInts.at_ HA.out (i := k - 1) (by omega)
        cases e
        obtain rfl : y = y' := by rw [HR.out.1] at hy; injection hy
        have hxb := HD.out k (by omega) x hx
        have hyb := HD.out (k - 1) (by omega) y hy
        have hlt' : (k : Int) < (n : Int) := by omega
        have hmE : m = k + (if x - y = s then runC s x ((a :: l).drop (k + 1)) + 1 else 0) := by
          have := HR.out.2
          rw [drop_at hx, runC] at this
          exact this
        clear HR hy
        have hw1 : IntKind.i64.wrap ((k : Int) - 1) = ((k - 1 : Nat) : Int) := by rw [wrap64_of (by omega) (by omega)]; omega
        have hw2 : IntKind.i64.wrap (x - y) = x - y := wrap64_of (by omega) (by omega)
        have hk0 : ¬ (((k - 1 : Nat) : Int) < 0) := by omega
        have hk2 : (((k - 1 : Nat) : Int) < (n : Int)) := by omega
        by_cases he : x - y = s
        · have HR2 : Hid ((a :: l)[k + 1 - 1]? = some x ∧ m = k + 1 + runC s x ((a :: l).drop (k + 1))) := ⟨hx, by rw [if_pos he] at hmE; omega⟩
          have he' : (x - y != s) = false := by simpa using he
          clear hmE hx he
          go_wp2
          go_quiet (fail)
          go_wp2
          go_roundw
          case rel => exact ⟨k + 1, _, x, by omega, by omega, by go_num, by go_num, HR2.out, rfl⟩
          case measure => simp [intOf]; omega
        · have he' : (x - y != s) = true := by simpa using he
          rw [if_neg he] at hmE
          obtain rfl : m = k := by omega
          obtain rfl : z = y := by rw [c2] at cy; injection cy with h; injection h
          clear hmE hx he
          go_wp2
          go_quiet (fail)
          clear hw1 hk0 hk2
          by_cases hs1 : m = 1 ∨ m = 2 ∧ 1 < s
          · have HQ : Hid ((pieceC a l).1 = ⟨a, a, 1⟩ ∧ (pieceC a l).2 = 1) := by show _ ∧ _; rw [HP2.out, if_pos hs1]; exact ⟨rfl, rfl⟩
            clear HP2
            by_cases hm2 : m = 1
            · have hb1 : ((m : Int) == 1) = true := by simp; omega
              clear hs1 hm2
              go_wp2
              go_region
              all_goals (try go_wp2)
              all_goals (try simp only [Exit.inBlock, Exit.then, Exit.noGoto])
              all_goals refine bodyPost_ret (v := .tuple #[.agg #[.int .i64 a, .int .i64 a, .int .i64 1], .int .i64 1]) ?_ rfl ⟨?_, ?_⟩
              all_goals first
                | (rw [results_cell_tmp rfl]; go_simp; done)
                | (rw [HQ.out.1, HQ.out.2]; first | done | rfl)
                | (repeat' (first | (with_reducible exact Below.refl _ _) | (with_reducible assumption) | (with_reducible refine below_drewN ?_ _) | (with_reducible refine Below.alloc ?_ ?_ _) | (with_reducible refine Below.drew ?_) | (with_reducible refine Below.setCell ?_ ?_ _) | go_size))
            · have hb1 : ((m : Int) == 1) = false := by simp; omega
              have hb2 : ((m : Int) == 2) = true := by simp; omega
              have hb3 : 1 < s := by omega
              clear hs1 hm2
              go_wp2
              go_region
              all_goals (try go_wp2)
              all_goals (try simp only [Exit.inBlock, Exit.then, Exit.noGoto])
              all_goals refine bodyPost_ret (v := .tuple #[.agg #[.int .i64 a, .int .i64 a, .int .i64 1], .int .i64 1]) ?_ rfl ⟨?_, ?_⟩
              all_goals first
                | (rw [results_cell_tmp rfl]; go_simp; done)
                | (rw [HQ.out.1, HQ.out.2]; first | done | rfl)
                | (repeat' (first | (with_reducible exact Below.refl _ _) | (with_reducible assumption) | (with_reducible refine below_drewN ?_ _) | (with_reducible refine Below.alloc ?_ ?_ _) | (with_reducible refine Below.drew ?_) | (with_reducible refine Below.setCell ?_ ?_ _) | go_size))
          · have HQ : Hid ((pieceC a l).1 = ⟨a, z, s⟩ ∧ (pieceC a l).2 = m) := by show _ ∧ _; rw [HP2.out, if_neg hs1]; exact ⟨rfl, rfl⟩
            clear HP2
            have hb1 : ((m : Int) == 1) = false := by simp; omega
            have hw1 : IntKind.i64.wrap ((m : Int) - 1) = ((m - 1 : Nat) : Int) := by rw [wrap64_of (by omega) (by omega)]; omega
            have hk0 : ¬ (((m - 1 : Nat) : Int) < 0) := by omega
            have hk2 : (((m - 1 : Nat) : Int) < (n : Int)) := by omega
            by_cases hm2 : m = 2
            · have hb2 : ((m : Int) == 2) = true := by simp; omega
              have hb3 : ¬ 1 < s := by omega
              clear hs1 hm2
              go_wp2
              go_region
              all_goals (try go_wp2)
              all_goals (try simp only [Exit.inBlock, Exit.then, Exit.noGoto])
              all_goals refine bodyPost_ret (v := .tuple #[.agg #[.int .i64 a, .int .i64 z, .int .i64 s], .int .i64 m]) ?_ rfl ⟨?_, ?_⟩
              all_goals first
                | (rw [results_cell_tmp rfl]; go_simp; done)
                | (rw [HQ.out.1, HQ.out.2]; first | done | rfl)
                | (repeat' (first | (with_reducible exact Below.refl _ _) | (with_reducible assumption) | (with_reducible refine below_drewN ?_ _) | (with_reducible refine Below.alloc ?_ ?_ _) | (with_reducible refine Below.drew ?_) | (with_reducible refine Below.setCell ?_ ?_ _) | go_size))
            · have hb2 : ((m : Int) == 2) = false := by simp; omega
              clear hs1 hm2
              go_wp2
              go_region
              all_goals (try go_wp2)
              all_goals (try simp only [Exit.inBlock, Exit.then, Exit.noGoto])
              all_goals refine bodyPost_ret (v := .tuple #[.agg #[.int .i64 a, .int .i64 z, .int .i64 s], .int .i64 m]) ?_ rfl ⟨?_, ?_⟩
              all_goals first
                | (rw [results_cell_tmp rfl]; go_simp; done)
                | (rw [HQ.out.1, HQ.out.2]; first | done | rfl)
                | (repeat' (first | (with_reducible exact Below.refl _ _) | (with_reducible assumption) | (with_reducible refine below_drewN ?_ _) | (with_reducible refine Below.alloc ?_ ?_ _) | (with_reducible refine Below.drew ?_) | (with_reducible refine Below.setCell ?_ ?_ _) | go_size))
      · obtain rfl : m = k := by
          have := HR.out.2
          rw [List.drop_of_length_le (by have := HL.out; simp; omega)] at this
          simpa [runC] using this
        have hge : ¬ ((m : Int) < (n : Int)) := by omega
        clear HR hlt hk
        by_cases hs1 : m = 1 ∨ m = 2 ∧ 1 < s
        · have HQ : Hid ((pieceC a l).1 = ⟨a, a, 1⟩ ∧ (pieceC a l).2 = 1) := by show _ ∧ _; rw [HP2.out, if_pos hs1]; exact ⟨rfl, rfl⟩
          clear HP2
          by_cases hm2 : m = 1
          · have hb1 : ((m : Int) == 1) = true := by simp; omega
            clear hs1 hm2
            go_wp2
            go_region
            all_goals (try go_wp2)
            all_goals (try simp only [Exit.inBlock, Exit.then, Exit.noGoto])
            all_goals refine bodyPost_ret (v := .tuple #[.agg #[.int .i64 a, .int .i64 a, .int .i64 1], .int .i64 1]) ?_ rfl ⟨?_, ?_⟩
            all_goals first
              | (rw [results_cell_tmp rfl]; go_simp; done)
              | (rw [HQ.out.1, HQ.out.2]; first | done | rfl)
              | (repeat' (first | (with_reducible exact Below.refl _ _) | (with_reducible assumption) | (with_reducible refine below_drewN ?_ _) | (with_reducible refine Below.alloc ?_ ?_ _) | (with_reducible refine Below.drew ?_) | (with_reducible refine Below.setCell ?_ ?_ _) | go_size))
          · have hb1 : ((m : Int) == 1) = false := by simp; omega
            have hb2 : ((m : Int) == 2) = true := by simp; omega
            have hb3 : 1 < s := by omega
            clear hs1 hm2
            go_wp2
            go_region
            all_goals (try go_wp2)
            all_goals (try simp only [Exit.inBlock, Exit.then, Exit.noGoto])
            all_goals refine bodyPost_ret (v := .tuple #[.agg #[.int .i64 a, .int .i64 a, .int .i64 1], .int .i64 1]) ?_ rfl ⟨?_, ?_⟩
            all_goals first
              | (rw [results_cell_tmp rfl]; go_simp; done)
              | (rw [HQ.out.1, HQ.out.2]; first | done | rfl)
              | (repeat' (first | (with_reducible exact Below.refl _ _) | (with_reducible assumption) | (with_reducible refine below_drewN ?_ _) | (with_reducible refine Below.alloc ?_ ?_ _) | (with_reducible refine Below.drew ?_) | (with_reducible refine Below.setCell ?_ ?_ _) | go_size))
        · have HQ : Hid ((pieceC a l).1 = ⟨a, z, s⟩ ∧ (pieceC a l).2 = m) := by show _ ∧ _; rw [HP2.out, if_neg hs1]; exact ⟨rfl, rfl⟩
          clear HP2
          have hb1 : ((m : Int) == 1) = false := by simp; omega
          have hw1 : IntKind.i64.wrap ((m : Int) - 1) = ((m - 1 : Nat) : Int) := by rw [wrap64_of (by omega) (by omega)]; omega
          have hk0 : ¬ (((m - 1 : Nat) : Int) < 0) := by omega
          have hk2 : (((m - 1 : Nat) : Int) < (n : Int)) := by omega
          by_cases hm2 : m = 2
          · have hb2 : ((m : Int) == 2) = true := by simp; omega
            have hb3 : ¬ 1 < s := by omega
            clear hs1 hm2
            go_wp2
            go_region
            all_goals (try go_wp2)
            all_goals (try simp only [Exit.inBlock, Exit.then, Exit.noGoto])
            all_goals refine bodyPost_ret (v := .tuple #[.agg #[.int .i64 a, .int .i64 z, .int .i64 s], .int .i64 m]) ?_ rfl ⟨?_, ?_⟩
            all_goals first
              | (rw [results_cell_tmp rfl]; go_simp; done)
              | (rw [HQ.out.1, HQ.out.2]; first | done | rfl)
              | (repeat' (first | (with_reducible exact Below.refl _ _) | (with_reducible assumption) | (with_reducible refine below_drewN ?_ _) | (with_reducible refine Below.alloc ?_ ?_ _) | (with_reducible refine Below.drew ?_) | (with_reducible refine Below.setCell ?_ ?_ _) | go_size))
          · have hb2 : ((m : Int) == 2) = false := by simp; omega
            clear hs1 hm2
            go_wp2
            go_region
            all_goals (try go_wp2)
            all_goals (try simp only [Exit.inBlock, Exit.then, Exit.noGoto])
            all_goals refine bodyPost_ret (v := .tuple #[.agg #[.int .i64 a, .int .i64 z, .int .i64 s], .int .i64 m]) ?_ rfl ⟨?_, ?_⟩
            all_goals first
              | (rw [results_cell_tmp rfl]; go_simp; done)
              | (rw [HQ.out.1, HQ.out.2]; first | done | rfl)
              | (repeat' (first | (with_reducible exact Below.refl _ _) | (with_reducible assumption) | (with_reducible refine below_drewN ?_ _) | (with_reducible refine Below.alloc ?_ ?_ _) | (with_reducible refine Below.drew ?_) | (with_reducible refine Below.setCell ?_ ?_ _) | go_size))
end Go.Proofs.Ytgliminiiciflaa
