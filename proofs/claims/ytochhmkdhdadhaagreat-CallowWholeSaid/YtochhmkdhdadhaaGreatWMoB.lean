/- The walks of moment.text and moment.Basic. -/
import Derived.Test.YtochhmkdhdadhaaGreatWMoA
import Derived.Test.YtochhmkdhdadhaaGreatWLex5
import Derived.Test.YtochhmkdhdadhaaGreatWRead
import Derived.Test.YtochhmkdhdadhaaGreatWBox
import Derived.Deep.RegionWith
import Derived.Laws.IdiomStrings
import Derived.StillTailTactics
namespace Go.Proofs.YtochhmkdhdadhaaGreat
open Go.RowKit
set_option linter.unusedSimpArgs false
set_option linter.unusedVariables false

/-- A number's last m digits. -/
def digsL : Nat → Int → List UInt8
  | 0, _ => []
  | m + 1, n => digsL m (n / 10) ++ [UInt8.ofNat (48 + (n % 10).toNat)]
theorem digsL_len (m : Nat) (n : Int) : (digsL m n).length = m := by
  induction m generalizing n with
  | zero => rfl
  | succ m ih => simp [digsL, ih]
theorem digsL_get (m : Nat) (n : Int) (h : 0 ≤ n) : ∀ j, j < m → (digsL m n)[j]? = some (UInt8.ofNat (48 + (n / 10 ^ (m - 1 - j) % 10).toNat)) := by
  induction m generalizing n with
  | zero => intro j hj; omega
  | succ m ih =>
    intro j hj
    rw [digsL]
    by_cases e : j = m
    · subst e
      rw [List.getElem?_append_right (by rw [digsL_len]; exact Nat.le_refl _), digsL_len, Nat.sub_self]
      rw [show j + 1 - 1 - j = 0 by omega]
      simp
    · rw [List.getElem?_append_left (by rw [digsL_len]; omega), ih (n / 10) (by omega) j (by omega)]
      have : n / 10 / 10 ^ (m - 1 - j) = n / 10 ^ (m + 1 - 1 - j) := by
        rw [Int.ediv_ediv_of_nonneg (by decide), show m + 1 - 1 - j = (m - 1 - j) + 1 by omega, Int.pow_succ, Int.mul_comm]
      rw [this]
/-- The cell of a digit, of m, k of which are there. -/
def digV (m : Nat) (n : Int) (k j : Nat) : Value := .int .u8 (if m - k ≤ j ∧ j < m then 48 + n / 10 ^ (m - 1 - j) % 10 else 0)
/-- A text in a cell. -/
def StrAt (w : World) (b : Nat) (S : ByteArray) : Prop := w.cell? ⟨b, 0, none⟩ = some (.string S) ∧ w.frozen? ⟨b, 0, none⟩ = false
/-- Nothing but a cell has turned: it holds another text. -/
def RetApp (b : Nat) (S : ByteArray) (w : World) (e : Ending) (w' : World) : Prop := e = .returned (.tuple #[]) ∧ StrAt w' b S ∧ Chg b w w'
theorem strAt_new (w : World) (S : ByteArray) (t : TypeId) {b : Nat} (h : b = w.heap.size) : StrAt (w.alloc (.cells #[.string S] t)) b S := by
  subst h
  refine ⟨cell_new rfl rfl, ?_⟩
  have h1 := heap_alloc_new w (.cells #[.string S] t)
  unfold World.frozen?
  rw [h1]
  rfl
theorem conv_digs {W : World} {b m : Nat} {n : Int} (hn : 0 ≤ n) (hm : m ≤ 4) (h : Arr W b 4 (digV m n m)) :
    (convert 164 9 (.slice (some ⟨b, 0, none⟩) m 4)).run Tryz.prog W = .ok (.string (strB (digsL m n))) W := by
  have h0 := run_convert_bytes_back (P := Tryz.prog) W 164 9 5 ⟨b, 0, none⟩ 4 (digsL m n) Tryz.underlying164 Tryz.underlying5 Tryz.underlying9 (by
    intro j hj
    rw [digsL_len] at hj
    have e : (⟨b, 0, none⟩ : Addr).add j = ⟨b, j, none⟩ := by unfold Addr.add; split <;> simp_all
    have hg := digsL_get m n hn j hj
    have hv : (digsL m n)[j]'(by rw [digsL_len]; exact hj) = UInt8.ofNat (48 + (n / 10 ^ (m - 1 - j) % 10).toNat) := by
      have := List.getElem?_eq_getElem (l := digsL m n) (i := j) (by rw [digsL_len]; exact hj)
      rw [hg] at this
      exact (Option.some.inj this).symm
    rw [e, h.1 j (by omega), hv]
    unfold digV
    rw [if_pos ⟨by omega, hj⟩]
    have hb : 0 ≤ n / 10 ^ (m - 1 - j) % 10 ∧ n / 10 ^ (m - 1 - j) % 10 < 10 := by omega
    have e2 : (UInt8.ofNat (48 + (n / 10 ^ (m - 1 - j) % 10).toNat)).toNat = 48 + (n / 10 ^ (m - 1 - j) % 10).toNat := by simp; omega
    rw [e2]
    congr 2
    omega)
  rw [digsL_len] at h0
  exact h0
theorem div_pow_succ (n : Int) (k : Nat) : n / 10 ^ k / 10 = n / 10 ^ (k + 1) := by
  rw [Int.ediv_ediv_of_nonneg (Int.le_of_lt (Int.pow_pos (by decide))), Int.pow_succ]
theorem div_pow_bd (n : Int) (h : 0 ≤ n) (k : Nat) : 0 ≤ n / 10 ^ k ∧ n / 10 ^ k ≤ n :=
  ⟨Int.ediv_nonneg h (Int.le_of_lt (Int.pow_pos (by decide))), Int.ediv_le_self _ h⟩
/-- An instant's parts, as numbers. -/
def partC (t : Int) (k : Nat) : Int := if k = 0 then yD (t / 86400) else if k = 1 then mD (t / 86400) else if k = 2 then dD (t / 86400) else if k = 3 then t % 86400 / 3600 else if k = 4 then t % 86400 / 60 % 60 else t % 86400 % 60
/-- The text of an instant, with signs between, as far as a part. -/
def txtP (v : Nat → Int) (g : Nat → List UInt8) : Nat → List UInt8
  | 0 => digsL 4 (v 0) ++ g 0
  | k + 1 => txtP v g k ++ (digsL 2 (v (k + 1)) ++ g (k + 1))
theorem txtP_len (v : Nat → Int) (g : Nat → List UInt8) (hg : ∀ k, (g k).length ≤ 10) : ∀ k, (txtP v g k).length ≤ 14 * (k + 1)
  | 0 => by have := hg 0; simp [txtP, digsL_len]; omega
  | k + 1 => by have := txtP_len v g hg k; have := hg (k + 1); simp [txtP, digsL_len]; omega
theorem partC_bd {t : Int} (h : inC t = true) (k : Nat) : 0 ≤ partC t k ∧ partC t k ≤ 10000 := by
  unfold inC at h
  rw [decide_eq_true_eq] at h
  obtain ⟨hm, hy0, hy1⟩ := date_may (n := t / 86400) (by omega) (by omega)
  unfold mayC at hm
  rw [decide_eq_true_eq] at hm
  obtain ⟨l0, l1, l2⟩ := lft_bd (offD_bd (n := t / 86400) (by omega)).1 (offD_bd (n := t / 86400) (by omega)).2
  obtain ⟨_, _, d0, d1, q0, q1⟩ := mm_bd l1 l2
  change 1 ≤ dD (t / 86400) at d0
  change dD (t / 86400) ≤ 31 at d1
  change 1 ≤ mD (t / 86400) at q0
  change mD (t / 86400) ≤ 12 at q1
  unfold partC
  repeat' split
  all_goals omega
def partV (t : Int) (k : Nat) : Value := .int .i64 (partC t k)
def partV1 (t : Int) (k : Nat) : Value := .int .i64 (partC t (k + 1))
def sigV (g : Nat → ByteArray) (k : Nat) : Value := .string (g k)
def basG (k : Nat) : List UInt8 := if k = 2 then [84] else if k = 5 then [90] else []
/-- An instant in short. -/
def basicT (t : Int) : List UInt8 := if inC t = true then txtP (partC t) basG 5 else []
theorem basG_eq : (fun k => (strB (basG k)).data.toList) = basG := by funext k; exact strB_data _
theorem basicT_len (t : Int) : (basicT t).length ≤ 100 := by
  unfold basicT
  split
  · have := txtP_len (partC t) basG (by intro k; unfold basG; repeat' split
                                        all_goals decide) 5
    omega
  · simp
/-- The units' names. -/
def unNm (k : Nat) : List UInt8 := if k = 0 then [83, 69, 67, 79, 78, 68, 76, 89] else if k = 1 then [77, 73, 78, 85, 84, 69, 76, 89] else if k = 2 then [72, 79, 85, 82, 76, 89] else if k = 3 then [68, 65, 73, 76, 89] else if k = 4 then [87, 69, 69, 75, 76, 89] else if k = 5 then [77, 79, 78, 84, 72, 76, 89] else [89, 69, 65, 82, 76, 89]
def unNames : Value := .agg #[.string (strB (unNm 0)), .string (strB (unNm 1)), .string (strB (unNm 2)), .string (strB (unNm 3)), .string (strB (unNm 4)), .string (strB (unNm 5)), .string (strB (unNm 6))]
theorem unNames_any (w : World) : Calls Tryz.prog 59 #[] w (Ret unNames w) := by
  go_enter Tryz.func59, Tryz.ntmps59
  go_wp2
  refine bodyPost_ret (v := unNames) ?_ rfl ⟨rfl, by (repeat' (first | (with_reducible exact Below.refl _ _) | (with_reducible assumption) | (with_reducible refine below_drewN ?_ _) | (with_reducible refine Below.alloc ?_ ?_ _) | (with_reducible refine Below.drew ?_) | (with_reducible refine Below.setCell ?_ ?_ _) | go_size))⟩
  rw [results_cell1 rfl]
  unfold unNames
  go_simp
  exact ⟨rfl, rfl, rfl, rfl, rfl, rfl, rfl⟩
theorem unNames_at (k : Nat) (hk : k < 7) (W : World) : (Instr.index 104 unNames (.int .i64 (k : Int))).run Tryz.prog W = .ok (.string (strB (unNm k))) W := by
  obtain rfl | rfl | rfl | rfl | rfl | rfl | rfl : k = 0 ∨ k = 1 ∨ k = 2 ∨ k = 3 ∨ k = 4 ∨ k = 5 ∨ k = 6 := by omega
  all_goals kernel_rfl
def unT (u : Int) : List UInt8 := if 0 ≤ u ∧ u < 7 then unNm u.toNat else []
theorem unT_ne {u : Int} : unT u = [] ↔ ¬ (0 ≤ u ∧ u < 7) := by
  unfold unT
  split
  · rename_i h
    constructor
    · intro e
      exfalso
      unfold unNm at e
      repeat' split at e
      all_goals cases e
    · intro h2; exact absurd h h2
  · rename_i h
    exact ⟨fun _ => h, fun _ => rfl⟩
theorem unT_len (u : Int) : (unT u).length ≤ 8 := by
  unfold unT
  split
  · unfold unNm
    repeat' split
    all_goals decide
  · simp
theorem uname_any (u : Int) (w : World) : Calls Tryz.prog 34 #[.int .i64 u] w (Ret (.string (strB (unT u))) w) := by
  by_cases h : 0 ≤ u ∧ u < 7
  · obtain ⟨k, rfl⟩ := Int.eq_ofNat_of_zero_le h.1
    have hk : k < 7 := by omega
    have HR : Hid (unT (k : Int) = unNm k) := by show _ = _; unfold unT; rw [if_pos h, Int.toNat_natCast]
    have hix := fun W => unNames_at k hk W
    have h0 : ¬ (k : Int) < 0 := by omega
    have h7 : ¬ 7 ≤ (k : Int) := by omega
    clear h
    go_enter Tryz.func34, Tryz.ntmps34
    go_wp2_with fail
    refine (unNames_any _).mono ?_
    rintro e w1 ⟨rfl, hb1⟩
    go_wp2
    go_ret
    exact ⟨ret_str (by rw [HR.out, strB_data]), hb1⟩
  · have HR : Hid (unT u = []) := unT_ne.2 h
    by_cases h0 : u < 0
    · clear h
      go_enter Tryz.func34, Tryz.ntmps34
      go_wp2
      go_ret
      exact ⟨ret_str (by rw [HR.out]), Below.refl _ _⟩
    · have h7 : 7 ≤ u := by omega
      clear h
      go_enter Tryz.func34, Tryz.ntmps34
      go_wp2
      go_ret
      exact ⟨ret_str (by rw [HR.out]), Below.refl _ _⟩
end Go.Proofs.YtochhmkdhdadhaaGreat
