/- The walk of cronread.Read. -/
import Derived.Test.YtpfcgjneeboamaaDoorWCronread6
import Derived.Test.YtpfcgjneeboamaaDoorWLine
import Derived.Test.YtpfcgjneeboamaaDoorWBox
namespace Go.Proofs.YtpfcgjneeboamaaDoor
open Go.RowKit
set_option linter.unusedSimpArgs false
set_option linter.unusedVariables false

/-- What comes of the fields from k on. -/
def contR (s : ByteArray) (acc : List (List It)) (q k : Nat) (l : List UInt8) : Except (Int × Int) (List (List It)) := match cFields q k l with
  | .error (m, c) => .error (placeI s m, c)
  | .ok (rest, l1) => if l1.dropWhile blankP = [] then .ok (acc ++ rest) else .error (placeI s (l1.dropWhile blankP).length, 3)
def outR (s : ByteArray) : Except (Int × Int) (List (List It)) :=
  if 8192 < s.size then .error (8192, 5) else if headB (· == 64) (s.data.toList.dropWhile blankP) = true then .error (placeI s (s.data.toList.dropWhile blankP).length, 13) else contR s [] 5 0 (s.data.toList.dropWhile blankP)
theorem outR_eq (s : ByteArray) : outR s = (match cRead s.data.toList with | .error (m, c) => .error (placeI s m, c) | .ok (x, _) => .ok x) := by
  unfold outR cRead
  rw [len_data]
  by_cases h1 : 8192 < s.size
  · rw [if_pos h1, if_pos h1]
    dsimp only
    unfold placeI
    rw [show ((s.size - (s.size - 8192) : Nat) : Int) = 8192 from by omega]
  · rw [if_neg h1, if_neg h1]
    split
    · rfl
    · unfold contR cTail
      cases cFields 5 0 (List.dropWhile blankP s.data.toList) with
      | error e => rfl
      | ok x =>
        obtain ⟨r, l1⟩ := x
        dsimp only
        split <;> rfl
/-- How the reading stands: nothing is wrong and this comes of what is left; or it is wrong. -/
def RState (w : World) (b : Nat) (s : ByteArray) (acc : List (List It)) (k : Nat) (O : Except (Int × Int) (List (List It))) : Prop :=
  (∃ l, Live w b s l ∧ contR s acc (5 - k) k l = O) ∨ ∃ a c, Dead w b s a c ∧ O = .error (a, c)
theorem RState.below {w w' : World} {b k : Nat} {s : ByteArray} {acc : List (List It)} {O : Except (Int × Int) (List (List It))} (h : RState w b s acc k O) (hb : Below w.heap.size w w') : RState w' b s acc k O := by
  rcases h with ⟨l, h1, h2⟩ | ⟨a, c, h1, h2⟩
  · exact .inl ⟨l, h1.below hb, h2⟩
  · exact .inr ⟨a, c, h1.below hb, h2⟩
theorem RState.set {w : World} {b k B o : Nat} {s : ByteArray} {acc : List (List It)} {O : Except (Int × Int) (List (List It))} (h : RState w b s acc k O) (hB : B ≠ b) (v : Value) : RState (w.setCell ⟨B, o, none⟩ v) b s acc k O := by
  rcases h with ⟨l, h1, h2⟩ | ⟨a, c, h1, h2⟩
  · exact .inl ⟨l, h1.set hB v, h2⟩
  · exact .inr ⟨a, c, h1.set hB v, h2⟩
def RetDone (b : Nat) (s : ByteArray) (acc : List (List It)) (k : Nat) (O : Except (Int × Int) (List (List It))) (w : World) (x : Ending) (w' : World) : Prop := x = .returned (.tuple #[]) ∧ RState w' b s acc k O ∧ Chg b w w'
/-- The list of one field: what comes of the rest. -/
def RetField (b : Nat) (s : ByteArray) (acc : List (List It)) (k : Nat) (O : Except (Int × Int) (List (List It))) (w : World) (x : Ending) (w' : World) : Prop :=
  ∃ A n c L, x = .returned (.slice A n c) ∧ OwnIts w' w.heap.size (.slice A n c) L ∧ Chg b w w' ∧
    ((∃ l1, Live w' b s l1 ∧ (k = 4 → contR s (acc ++ [L]) 0 5 l1 = O) ∧ (k < 4 → (l1.takeWhile blankP = [] → O = .error (placeI s l1.length, pLack l1)) ∧ (l1.takeWhile blankP ≠ [] → contR s (acc ++ [L]) (4 - k) (k + 1) (l1.dropWhile blankP) = O))) ∨ ∃ a c, Dead w' b s a c ∧ O = .error (a, c))
theorem field_any (b k : Nat) (hk : k < 5) (s : ByteArray) (hs : s.size ≤ 1000000) (acc : List (List It)) (O : Except (Int × Int) (List (List It))) (w : World) (h : RState w b s acc k O) :
    Calls Tryd.prog 13 #[rdV b k, .func (.func 14) #[rdV b k] #[]] w (RetField b s acc k O w) := by
  rcases h with ⟨l, h1, h2⟩ | ⟨a, c, h1, h2⟩
  · cases hp : cItems k 63 l with
    | error e =>
      obtain ⟨m, c⟩ := e
      refine (list_err b k hk s hs l m c w h1 hp).mono ?_
      rintro x w1 ⟨v, L, rfl, hv, hd, hg⟩
      obtain ⟨A, n, cp, rfl⟩ := own_slice hv
      refine ⟨A, n, cp, L, rfl, hv, hg, .inr ⟨_, _, hd, ?_⟩⟩
      rw [← h2]
      unfold contR
      rw [show 5 - k = (4 - k) + 1 from by omega, cFields, hp]
    | ok x =>
      obtain ⟨L, l1⟩ := x
      refine (list_ok b k hk s hs l l1 L w h1 hp).mono ?_
      rintro x w1 ⟨v, rfl, hv, hd, hg⟩
      obtain ⟨A, n, cp, rfl⟩ := own_slice hv
      refine ⟨A, n, cp, L, rfl, hv, hg, .inl ⟨l1, hd, ?_, ?_⟩⟩
      · rintro rfl
        have e1 : cFields 0 5 l1 = .ok ([], l1) := by rw [cFields]
        have e2 : cFields (5 - 4) 4 l = .ok ([L], l1) := by rw [show 5 - 4 = 0 + 1 from rfl, cFields, hp]; rfl
        rw [← h2]
        unfold contR
        rw [e1, e2]
        simp
      · intro hk4
        refine ⟨fun he => ?_, fun he => ?_⟩
        · rw [← h2]
          unfold contR
          rw [show 5 - k = (4 - k) + 1 from by omega, cFields, hp]
          dsimp only
          rw [if_neg (by omega)]
          unfold cBetween
          rw [if_pos he]
        · rw [← h2]
          unfold contR
          rw [show 5 - k = (4 - k) + 1 from by omega, cFields, hp]
          dsimp only
          rw [if_neg (by omega)]
          unfold cBetween
          rw [if_neg he]
          dsimp only
          cases cFields (4 - k) (k + 1) (l1.dropWhile blankP) with
          | error e => rfl
          | ok y => obtain ⟨r, l3⟩ := y; dsimp only; simp
  · refine (list_dead b k hk s hs a c w h1).mono ?_
    rintro x w1 ⟨v, L, rfl, hv, hd, hg⟩
    obtain ⟨A, n, cp, rfl⟩ := own_slice hv
    exact ⟨A, n, cp, L, rfl, hv, hg, .inr ⟨_, _, hd, h2⟩⟩
theorem between_any (b k : Nat) (hk : k < 4) (s : ByteArray) (hs : s.size ≤ 9223372036854775807) (acc : List (List It)) (O : Except (Int × Int) (List (List It))) (w : World)
    (h : (∃ l1, Live w b s l1 ∧ ((l1.takeWhile blankP = [] → O = .error (placeI s l1.length, pLack l1)) ∧ (l1.takeWhile blankP ≠ [] → contR s acc (4 - k) (k + 1) (l1.dropWhile blankP) = O))) ∨ ∃ a c, Dead w b s a c ∧ O = .error (a, c)) :
    Calls Tryd.prog 15 #[.pointer (some ⟨b, 0, none⟩)] w (RetDone b s acc (k + 1) O w) := by
  rcases h with ⟨l, h1, h2, h3⟩ | ⟨a, c, h1, h2⟩
  · by_cases hp : l.takeWhile blankP = []
    · refine (between_err b s hs l w h1 hp).mono ?_
      rintro x w1 ⟨rfl, hd, hg⟩
      exact ⟨rfl, .inr ⟨_, _, hd, h2 hp⟩, hg⟩
    · refine (between_ok b s hs l w h1 hp).mono ?_
      rintro x w1 ⟨rfl, hd, hg⟩
      exact ⟨rfl, .inl ⟨_, hd, by rw [show 5 - (k + 1) = 4 - k from by omega]; exact h3 hp⟩, hg⟩
  · refine (between_dead b s hs w a c h1).mono ?_
    rintro x w1 ⟨rfl, hd, hg⟩
    exact ⟨rfl, .inr ⟨_, _, hd, h2⟩, hg⟩
def upd {α : Type} (f : Nat → α) (k : Nat) (x : α) (j : Nat) : α := if j = k then x else f j
def slAt (A : Nat → Option Addr) (n c : Nat → Nat) (j : Nat) : Value := .slice (A j) (n j) (c j)

theorem slAt_upd {A : Nat → Option Addr} {n c : Nat → Nat} {k : Nat} {A' : Option Addr} {n' c' : Nat} : slAt (upd A k A') (upd n k n') (upd c k c') k = .slice A' n' c' := by simp [slAt, upd]
theorem slAt_ne {A : Nat → Option Addr} {n c : Nat → Nat} {k j : Nat} {A' : Option Addr} {n' c' : Nat} (h : j ≠ k) : slAt (upd A k A') (upd n k n') (upd c k c') j = slAt A n c j := by simp [slAt, upd, h]
theorem range_upd {α : Type} (F : Nat → α) (k : Nat) (x : α) : (List.range (k + 1)).map (upd F k x) = (List.range k).map F ++ [x] := by
  rw [List.range_succ, List.map_append]
  congr 1
  · apply List.map_congr_left
    intro j hj
    have := List.mem_range.1 hj
    unfold upd; rw [if_neg (by omega)]
  · simp [upd]
/-- What Read hands back. -/
def RetRead (s : ByteArray) (O : Except (Int × Int) (List (List It))) (w : World) (x : Ending) (w' : World) : Prop :=
  Below w.heap.size w w' ∧ ((∃ (F : Nat → List It) (A : Nat → Option Addr) (n c : Nat → Nat), O = .ok ((List.range 5).map F) ∧ x = .returned (.tuple #[crV A n c, .int .i64 (s.size : Int), .int .i64 0]) ∧ ∀ k, k < 5 → OwnIts w' w.heap.size (slAt A n c k) (F k)) ∨
    ∃ a e, O = .error (a, e) ∧ e ≠ 0 ∧ x = .returned (.tuple #[crV (fun _ => none) (fun _ => 0) (fun _ => 0), .int .i64 a, .int .i64 e]))
theorem placeI_nil (s : ByteArray) : placeI s 0 = (s.size : Int) := by unfold placeI; omega
def nil5 (_ : Nat) : Value := .slice none 0 0
theorem arr5_new (w : World) (t : TypeId) (v0 v1 v2 v3 v4 : Value) (g : Nat → Value) (h0 : g 0 = v0) (h1 : g 1 = v1) (h2 : g 2 = v2) (h3 : g 3 = v3) (h4 : g 4 = v4) : Arr (w.alloc (.cells #[v0, v1, v2, v3, v4] t)) w.heap.size 5 g :=
  arr_new w #[v0, v1, v2, v3, v4] t g (by
    intro j hj
    obtain rfl | rfl | rfl | rfl | rfl : j = 0 ∨ j = 1 ∨ j = 2 ∨ j = 3 ∨ j = 4 := by simp at hj; omega
    · rw [h0]; rfl
    · rw [h1]; rfl
    · rw [h2]; rfl
    · rw [h3]; rfl
    · rw [h4]; rfl)
theorem arr5 {w : World} {b : Nat} {g : Nat → Value} (h : Arr w b 5 g) : w.cell? ⟨b, 0, none⟩ = some (g 0) ∧ w.cell? ⟨b, 1, none⟩ = some (g 1) ∧ w.cell? ⟨b, 2, none⟩ = some (g 2) ∧ w.cell? ⟨b, 3, none⟩ = some (g 3) ∧ w.cell? ⟨b, 4, none⟩ = some (g 4) ∧ ∀ j, w.frozen? ⟨b, j, none⟩ = false :=
  ⟨h.1 0 (by decide), h.1 1 (by decide), h.1 2 (by decide), h.1 3 (by decide), h.1 4 (by decide), h.2⟩

theorem own_far {w : World} {B R n k : Nat} {v x0 x1 x2 x3 x4 : Value} {t : TypeId} {xs : List Value} (h : w.ownsRow B t k v n xs) (hR : R < B) :
    ((((((w.setCell ⟨R, 0, none⟩ x0).setCell ⟨R, 1, none⟩ x1).setCell ⟨R, 2, none⟩ x2).setCell ⟨R, 3, none⟩ x3).setCell ⟨R, 4, none⟩ x4).drew).ownsRow B t k v n xs :=
  own_drew (own_set (own_set (own_set (own_set (own_set h hR) hR) hR) hR) hR)
end Go.Proofs.YtpfcgjneeboamaaDoor
