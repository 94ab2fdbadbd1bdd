/- Words for a line in memory. -/
import Derived.Test.YtochhmkdhdadhaaGreatWArr
namespace Go.Proofs.YtochhmkdhdadhaaGreat
open Go.RowKit
set_option linter.unusedSimpArgs false
set_option linter.unusedVariables false

/-- The five fields of a line, in five cells from o on. -/
def LineAt (w : World) (b o : Nat) (A : Nat → Option Addr) (n c : Nat → Nat) : Prop :=
  w.cell? ⟨b, o, none⟩ = some (.slice (A 0) (n 0) (c 0)) ∧ w.cell? ⟨b, o + 1, none⟩ = some (.slice (A 1) (n 1) (c 1)) ∧ w.cell? ⟨b, o + 2, none⟩ = some (.slice (A 2) (n 2) (c 2)) ∧
  w.cell? ⟨b, o + 3, none⟩ = some (.slice (A 3) (n 3) (c 3)) ∧ w.cell? ⟨b, o + 4, none⟩ = some (.slice (A 4) (n 4) (c 4))
theorem lineAt0 {w : World} {b : Nat} {A : Nat → Option Addr} {n c : Nat → Nat} (h0 : w.cell? ⟨b, 0, none⟩ = some (.slice (A 0) (n 0) (c 0))) (h1 : w.cell? ⟨b, 1, none⟩ = some (.slice (A 1) (n 1) (c 1))) (h2 : w.cell? ⟨b, 2, none⟩ = some (.slice (A 2) (n 2) (c 2)))
    (h3 : w.cell? ⟨b, 3, none⟩ = some (.slice (A 3) (n 3) (c 3))) (h4 : w.cell? ⟨b, 4, none⟩ = some (.slice (A 4) (n 4) (c 4))) : LineAt w b 0 A n c := ⟨h0, by simpa using h1, by simpa using h2, by simpa using h3, by simpa using h4⟩

/-- The value of a line. -/
abbrev crV (A : Nat → Option Addr) (n c : Nat → Nat) : Value := .agg #[.slice (A 0) (n 0) (c 0), .slice (A 1) (n 1) (c 1), .slice (A 2) (n 2) (c 2), .slice (A 3) (n 3) (c 3), .slice (A 4) (n 4) (c 4)]
/-- The fields of a line read as lists. -/
def RdLine (w : World) (A : Nat → Option Addr) (n : Nat → Nat) (l : Nat → List It) : Prop := ∀ k, k < 5 → RdIts w (A k) (n k) (l k)
theorem RdLine.below {w w' : World} {A : Nat → Option Addr} {n : Nat → Nat} {l : Nat → List It} {B : Nat} (h : RdLine w A n l) (hb : Below B w w') (hB : w.heap.size ≤ B) : RdLine w' A n l := fun k hk => (h k hk).below hb hB
theorem LineAt.below {w w' : World} {b o : Nat} {A : Nat → Option Addr} {n c : Nat → Nat} (h : LineAt w b o A n c) (hb : ∀ o, w'.cell? ⟨b, o, none⟩ = w.cell? ⟨b, o, none⟩) : LineAt w' b o A n c :=
  ⟨(hb _).trans h.1, (hb _).trans h.2.1, (hb _).trans h.2.2.1, (hb _).trans h.2.2.2.1, (hb _).trans h.2.2.2.2⟩

theorem rdIts_one (w : World) (b : Nat) (it : It) (hb : b < w.heap.size) (h0 : w.cell? ⟨b, 0, none⟩ = some (.int .i64 it.k)) (h1 : w.cell? ⟨b, 1, none⟩ = some (.int .i64 it.f)) (h2 : w.cell? ⟨b, 2, none⟩ = some (.int .i64 it.t)) (h3 : w.cell? ⟨b, 3, none⟩ = some (.int .i64 it.s)) :
    RdIts w (some ⟨b, 0, none⟩) 1 [it] :=
  ⟨rfl, fun _ => ⟨b, 0, rfl, hb, fun i x hi j v hj => by
    rcases i with _ | i
    · obtain rfl : it = x := by simpa using hi
      rcases j with _ | _ | _ | _ | j
      · obtain rfl : Value.int .i64 it.k = v := by simpa [itEnc] using hj
        simpa using h0
      · obtain rfl : Value.int .i64 it.f = v := by simpa [itEnc] using hj
        simpa using h1
      · obtain rfl : Value.int .i64 it.t = v := by simpa [itEnc] using hj
        simpa using h2
      · obtain rfl : Value.int .i64 it.s = v := by simpa [itEnc] using hj
        simpa using h3
      · simp [itEnc] at hj
    · simp at hi⟩⟩
end Go.Proofs.YtochhmkdhdadhaaGreat
