/- The walk of cronshow.Item. -/
import Derived.Test.YtochhmkdhdadhaaGreatWArr
import Derived.Test.YtochhmkdhdadhaaGreatOpen
import Derived.Test.YtochhmkdhdadhaaGreatShelf
import Derived.Deep.RegionWith
import Derived.Laws.IdiomStrings
import Derived.Lib.ItoaLen
import Derived.Test.YtochhmkdhdadhaaGreatRText
/- The walks of cronshow and of the document's texts of lines. -/
namespace Go.Proofs.YtochhmkdhdadhaaGreat
open Go.RowKit
set_option linter.unusedSimpArgs false
set_option linter.unusedVariables false

/-- A string out of bytes. -/
abbrev strV (l : List UInt8) : Value := .string ⟨l.toArray⟩

/-- One byte, made a string. -/
theorem conv_one (x : Int) (h0 : 0 ≤ x) (h1 : x < 256) (w : World) (t : TypeId) :
    (convert 164 9 (.slice (some ⟨w.heap.size, 0, none⟩) 1 1)).run Tryz.prog (w.alloc (.cells #[.int .u8 x] t)) = .ok (strV [UInt8.ofNat x.toNat]) (w.alloc (.cells #[.int .u8 x] t)) := by
  refine run_convert_bytes_back (w.alloc (.cells #[.int .u8 x] t)) 164 9 5 ⟨w.heap.size, 0, none⟩ 1 [UInt8.ofNat x.toNat] Tryz.underlying164 Tryz.underlying5 Tryz.underlying9 ?_
  intro j hj
  obtain rfl : j = 0 := by simp at hj; omega
  refine cell_new (by simp [Addr.add]) ?_
  have : (UInt8.ofNat x.toNat).toNat = x.toNat := by simp; omega
  simp [this]
  omega
theorem conv_at (x : Int) (h0 : 0 ≤ x) (h1 : x < 256) (W : World) (b : Nat) (h : W.cell? ⟨b, 0, none⟩ = some (.int .u8 x)) :
    (convert 164 9 (.slice (some ⟨b, 0, none⟩) 1 1)).run Tryz.prog W = .ok (strV [UInt8.ofNat x.toNat]) W := by
  refine run_convert_bytes_back W 164 9 5 ⟨b, 0, none⟩ 1 [UInt8.ofNat x.toNat] Tryz.underlying164 Tryz.underlying5 Tryz.underlying9 ?_
  intro j hj
  obtain rfl : j = 0 := by simp at hj; omega
  have e : (⟨b, 0, none⟩ : Addr).add 0 = ⟨b, 0, none⟩ := by simp [Addr.add]
  rw [e, h]
  have : (UInt8.ofNat x.toNat).toNat = x.toNat := by simp; omega
  simp [this]
  omega

end Go.Proofs.YtochhmkdhdadhaaGreat

/- The walks of cronshow.joined and cronshow.Item. -/
namespace Go.Proofs.YtochhmkdhdadhaaGreat
open Go.RowKit
set_option linter.unusedSimpArgs false
set_option linter.unusedVariables false

/-- The library's table lies in the world. -/
abbrev Pow (w : World) : Prop := Lib.TabIs Tryz.prog w "internal/strconv.uint64pow10" .u64 Lib.pow10Tab
theorem tab_below {P : Program} {nm : String} {k : IntKind} {zs : List Int} {w w' : World} (h : Lib.TabIs P w nm k zs) (hb : Below w.heap.size w w') : Lib.TabIs P w' nm k zs := by
  unfold Lib.TabIs World.var? at *
  cases hg : P.globalNamed nm with
  | none => rw [hg] at h; cases h
  | some g =>
    rw [hg] at h
    simp only [Option.bind_some] at h ⊢
    cases hw : w.heap[g]? with
    | none => rw [hw] at h; cases h
    | some o =>
      have hlt : g < w.heap.size := (Array.getElem?_eq_some_iff.1 hw).1
      rw [hb.block g hlt]
      exact h

end Go.Proofs.YtochhmkdhdadhaaGreat

/- The walks of the two texts of an item. -/
namespace Go.Proofs.YtochhmkdhdadhaaGreat
open Go.RowKit
set_option linter.unusedSimpArgs false
set_option linter.unusedVariables false

theorem itemT_len {i : It} (h : i.wf) : (itemT i).length ≤ 100 := by
  obtain ⟨_, h1, h2, h3⟩ := h
  have l1 := Lib.itoa_length_le i.f h1.1 h1.2
  have l2 := Lib.itoa_length_le i.t h2.1 h2.2
  have l3 := Lib.itoa_length_le i.s h3.1 h3.2
  unfold itemT stT
  split
  · split <;> simp <;> omega
  · split
    · omega
    · split
      · split <;> simp <;> omega
      · simp
theorem itoa_size {n : Int} (h : In64 n) : (strB (Lib.itoa n)).size ≤ 21 := by rw [strB_size]; exact itoa_le h

end Go.Proofs.YtochhmkdhdadhaaGreat

namespace Go.Proofs.YtochhmkdhdadhaaGreat
open Go.RowKit
set_option linter.unusedSimpArgs false
set_option linter.unusedVariables false

end Go.Proofs.YtochhmkdhdadhaaGreat
