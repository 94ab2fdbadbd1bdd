/- The walks of cronshow.joined and cronshow.Item. -/
import Derived.Test.YtgliminiiciflaaDoorWShow
namespace Go.Proofs.YtgliminiiciflaaDoor
open Go.RowKit
set_option linter.unusedSimpArgs false
set_option linter.unusedVariables false

set_option maxHeartbeats 1000000 in
/-- Texts with a sign between each two. -/
theorem joined_any (sep : ByteArray) (bk o c : Nat) (xs : List ByteArray) (w : World) (hcells : ∀ (j : Nat) x, xs[j]? = some x → w.cell? ⟨bk, o + j, none⟩ = some (.string x)) (hbk : bk < w.heap.size) (hN : xs.length ≤ 140737488355328) (hcap : xs.length ≤ c)
    (hlen : (Lib.join (xs.map (·.data.toList)) sep.data.toList).length ≤ 140737488355328) :
    Calls Tryd.prog 26 #[.string sep, .slice (some ⟨bk, o, none⟩) xs.length c] w (Ret (strV (Lib.join (xs.map (·.data.toList)) sep.data.toList)) w) := by
  have H := Lib.hid (Tryd.strings_Join bk o c xs sep w hcells hbk hN hcap hlen)
  clear hcells hlen
  go_enter Tryd.func26, Tryd.ntmps26
  go_wp2_with fail
  refine H.out.mono ?_
  rintro e w1 ⟨rfl, hb1⟩
  go_wp2
  go_ret
  exact ⟨rfl, hb1⟩

/-- The library's table lies in the world. -/
abbrev Pow (w : World) : Prop := Lib.TabIs Tryd.prog w "internal/strconv.uint64pow10" .u64 Lib.pow10Tab
theorem tab_below {P : Program} {nm : String} {k : IntKind} {zs : List Int} {w w' : World} (h : Lib.TabIs P w nm k zs) (hb : Below w.heap.size w w') : Lib.TabIs P w' nm k zs := by
  unfold Lib.TabIs World.var? at *
  cases hg : P.globalNamed nm with
  | none => rw [hg] at h; cases h
  | some g =>
    rw [hg] at h
    simp only [Option.bind_some] at h ⊢
    cases hw : w.heap[g]? with
    | none => rw [hw] at h; cases h
    | some o =>
      have hlt : g < w.heap.size := (Array.getElem?_eq_some_iff.1 hw).1
      rw [hb.block g hlt]
      exact h

theorem itoa_any (n : Int) (h : In64 n) (w : World) (hw : Pow w) : Calls Tryd.prog 25 #[.int .i64 n] w (Ret (strV (Lib.itoa n)) w) := by
  refine (Tryd.strconv_Itoa n h.1 h.2 w hw).mono ?_
  rintro e w' ⟨rfl, k, os, rfl⟩
  refine ⟨rfl, ⟨rfl, rfl, rfl, by simp [Go.Sort.grow, World.drewN], fun i hi => ?_⟩⟩
  have : i < (w.drewN k).heap.size := hi
  show ((w.drewN k).heap ++ os)[i]? = _
  rw [Array.getElem?_append_left this]
  rfl
end Go.Proofs.YtgliminiiciflaaDoor
