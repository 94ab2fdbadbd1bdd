/- The walk of item.Of. -/
import Derived.Test.YtgliminiiciflaaWCover2
import Derived.Test.YtgliminiiciflaaWSame
import Derived.Test.YtgliminiiciflaaWClone
namespace Go.Proofs.Ytgliminiiciflaa
open Go.RowKit
set_option linter.unusedSimpArgs false
set_option linter.unusedVariables false

def itP (p : Pc) : It := if lenC p = 1 then ⟨1, p.f, 0, 0⟩ else ⟨2, p.f, p.t, p.s⟩
def itemsOf (lo hi : Int) (l : List Int) (star : Bool) : List It := if star = true ∧ coverL l = [⟨lo, hi, 1⟩] then [⟨0, 0, 0, 1⟩] else (coverL l).map itP
abbrev OwnIts (w : World) (B : Nat) (v : Value) (l : List It) : Prop := w.ownsRow B 60 4 v l.length (l.flatMap itEnc)
def RetOwnIts (l : List It) (w : World) (e : Ending) (w' : World) : Prop := ∃ v, e = .returned v ∧ OwnIts w' w.heap.size v l ∧ Below w.heap.size w w'
theorem own_base {w : World} {B B' k n : Nat} {v : Value} {t : TypeId} {xs : List Value} (h : w.ownsRow B t k v n xs) (hB : B' ≤ B) : w.ownsRow B' t k v n xs := by
  refine ⟨h.1, ?_⟩
  rcases h.2 with h | ⟨g, cap, cur, hv, hb, h3⟩
  · exact .inl h
  · exact .inr ⟨g, cap, cur, hv, Nat.le_trans hB hb, h3⟩
theorem own_new (w : World) (cur : Array Value) (e : TypeId) (size n : Nat) (hm : n ≤ maxLen) (hs : cur.size = n * size) : (w.alloc (.cells cur e)).ownsRow w.heap.size e size (.slice (some ⟨w.heap.size, 0, none⟩) n n) n cur.toList :=
  ⟨by simpa using hs, .inr ⟨w.heap.size, n, cur, rfl, Nat.le_refl _, heap_alloc_new w _, Nat.le_refl _, hm, hs, List.take_of_length_le (by rw [← hs]; exact Nat.le_refl _)⟩⟩
theorem coverF_len : ∀ k l, (coverF k l).length ≤ k
  | 0, _ => by simp [coverF]
  | k + 1, [] => by simp [coverF]
  | k + 1, a :: l => by simp only [coverF, List.length_cons]; have := coverF_len k ((a :: l).drop (pieceC a l).2); omega
theorem coverL_len (l : List Int) : (coverL l).length ≤ l.length := by
  unfold coverL
  split
  · exact coverF_len _ _
  · simp
def pcEq (a b : Pc) : Bool := decide (a = b)
theorem pcEq_def (a b : Pc) : pcEq a b = (decide (a.f = b.f) && (decide (a.t = b.t) && decide (a.s = b.s))) := by
  cases a; cases b
  simp [pcEq]
theorem eql_pc (a b : Pc) (w : World) : (binOp .eql 104 (.agg #[.int .i64 a.f, .int .i64 a.t, .int .i64 a.s]) (.agg #[.int .i64 b.f, .int .i64 b.t, .int .i64 b.s])).run Try.prog w = .ok (.bool (pcEq a b)) w := by
  rw [run_eql_struct, pcEq_def]
  by_cases h1 : a.f = b.f <;> by_cases h2 : a.t = b.t <;> by_cases h3 : a.s = b.s <;> simp [go_sem, h1, h2, h3]

set_option maxRecDepth 20000 in
set_option maxHeartbeats 4000000 in
theorem itemOf_any (lo hi : Int) (A : Option Addr) (n c : Nat) (l : List Int) (star : Bool) (w : World) (hA : RdInts w A n l) (hn : n ≤ 1000000) (hnc : n ≤ c) (hc : c ≤ maxLen) :
    Calls Try.prog 66 #[.int .i64 lo, .int .i64 hi, .slice A n c, .bool star] w (RetOwnIts (itemsOf lo hi l star) w) := by
  obtain ⟨i0, hi0, hz0, hz1, hz2⟩ := info_parts info_it
  have HI0 := Lib.hid hi0
  have HZ0 := Lib.hid hz0
  have HZ1 := Lib.hid hz1
  have HZ2 := Lib.hid hz2
  have hpl : (coverL l).length ≤ n := by rw [← hA.1]; exact coverL_len l
  have HC := Lib.hid (cover_any A n c l w hA hn hnc hc)
  clear hi0 hz0 hz1 hz2 hA
  obtain ⟨P, hP⟩ : ∃ P, P = coverL l := ⟨_, rfl⟩
  have HEd : Hid (itemsOf lo hi l star = if star = true ∧ P = [⟨lo, hi, 1⟩] then [⟨0, 0, 0, 1⟩] else P.map itP) := by show _ = _; rw [hP]; rfl
  rw [← hP] at HC hpl
  clear hP
  cases star with
  | false =>
    have HE : Hid (itemsOf lo hi l false = P.map itP) := by show _ = _; rw [HEd.out]; simp
    clear HEd
    go_enter Try.func66, Try.ntmps66
    go_wp2_with fail
    refine HC.out.mono ?_
    rintro e w1 ⟨vP, rfl, hown, hbw⟩
    obtain ⟨A', c', rfl, hc1, hc2, hrd, -⟩ := Rd.of_own pcEnc_len hown rfl
    have HRD := Lib.hid hrd
    obtain ⟨pn, hpn⟩ : ∃ pn, pn = P.length := ⟨_, rfl⟩
    rw [← hpn] at HRD hpl ⊢
    have HPL : Hid (P.length = pn) := hpn.symm
    have hszw := hbw.size
    clear hrd hown hpn HC
    go_wp2
    go_loopw [10, 35] (fun v i wr => ∃ (vo : Value) (k : Nat), vo = v ∧ k ≤ pn ∧ i = .int .i64 k ∧ Hid (OwnIts wr w1.heap.size vo ((P.take k).map itP)) ∧ Below w1.heap.size w1 wr) (fun _ i _ => pn - (intOf i).toNat)
    case atStart => exact ⟨_, 0, rfl, Nat.zero_le _, by go_num, World.ownsRow_nil _ _ _ _, by (repeat' (first | (with_reducible exact Below.refl _ _) | (with_reducible assumption) | (with_reducible refine below_drewN ?_ _) | (with_reducible refine Below.alloc ?_ ?_ _) | (with_reducible refine Below.drew ?_) | (with_reducible refine Below.setCell ?_ ?_ _) | go_size))⟩
    case round =>
      obtain ⟨vo, k, rfl, hk, rfl, HO, hb⟩ := hrel
      have hsz := hb.size
      by_cases hlt : k < pn
      · obtain ⟨b, o, p, hAe, hbl, hx, c0, c1, c2⟩ := RdPcs.at_ (HRD.out.below hb (Nat.le_refl _)) hlt
        cases hAe
        have hlt' : (k : Int) < (pn : Int) := by omega
        have hts : P.take (k + 1) = P.take k ++ [p] := by rw [List.take_add_one, hx]; rfl
        have hkl : ((P.take k).map itP).length = k := by simp; have := HPL.out; omega
        have HLen := Lib.hid (fun W => clen_any p W)
        clear hx
        by_cases h1 : lenC p = 1
        · have HI : Hid ((P.take (k + 1)).map itP = (P.take k).map itP ++ [⟨1, p.f, 0, 0⟩]) := by
            show _ = _
            rw [hts, List.map_append]; simp [itP, h1]
          have h1' : (lenC p == 1) = true := by simpa using h1
          clear hts h1
          obtain ⟨it, hit⟩ : ∃ it : It, it = ⟨1, p.f, 0, 0⟩ := ⟨_, rfl⟩
          have HIT : Hid ([.int .i64 1, .int .i64 p.f, .int .i64 0, .int .i64 0] = itEnc it) := by subst hit; rfl
          rw [← hit] at HI
          clear hit
          go_wp2_with fail
          refine (HLen.out _).mono ?_
          rintro e w2 ⟨rfl, hb2⟩
          obtain ⟨hq1, hq2⟩ := bcell hb2
          have hb3 : Below wr.heap.size wr w2 := (((Below.refl _ wr).alloc (Nat.le_refl _) _).alloc (by simp) _).trans (hb2.mono (by simp; omega))
          have hsz3 : wr.heap.size + 2 ≤ w2.heap.size := by have := hb2.size; simp at this; omega
          obtain ⟨X0, hX0⟩ : ∃ X, X = (P.take k).map itP := ⟨_, rfl⟩
          obtain ⟨X1, hX1⟩ : ∃ X, X = (P.take (k + 1)).map itP := ⟨_, rfl⟩
          rw [← hX0] at HO HI hkl
          rw [← hX1] at HI
          have HX1 := Lib.hid hX1
          clear hX0 hX1
          have hi0 := HI0.out
          have hz0 := HZ0.out
          have hz1 := HZ1.out
          have hz2 := HZ2.out
          go_wp2_with (at_builtin; refine wpList_append_own _ rfl _ _ 22 rfl w1.heap.size 60 i0 _ 4 32 Try.underlying22 hi0 hz0 hz1 hz2 rfl (by decide) _ X0.length _ rfl (own_below HO.out ?cB) ⟨w2.heap.size, 0, none⟩ 1 1 [.int .i64 1, .int .i64 p.f, .int .i64 0, .int .i64 0] rfl rfl ?c1 ?c2 ?c3 ?c4 ?c5 ?c6)
          case cB => (repeat' (first | (with_reducible exact Below.refl _ _) | (with_reducible assumption) | (with_reducible refine below_drewN ?_ _) | (with_reducible refine Below.alloc ?_ ?_ _) | (with_reducible refine Below.drew ?_) | (with_reducible refine Below.setCell ?_ ?_ _) | go_size))
          case c1 =>
            intro j u hu
            rcases j with _ | _ | _ | _ | j
            · simp at hu; subst hu
              exact cell_new (by simp) rfl
            · simp at hu; subst hu
              exact cell_new (by simp) rfl
            · simp at hu; subst hu
              exact cell_new (by simp) rfl
            · simp at hu; subst hu
              exact cell_new (by simp) rfl
            · simp at hu
          case c2 => intro u hu; simp at hu; rcases hu with rfl | rfl | rfl | rfl <;> rfl
          case c3 => rw [hkl]; simp only [maxLen]; omega
          case c4 => rw [hkl]; omega
          case c5 => simp; omega
          case c6 =>
            intro v' w' hown hg _
            have HV : Hid (OwnIts w' w1.heap.size v' X1) := by
              show World.ownsRow _ _ _ _ _ _ _
              rw [HI.out, List.length_append, hkl, List.flatMap_append, List.flatMap_singleton, ← HIT.out]
              exact hown
            have hbn : Below w1.heap.size w1 w' := by
              have hbx : Below w1.heap.size w1 w2 := bthen hb hb3 hsz
              refine Below.grown ?_ hg (by simp; omega) ?_
              · (repeat' (first | (with_reducible exact Below.refl _ _) | (with_reducible assumption) | (with_reducible refine below_drewN ?_ _) | (with_reducible refine Below.alloc ?_ ?_ _) | (with_reducible refine Below.drew ?_) | (with_reducible refine Below.setCell ?_ ?_ _) | go_size))
              · intro b hb'
                rcases own_some HO.out with ⟨h1, _⟩ | ⟨g, cap, h1, h2, h3⟩
                · rw [h1] at hb'; simp [Value.ownBlock] at hb'
                · rw [h1] at hb'; simp [Value.ownBlock] at hb'; subst hb'; exact h2
            clear hown hg hi0 hz0 hz1 hz2
            go_wp2
            go_roundw
            case rel => exact ⟨_, k + 1, rfl, by omega, by go_num, by rw [← HX1.out]; exact HV.out, hbn⟩
            case measure => simp [intOf]; omega
        · have HI : Hid ((P.take (k + 1)).map itP = (P.take k).map itP ++ [⟨2, p.f, p.t, p.s⟩]) := by
            show _ = _
            rw [hts, List.map_append]; simp [itP, h1]
          have h1' : (lenC p == 1) = false := by simpa using h1
          clear hts h1
          obtain ⟨it, hit⟩ : ∃ it : It, it = ⟨2, p.f, p.t, p.s⟩ := ⟨_, rfl⟩
          have HIT : Hid ([.int .i64 2, .int .i64 p.f, .int .i64 p.t, .int .i64 p.s] = itEnc it) := by subst hit; rfl
          rw [← hit] at HI
          clear hit
          go_wp2_with fail
          refine (HLen.out _).mono ?_
          rintro e w2 ⟨rfl, hb2⟩
          obtain ⟨hq1, hq2⟩ := bcell hb2
          have hb3 : Below wr.heap.size wr w2 := (((Below.refl _ wr).alloc (Nat.le_refl _) _).alloc (by simp) _).trans (hb2.mono (by simp; omega))
          have hsz3 : wr.heap.size + 2 ≤ w2.heap.size := by have := hb2.size; simp at this; omega
          obtain ⟨X0, hX0⟩ : ∃ X, X = (P.take k).map itP := ⟨_, rfl⟩
          obtain ⟨X1, hX1⟩ : ∃ X, X = (P.take (k + 1)).map itP := ⟨_, rfl⟩
          rw [← hX0] at HO HI hkl
          rw [← hX1] at HI
          have HX1 := Lib.hid hX1
          clear hX0 hX1
          have hi0 := HI0.out
          have hz0 := HZ0.out
          have hz1 := HZ1.out
          have hz2 := HZ2.out
          go_wp2_with (at_builtin; refine wpList_append_own _ rfl _ _ 22 rfl w1.heap.size 60 i0 _ 4 32 Try.underlying22 hi0 hz0 hz1 hz2 rfl (by decide) _ X0.length _ rfl (own_below HO.out ?cB) ⟨w2.heap.size, 0, none⟩ 1 1 [.int .i64 2, .int .i64 p.f, .int .i64 p.t, .int .i64 p.s] rfl rfl ?c1 ?c2 ?c3 ?c4 ?c5 ?c6)
          case cB => (repeat' (first | (with_reducible exact Below.refl _ _) | (with_reducible assumption) | (with_reducible refine below_drewN ?_ _) | (with_reducible refine Below.alloc ?_ ?_ _) | (with_reducible refine Below.drew ?_) | (with_reducible refine Below.setCell ?_ ?_ _) | go_size))
          case c1 =>
            intro j u hu
            rcases j with _ | _ | _ | _ | j
            · simp at hu; subst hu
              exact cell_new (by simp) rfl
            · simp at hu; subst hu
              exact cell_new (by simp) rfl
            · simp at hu; subst hu
              exact cell_new (by simp) rfl
            · simp at hu; subst hu
              exact cell_new (by simp) rfl
            · simp at hu
          case c2 => intro u hu; simp at hu; rcases hu with rfl | rfl | rfl | rfl <;> rfl
          case c3 => rw [hkl]; simp only [maxLen]; omega
          case c4 => rw [hkl]; omega
          case c5 => simp; omega
          case c6 =>
            intro v' w' hown hg _
            have HV : Hid (OwnIts w' w1.heap.size v' X1) := by
              show World.ownsRow _ _ _ _ _ _ _
              rw [HI.out, List.length_append, hkl, List.flatMap_append, List.flatMap_singleton, ← HIT.out]
              exact hown
            have hbn : Below w1.heap.size w1 w' := by
              have hbx : Below w1.heap.size w1 w2 := bthen hb hb3 hsz
              refine Below.grown ?_ hg (by simp; omega) ?_
              · (repeat' (first | (with_reducible exact Below.refl _ _) | (with_reducible assumption) | (with_reducible refine below_drewN ?_ _) | (with_reducible refine Below.alloc ?_ ?_ _) | (with_reducible refine Below.drew ?_) | (with_reducible refine Below.setCell ?_ ?_ _) | go_size))
              · intro b hb'
                rcases own_some HO.out with ⟨h1, _⟩ | ⟨g, cap, h1, h2, h3⟩
                · rw [h1] at hb'; simp [Value.ownBlock] at hb'
                · rw [h1] at hb'; simp [Value.ownBlock] at hb'; subst hb'; exact h2
            clear hown hg hi0 hz0 hz1 hz2
            go_wp2
            go_roundw
            case rel => exact ⟨_, k + 1, rfl, by omega, by go_num, by rw [← HX1.out]; exact HV.out, hbn⟩
            case measure => simp [intOf]; omega
      · have HF : Hid (itemsOf lo hi l false = (P.take k).map itP) := by
          show _ = _
          rw [HE.out, List.take_of_length_le (by have := HPL.out; omega)]
        go_wp2
        go_ret
        exact ⟨_, rfl, by rw [HF.out]; exact own_base HO.out hszw, bthen hbw hb hbw.size⟩
  | true =>
    by_cases hone : P.length = 1
    · obtain ⟨q, rfl⟩ : ∃ q, P = [q] := List.length_eq_one_iff.1 hone
      by_cases hq : q = ⟨lo, hi, 1⟩
      · have HE : Hid (itemsOf lo hi l true = [⟨0, 0, 0, 1⟩]) := by show _ = _; rw [HEd.out, hq]; simp
        have hqe : pcEq q ⟨lo, hi, 1⟩ = true := by simp [pcEq, hq]
        have hql := fun W => eql_pc q ⟨lo, hi, 1⟩ W
        rw [hqe] at hql
        clear HEd hqe hq
        go_enter Try.func66, Try.ntmps66
        go_wp2_with fail
        refine HC.out.mono ?_
        rintro e w1 ⟨vP, rfl, hown, hbw⟩
        obtain ⟨A', c', rfl, hc1, hc2, hrd, -⟩ := Rd.of_own pcEnc_len hown rfl
        obtain ⟨b, o, p, rfl, hbl, hx, c0, cc1, cc2⟩ := RdPcs.at_ hrd (i := 0) Nat.one_pos
        obtain rfl : q = p := by simpa using hx
        rw [Nat.zero_mul, Nat.add_zero] at c0 cc1 cc2
        have hc1' : 1 ≤ c' := hc1
        clear hrd hown HC hx hone
        go_wp2
        go_ret
        have hszw := hbw.size
        refine ⟨_, rfl, ?_, by (repeat' (first | (with_reducible exact Below.refl _ _) | (with_reducible assumption) | (with_reducible refine below_drewN ?_ _) | (with_reducible refine Below.alloc ?_ ?_ _) | (with_reducible refine Below.drew ?_) | (with_reducible refine Below.setCell ?_ ?_ _) | go_size))⟩
        rw [HE.out]
        exact own_base (own_new w1 #[.int .i64 0, .int .i64 0, .int .i64 0, .int .i64 1] 60 4 1 (by decide) rfl) hbw.size
      · have HE : Hid (itemsOf lo hi l true = [q].map itP) := by show _ = _; rw [HEd.out]; simp [hq]
        have hqe : pcEq q ⟨lo, hi, 1⟩ = false := by simp [pcEq, hq]
        have hql := fun W => eql_pc q ⟨lo, hi, 1⟩ W
        rw [hqe] at hql
        obtain ⟨P, hP⟩ : ∃ P, P = [q] := ⟨_, rfl⟩
        rw [← hP] at HE HC
        have HP0 : Hid (P = [q]) := hP
        clear HEd hqe hq hP
        go_enter Try.func66, Try.ntmps66
        go_wp2_with fail
        refine HC.out.mono ?_
        rintro e w1 ⟨vP, rfl, hown, hbw⟩
        obtain ⟨A', c', rfl, hc1, hc2, hrd, -⟩ := Rd.of_own pcEnc_len hown rfl
        have HRD := Lib.hid hrd
        obtain ⟨b, o, p, rfl, hbl, hx, c0, cc1, cc2⟩ := RdPcs.at_ hrd (i := 0) (by rw [HP0.out]; exact Nat.one_pos)
        obtain rfl : q = p := by rw [HP0.out] at hx; simpa using hx
        rw [Nat.zero_mul, Nat.add_zero] at c0 cc1 cc2
        obtain ⟨pn, hpn⟩ : ∃ pn, pn = P.length := ⟨_, rfl⟩
        rw [← hpn] at HRD hc1 ⊢
        have hpl : pn ≤ n := by rw [hpn, HP0.out]; exact hpl
        have hone' : ((pn : Int) == 1) = true := by rw [hpn, HP0.out]; rfl
        have hpn0 : (0 : Int) < (pn : Int) := by rw [hpn, HP0.out]; exact Int.one_pos
        have HPL : Hid (P.length = pn) := hpn.symm
        have hszw := hbw.size
        clear hrd hown hpn HC hone hx
        go_wp2
        clear hql hone' hpn0
        go_loopw [10, 35] (fun v i wr => ∃ (vo : Value) (k : Nat), vo = v ∧ k ≤ pn ∧ i = .int .i64 k ∧ Hid (OwnIts wr w1.heap.size vo ((P.take k).map itP)) ∧ Below w1.heap.size w1 wr) (fun _ i _ => pn - (intOf i).toNat)
        case atStart => exact ⟨_, 0, rfl, Nat.zero_le _, by go_num, World.ownsRow_nil _ _ _ _, by (repeat' (first | (with_reducible exact Below.refl _ _) | (with_reducible assumption) | (with_reducible refine below_drewN ?_ _) | (with_reducible refine Below.alloc ?_ ?_ _) | (with_reducible refine Below.drew ?_) | (with_reducible refine Below.setCell ?_ ?_ _) | go_size))⟩
        case round =>
          obtain ⟨vo, k, rfl, hk, rfl, HO, hb⟩ := hrel
          have hsz := hb.size
          by_cases hlt : k < pn
          · obtain ⟨b, o, p, hAe, hbl, hx, c0, c1, c2⟩ := RdPcs.at_ (HRD.out.below hb (Nat.le_refl _)) hlt
            cases hAe
            have hlt' : (k : Int) < (pn : Int) := by omega
            have hts : P.take (k + 1) = P.take k ++ [p] := by rw [List.take_add_one, hx]; rfl
            have hkl : ((P.take k).map itP).length = k := by simp; have := HPL.out; omega
            have HLen := Lib.hid (fun W => clen_any p W)
            clear hx
            by_cases h1 : lenC p = 1
            · have HI : Hid ((P.take (k + 1)).map itP = (P.take k).map itP ++ [⟨1, p.f, 0, 0⟩]) := by
                show _ = _
                rw [hts, List.map_append]; simp [itP, h1]
              have h1' : (lenC p == 1) = true := by simpa using h1
              clear hts h1
              obtain ⟨it, hit⟩ : ∃ it : It, it = ⟨1, p.f, 0, 0⟩ := ⟨_, rfl⟩
              have HIT : Hid ([.int .i64 1, .int .i64 p.f, .int .i64 0, .int .i64 0] = itEnc it) := by subst hit; rfl
              rw [← hit] at HI
              clear hit
              go_wp2_with fail
              refine (HLen.out _).mono ?_
              rintro e w2 ⟨rfl, hb2⟩
              obtain ⟨hq1, hq2⟩ := bcell hb2
              have hb3 : Below wr.heap.size wr w2 := (((Below.refl _ wr).alloc (Nat.le_refl _) _).alloc (by simp) _).trans (hb2.mono (by simp; omega))
              have hsz3 : wr.heap.size + 2 ≤ w2.heap.size := by have := hb2.size; simp at this; omega
              obtain ⟨X0, hX0⟩ : ∃ X, X = (P.take k).map itP := ⟨_, rfl⟩
              obtain ⟨X1, hX1⟩ : ∃ X, X = (P.take (k + 1)).map itP := ⟨_, rfl⟩
              rw [← hX0] at HO HI hkl
              rw [← hX1] at HI
              have HX1 := Lib.hid hX1
              clear hX0 hX1
              have hi0 := HI0.out
              have hz0 := HZ0.out
              have hz1 := HZ1.out
              have hz2 := HZ2.out
              go_wp2_with (at_builtin; refine wpList_append_own _ rfl _ _ 22 rfl w1.heap.size 60 i0 _ 4 32 Try.underlying22 hi0 hz0 hz1 hz2 rfl (by decide) _ X0.length _ rfl (own_below HO.out ?cB) ⟨w2.heap.size, 0, none⟩ 1 1 [.int .i64 1, .int .i64 p.f, .int .i64 0, .int .i64 0] rfl rfl ?c1 ?c2 ?c3 ?c4 ?c5 ?c6)
              case cB => (repeat' (first | (with_reducible exact Below.refl _ _) | (with_reducible assumption) | (with_reducible refine below_drewN ?_ _) | (with_reducible refine Below.alloc ?_ ?_ _) | (with_reducible refine Below.drew ?_) | (with_reducible refine Below.setCell ?_ ?_ _) | go_size))
              case c1 =>
                intro j u hu
                rcases j with _ | _ | _ | _ | j
                · simp at hu; subst hu
                  exact cell_new (by simp) rfl
                · simp at hu; subst hu
                  exact cell_new (by simp) rfl
                · simp at hu; subst hu
                  exact cell_new (by simp) rfl
                · simp at hu; subst hu
                  exact cell_new (by simp) rfl
                · simp at hu
              case c2 => intro u hu; simp at hu; rcases hu with rfl | rfl | rfl | rfl <;> rfl
              case c3 => rw [hkl]; simp only [maxLen]; omega
              case c4 => rw [hkl]; omega
              case c5 => simp; omega
              case c6 =>
                intro v' w' hown hg _
                have HV : Hid (OwnIts w' w1.heap.size v' X1) := by
                  show World.ownsRow _ _ _ _ _ _ _
                  rw [HI.out, List.length_append, hkl, List.flatMap_append, List.flatMap_singleton, ← HIT.out]
                  exact hown
                have hbn : Below w1.heap.size w1 w' := by
                  have hbx : Below w1.heap.size w1 w2 := bthen hb hb3 hsz
                  refine Below.grown ?_ hg (by simp; omega) ?_
                  · (repeat' (first | (with_reducible exact Below.refl _ _) | (with_reducible assumption) | (with_reducible refine below_drewN ?_ _) | (with_reducible refine Below.alloc ?_ ?_ _) | (with_reducible refine Below.drew ?_) | (with_reducible refine Below.setCell ?_ ?_ _) | go_size))
                  · intro b hb'
                    rcases own_some HO.out with ⟨h1, _⟩ | ⟨g, cap, h1, h2, h3⟩
                    · rw [h1] at hb'; simp [Value.ownBlock] at hb'
                    · rw [h1] at hb'; simp [Value.ownBlock] at hb'; subst hb'; exact h2
                clear hown hg hi0 hz0 hz1 hz2
                go_wp2
                go_roundw
                case rel => exact ⟨_, k + 1, rfl, by omega, by go_num, by rw [← HX1.out]; exact HV.out, hbn⟩
                case measure => simp [intOf]; omega
            · have HI : Hid ((P.take (k + 1)).map itP = (P.take k).map itP ++ [⟨2, p.f, p.t, p.s⟩]) := by
                show _ = _
                rw [hts, List.map_append]; simp [itP, h1]
              have h1' : (lenC p == 1) = false := by simpa using h1
              clear hts h1
              obtain ⟨it, hit⟩ : ∃ it : It, it = ⟨2, p.f, p.t, p.s⟩ := ⟨_, rfl⟩
              have HIT : Hid ([.int .i64 2, .int .i64 p.f, .int .i64 p.t, .int .i64 p.s] = itEnc it) := by subst hit; rfl
              rw [← hit] at HI
              clear hit
              go_wp2_with fail
              refine (HLen.out _).mono ?_
              rintro e w2 ⟨rfl, hb2⟩
              obtain ⟨hq1, hq2⟩ := bcell hb2
              have hb3 : Below wr.heap.size wr w2 := (((Below.refl _ wr).alloc (Nat.le_refl _) _).alloc (by simp) _).trans (hb2.mono (by simp; omega))
              have hsz3 : wr.heap.size + 2 ≤ w2.heap.size := by have := hb2.size; simp at this; omega
              obtain ⟨X0, hX0⟩ : ∃ X, X = (P.take k).map itP := ⟨_, rfl⟩
              obtain ⟨X1, hX1⟩ : ∃ X, X = (P.take (k + 1)).map itP := ⟨_, rfl⟩
              rw [← hX0] at HO HI hkl
              rw [← hX1] at HI
              have HX1 := Lib.hid hX1
              clear hX0 hX1
              have hi0 := HI0.out
              have hz0 := HZ0.out
              have hz1 := HZ1.out
              have hz2 := HZ2.out
              go_wp2_with (at_builtin; refine wpList_append_own _ rfl _ _ 22 rfl w1.heap.size 60 i0 _ 4 32 Try.underlying22 hi0 hz0 hz1 hz2 rfl (by decide) _ X0.length _ rfl (own_below HO.out ?cB) ⟨w2.heap.size, 0, none⟩ 1 1 [.int .i64 2, .int .i64 p.f, .int .i64 p.t, .int .i64 p.s] rfl rfl ?c1 ?c2 ?c3 ?c4 ?c5 ?c6)
              case cB => (repeat' (first | (with_reducible exact Below.refl _ _) | (with_reducible assumption) | (with_reducible refine below_drewN ?_ _) | (with_reducible refine Below.alloc ?_ ?_ _) | (with_reducible refine Below.drew ?_) | (with_reducible refine Below.setCell ?_ ?_ _) | go_size))
              case c1 =>
                intro j u hu
                rcases j with _ | _ | _ | _ | j
                · simp at hu; subst hu
                  exact cell_new (by simp) rfl
                · simp at hu; subst hu
                  exact cell_new (by simp) rfl
                · simp at hu; subst hu
                  exact cell_new (by simp) rfl
                · simp at hu; subst hu
                  exact cell_new (by simp) rfl
                · simp at hu
              case c2 => intro u hu; simp at hu; rcases hu with rfl | rfl | rfl | rfl <;> rfl
              case c3 => rw [hkl]; simp only [maxLen]; omega
              case c4 => rw [hkl]; omega
              case c5 => simp; omega
              case c6 =>
                intro v' w' hown hg _
                have HV : Hid (OwnIts w' w1.heap.size v' X1) := by
                  show World.ownsRow _ _ _ _ _ _ _
                  rw [HI.out, List.length_append, hkl, List.flatMap_append, List.flatMap_singleton, ← HIT.out]
                  exact hown
                have hbn : Below w1.heap.size w1 w' := by
                  have hbx : Below w1.heap.size w1 w2 := bthen hb hb3 hsz
                  refine Below.grown ?_ hg (by simp; omega) ?_
                  · (repeat' (first | (with_reducible exact Below.refl _ _) | (with_reducible assumption) | (with_reducible refine below_drewN ?_ _) | (with_reducible refine Below.alloc ?_ ?_ _) | (with_reducible refine Below.drew ?_) | (with_reducible refine Below.setCell ?_ ?_ _) | go_size))
                  · intro b hb'
                    rcases own_some HO.out with ⟨h1, _⟩ | ⟨g, cap, h1, h2, h3⟩
                    · rw [h1] at hb'; simp [Value.ownBlock] at hb'
                    · rw [h1] at hb'; simp [Value.ownBlock] at hb'; subst hb'; exact h2
                clear hown hg hi0 hz0 hz1 hz2
                go_wp2
                go_roundw
                case rel => exact ⟨_, k + 1, rfl, by omega, by go_num, by rw [← HX1.out]; exact HV.out, hbn⟩
                case measure => simp [intOf]; omega
          · have HF : Hid (itemsOf lo hi l true = (P.take k).map itP) := by
              show _ = _
              rw [HE.out, List.take_of_length_le (by have := HPL.out; omega)]
            go_wp2
            go_ret
            exact ⟨_, rfl, by rw [HF.out]; exact own_base HO.out hszw, bthen hbw hb hbw.size⟩
    · have HE : Hid (itemsOf lo hi l true = P.map itP) := by
        show _ = _
        rw [HEd.out, if_neg]
        rintro ⟨-, rfl⟩
        simp at hone
      clear HEd
      have hone' : ((P.length : Int) == 1) = false := by simp; omega
      go_enter Try.func66, Try.ntmps66
      go_wp2_with fail
      refine HC.out.mono ?_
      rintro e w1 ⟨vP, rfl, hown, hbw⟩
      obtain ⟨A', c', rfl, hc1, hc2, hrd, -⟩ := Rd.of_own pcEnc_len hown rfl
      have HRD := Lib.hid hrd
      obtain ⟨pn, hpn⟩ : ∃ pn, pn = P.length := ⟨_, rfl⟩
      rw [← hpn] at HRD hpl hone' ⊢
      have HPL : Hid (P.length = pn) := hpn.symm
      have hszw := hbw.size
      clear hrd hown hpn HC hone
      go_wp2
      go_loopw [10, 35] (fun v i wr => ∃ (vo : Value) (k : Nat), vo = v ∧ k ≤ pn ∧ i = .int .i64 k ∧ Hid (OwnIts wr w1.heap.size vo ((P.take k).map itP)) ∧ Below w1.heap.size w1 wr) (fun _ i _ => pn - (intOf i).toNat)
      case atStart => exact ⟨_, 0, rfl, Nat.zero_le _, by go_num, World.ownsRow_nil _ _ _ _, by (repeat' (first | (with_reducible exact Below.refl _ _) | (with_reducible assumption) | (with_reducible refine below_drewN ?_ _) | (with_reducible refine Below.alloc ?_ ?_ _) | (with_reducible refine Below.drew ?_) | (with_reducible refine Below.setCell ?_ ?_ _) | go_size))⟩
      case round =>
        obtain ⟨vo, k, rfl, hk, rfl, HO, hb⟩ := hrel
        have hsz := hb.size
        by_cases hlt : k < pn
        · obtain ⟨b, o, p, hAe, hbl, hx, c0, c1, c2⟩ := RdPcs.at_ (HRD.out.below hb (Nat.le_refl _)) hlt
          cases hAe
          have hlt' : (k : Int) < (pn : Int) := by omega
          have hts : P.take (k + 1) = P.take k ++ [p] := by rw [List.take_add_one, hx]; rfl
          have hkl : ((P.take k).map itP).length = k := by simp; have := HPL.out; omega
          have HLen := Lib.hid (fun W => clen_any p W)
          clear hx
          by_cases h1 : lenC p = 1
          · have HI : Hid ((P.take (k + 1)).map itP = (P.take k).map itP ++ [⟨1, p.f, 0, 0⟩]) := by
              show _ = _
              rw [hts, List.map_append]; simp [itP, h1]
            have h1' : (lenC p == 1) = true := by simpa using h1
            clear hts h1
            obtain ⟨it, hit⟩ : ∃ it : It, it = ⟨1, p.f, 0, 0⟩ := ⟨_, rfl⟩
            have HIT : Hid ([.int .i64 1, .int .i64 p.f, .int .i64 0, .int .i64 0] = itEnc it) := by subst hit; rfl
            rw [← hit] at HI
            clear hit
            go_wp2_with fail
            refine (HLen.out _).mono ?_
            rintro e w2 ⟨rfl, hb2⟩
            obtain ⟨hq1, hq2⟩ := bcell hb2
            have hb3 : Below wr.heap.size wr w2 := (((Below.refl _ wr).alloc (Nat.le_refl _) _).alloc (by simp) _).trans (hb2.mono (by simp; omega))
            have hsz3 : wr.heap.size + 2 ≤ w2.heap.size := by have := hb2.size; simp at this; omega
            obtain ⟨X0, hX0⟩ : ∃ X, X = (P.take k).map itP := ⟨_, rfl⟩
            obtain ⟨X1, hX1⟩ : ∃ X, X = (P.take (k + 1)).map itP := ⟨_, rfl⟩
            rw [← hX0] at HO HI hkl
            rw [← hX1] at HI
            have HX1 := Lib.hid hX1
            clear hX0 hX1
            have hi0 := HI0.out
            have hz0 := HZ0.out
            have hz1 := HZ1.out
            have hz2 := HZ2.out
            go_wp2_with (at_builtin; refine wpList_append_own _ rfl _ _ 22 rfl w1.heap.size 60 i0 _ 4 32 Try.underlying22 hi0 hz0 hz1 hz2 rfl (by decide) _ X0.length _ rfl (own_below HO.out ?cB) ⟨w2.heap.size, 0, none⟩ 1 1 [.int .i64 1, .int .i64 p.f, .int .i64 0, .int .i64 0] rfl rfl ?c1 ?c2 ?c3 ?c4 ?c5 ?c6)
            case cB => (repeat' (first | (with_reducible exact Below.refl _ _) | (with_reducible assumption) | (with_reducible refine below_drewN ?_ _) | (with_reducible refine Below.alloc ?_ ?_ _) | (with_reducible refine Below.drew ?_) | (with_reducible refine Below.setCell ?_ ?_ _) | go_size))
            case c1 =>
              intro j u hu
              rcases j with _ | _ | _ | _ | j
              · simp at hu; subst hu
                exact cell_new (by simp) rfl
              · simp at hu; subst hu
                exact cell_new (by simp) rfl
              · simp at hu; subst hu
                exact cell_new (by simp) rfl
              · simp at hu; subst hu
                exact cell_new (by simp) rfl
              · simp at hu
            case c2 => intro u hu; simp at hu; rcases hu with rfl | rfl | rfl | rfl <;> rfl
            case c3 => rw [hkl]; simp only [maxLen]; omega
            case c4 => rw [hkl]; omega
            case c5 => simp; omega
            case c6 =>
              intro v' w' hown hg _
              have HV : Hid (OwnIts w' w1.heap.size v' X1) := by
                show World.ownsRow _ _ _ _ _ _ _
                rw [HI.out, List.length_append, hkl, List.flatMap_append, List.flatMap_singleton, ← HIT.out]
                exact hown
              have hbn : Below w1.heap.size w1 w' := by
                have hbx : Below w1.heap.size w1 w2 := bthen hb hb3 hsz
                refine Below.grown ?_ hg (by simp; omega) ?_
                · (repeat' (first | (with_reducible exact Below.refl _ _) | (with_reducible assumption) | (with_reducible refine below_drewN ?_ _) | (with_reducible refine Below.alloc ?_ ?_ _) | (with_reducible refine Below.drew ?_) | (with_reducible refine Below.setCell ?_ ?_ _) | go_size))
                · intro b hb'
                  rcases own_some HO.out with ⟨h1, _⟩ | ⟨g, cap, h1, h2, h3⟩
                  · rw [h1] at hb'; simp [Value.ownBlock] at hb'
                  · rw [h1] at hb'; simp [Value.ownBlock] at hb'; subst hb'; exact h2
              clear hown hg hi0 hz0 hz1 hz2
              go_wp2
              go_roundw
              case rel => exact ⟨_, k + 1, rfl, by omega, by go_num, by rw [← HX1.out]; exact HV.out, hbn⟩
              case measure => simp [intOf]; omega
          · have HI : Hid ((P.take (k + 1)).map itP = (P.take k).map itP ++ [⟨2, p.f, p.t, p.s⟩]) := by
              show _ = _
              rw [hts, List.map_append]; simp [itP, h1]
            have h1' : (lenC p == 1) = false := by simpa using h1
            clear hts h1
            obtain ⟨it, hit⟩ : ∃ it : It, it = ⟨2, p.f, p.t, p.s⟩ := ⟨_, rfl⟩
            have HIT : Hid ([.int .i64 2, .int .i64 p.f, .int .i64 p.t, .int .i64 p.s] = itEnc it) := by subst hit; rfl
            rw [← hit] at HI
            clear hit
            go_wp2_with fail
            refine (HLen.out _).mono ?_
            rintro e w2 ⟨rfl, hb2⟩
            obtain ⟨hq1, hq2⟩ := bcell hb2
            have hb3 : Below wr.heap.size wr w2 := (((Below.refl _ wr).alloc (Nat.le_refl _) _).alloc (by simp) _).trans (hb2.mono (by simp; omega))
            have hsz3 : wr.heap.size + 2 ≤ w2.heap.size := by have := hb2.size; simp at this; omega
            obtain ⟨X0, hX0⟩ : ∃ X, X = (P.take k).map itP := ⟨_, rfl⟩
            obtain ⟨X1, hX1⟩ : ∃ X, X = (P.take (k + 1)).map itP := ⟨_, rfl⟩
            rw [← hX0] at HO HI hkl
            rw [← hX1] at HI
            have HX1 := Lib.hid hX1
            clear hX0 hX1
            have hi0 := HI0.out
            have hz0 := HZ0.out
            have hz1 := HZ1.out
            have hz2 := HZ2.out
            go_wp2_with (at_builtin; refine wpList_append_own _ rfl _ _ 22 rfl w1.heap.size 60 i0 _ 4 32 Try.underlying22 hi0 hz0 hz1 hz2 rfl (by decide) _ X0.length _ rfl (own_below HO.out ?cB) ⟨w2.heap.size, 0, none⟩ 1 1 [.int .i64 2, .int .i64 p.f, .int .i64 p.t, .int .i64 p.s] rfl rfl ?c1 ?c2 ?c3 ?c4 ?c5 ?c6)
            case cB => (repeat' (first | (with_reducible exact Below.refl _ _) | (with_reducible assumption) | (with_reducible refine below_drewN ?_ _) | (with_reducible refine Below.alloc ?_ ?_ _) | (with_reducible refine Below.drew ?_) | (with_reducible refine Below.setCell ?_ ?_ _) | go_size))
            case c1 =>
              intro j u hu
              rcases j with _ | _ | _ | _ | j
              · simp at hu; subst hu
                exact cell_new (by simp) rfl
              · simp at hu; subst hu
                exact cell_new (by simp) rfl
              · simp at hu; subst hu
                exact cell_new (by simp) rfl
              · simp at hu; subst hu
                exact cell_new (by simp) rfl
              · simp at hu
            case c2 => intro u hu; simp at hu; rcases hu with rfl | rfl | rfl | rfl <;> rfl
            case c3 => rw [hkl]; simp only [maxLen]; omega
            case c4 => rw [hkl]; omega
            case c5 => simp; omega
            case c6 =>
              intro v' w' hown hg _
              have HV : Hid (OwnIts w' w1.heap.size v' X1) := by
                show World.ownsRow _ _ _ _ _ _ _
                rw [HI.out, List.length_append, hkl, List.flatMap_append, List.flatMap_singleton, ← HIT.out]
                exact hown
              have hbn : Below w1.heap.size w1 w' := by
                have hbx : Below w1.heap.size w1 w2 := bthen hb hb3 hsz
                refine Below.grown ?_ hg (by simp; omega) ?_
                · (repeat' (first | (with_reducible exact Below.refl _ _) | (with_reducible assumption) | (with_reducible refine below_drewN ?_ _) | (with_reducible refine Below.alloc ?_ ?_ _) | (with_reducible refine Below.drew ?_) | (with_reducible refine Below.setCell ?_ ?_ _) | go_size))
                · intro b hb'
                  rcases own_some HO.out with ⟨h1, _⟩ | ⟨g, cap, h1, h2, h3⟩
                  · rw [h1] at hb'; simp [Value.ownBlock] at hb'
                  · rw [h1] at hb'; simp [Value.ownBlock] at hb'; subst hb'; exact h2
              clear hown hg hi0 hz0 hz1 hz2
              go_wp2
              go_roundw
              case rel => exact ⟨_, k + 1, rfl, by omega, by go_num, by rw [← HX1.out]; exact HV.out, hbn⟩
              case measure => simp [intOf]; omega
        · have HF : Hid (itemsOf lo hi l true = (P.take k).map itP) := by
            show _ = _
            rw [HE.out, List.take_of_length_le (by have := HPL.out; omega)]
          go_wp2
          go_ret
          exact ⟨_, rfl, by rw [HF.out]; exact own_base HO.out hszw, bthen hbw hb hbw.size⟩
end Go.Proofs.Ytgliminiiciflaa
