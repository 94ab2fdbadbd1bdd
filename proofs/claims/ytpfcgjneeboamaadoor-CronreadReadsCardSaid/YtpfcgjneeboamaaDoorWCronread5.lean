/- A reader's item, as a whole; its list. -/
import Derived.Test.YtpfcgjneeboamaaDoorWCronread4
import Derived.Test.YtpfcgjneeboamaaDoorWClone
import Derived.Test.YtpfcgjneeboamaaDoorWItemOf
import Derived.Test.YtpfcgjneeboamaaDoorWOwn
import Derived.Deep.LoopGhost
namespace Go.Proofs.YtpfcgjneeboamaaDoor
open Go.RowKit
set_option linter.unusedSimpArgs false
set_option linter.unusedVariables false

theorem item_ok (b f : Nat) (hf : f < 5) (s : ByteArray) (hs : s.size ≤ 1000000) (l r : List UInt8) (i : It) (w : World) (h : Live w b s l) (hp : cItem f l = .ok (i, r)) :
    Calls Tryd.prog 14 #[rdV b f] w (RetL (itV i) b s r w) := by
  unfold cItem at hp
  cases h1 : pIs [42] l with
  | some l1 =>
    rw [h1] at hp
    simp only [cBy] at hp
    cases h2 : pIs [47] l1 with
    | none =>
      rw [h2] at hp
      cases hp
      exact item_star1 b f hf s hs l _ w h h1 h2
    | some l2 =>
      rw [h2] at hp
      dsimp only at hp
      cases h3 : cStep l2 with
      | error e => rw [h3] at hp; cases hp
      | ok x =>
        obtain ⟨n, r'⟩ := x
        rw [h3] at hp
        cases hp
        exact item_star2 b f hf s hs l l1 l2 _ n w h h1 h2 h3
  | none =>
    rw [h1] at hp
    dsimp only at hp
    cases h2 : cNum f l with
    | error e => rw [h2] at hp; cases hp
    | ok x =>
      obtain ⟨n, l1⟩ := x
      rw [h2] at hp
      dsimp only at hp
      cases h3 : pIs [45] l1 with
      | none =>
        rw [h3] at hp
        cases hp
        exact item_one b f hf s hs l _ n w h h1 h2 h3
      | some l2 =>
        rw [h3] at hp
        dsimp only at hp
        cases h4 : cNum f l2 with
        | error e => rw [h4] at hp; cases hp
        | ok x =>
          obtain ⟨m, l3⟩ := x
          rw [h4] at hp
          dsimp only at hp
          split at hp
          · cases hp
          · rename_i hle
            unfold cBy at hp
            cases h5 : pIs [47] l3 with
            | none =>
              rw [h5] at hp
              cases hp
              exact item_rng1 b f hf s hs l l1 l2 _ n m w h h1 h2 h3 h4 hle h5
            | some l4 =>
              rw [h5] at hp
              dsimp only at hp
              cases h6 : cStep l4 with
              | error e => rw [h6] at hp; cases hp
              | ok x =>
                obtain ⟨q, r'⟩ := x
                rw [h6] at hp
                cases hp
                exact item_rng2 b f hf s hs l l1 l2 l3 l4 _ n m q w h h1 h2 h3 h4 hle h5 h6
theorem item_err (b f : Nat) (hf : f < 5) (s : ByteArray) (hs : s.size ≤ 1000000) (l : List UInt8) (z : Nat) (c : Int) (w : World) (h : Live w b s l) (hp : cItem f l = .error (z, c)) :
    Calls Tryd.prog 14 #[rdV b f] w (RetDIt b s (placeI s z) c w) := by
  unfold cItem at hp
  cases h1 : pIs [42] l with
  | some l1 =>
    rw [h1] at hp
    simp only [cBy] at hp
    cases h2 : pIs [47] l1 with
    | none => rw [h2] at hp; cases hp
    | some l2 =>
      rw [h2] at hp
      dsimp only at hp
      cases h3 : cStep l2 with
      | error e =>
        rw [h3] at hp
        cases hp
        exact item_star3 b f hf s hs l l1 l2 _ _ w h h1 h2 h3
      | ok x => obtain ⟨n, r'⟩ := x; rw [h3] at hp; cases hp
  | none =>
    rw [h1] at hp
    dsimp only at hp
    cases h2 : cNum f l with
    | error e =>
      rw [h2] at hp
      cases hp
      exact item_one_err b f hf s hs l _ _ w h h1 h2
    | ok x =>
      obtain ⟨n, l1⟩ := x
      rw [h2] at hp
      dsimp only at hp
      cases h3 : pIs [45] l1 with
      | none => rw [h3] at hp; cases hp
      | some l2 =>
        rw [h3] at hp
        dsimp only at hp
        cases h4 : cNum f l2 with
        | error e =>
          rw [h4] at hp
          cases hp
          exact item_rng_err b f hf s hs l l1 l2 n _ _ w h h1 h2 h3 h4
        | ok x =>
          obtain ⟨m, l3⟩ := x
          rw [h4] at hp
          dsimp only at hp
          split at hp
          · rename_i hlt
            cases hp
            exact item_rng_less b f hf s hs l l1 l2 l3 n m w h h1 h2 h3 h4 hlt
          · rename_i hle
            unfold cBy at hp
            cases h5 : pIs [47] l3 with
            | none => rw [h5] at hp; cases hp
            | some l4 =>
              rw [h5] at hp
              dsimp only at hp
              cases h6 : cStep l4 with
              | error e =>
                rw [h6] at hp
                cases hp
                exact item_rng2_err b f hf s hs l l1 l2 l3 l4 n m _ _ w h h1 h2 h3 h4 hle h5 h6
              | ok x => obtain ⟨q, r'⟩ := x; rw [h6] at hp; cases hp

/-- It hands back a slice of items of its own. -/
def RetLs (L : List It) (b : Nat) (s : ByteArray) (r : List UInt8) (w : World) (x : Ending) (w' : World) : Prop := ∃ v, x = .returned v ∧ OwnIts w' w.heap.size v L ∧ Live w' b s r ∧ Chg b w w'
def RetDLs (b : Nat) (s : ByteArray) (a c : Int) (w : World) (x : Ending) (w' : World) : Prop := ∃ v L, x = .returned v ∧ OwnIts w' w.heap.size v L ∧ Dead w' b s a c ∧ Chg b w w'
section
variable {w w' wr : World} {b : Nat} {s : ByteArray} {l : List UInt8} {a c : Int}
theorem Live.grown {row : Option Nat} (h : Live w b s l) (hg : w.grownBy w' row) (hrow : row ≠ some b) : Live w' b s l := by
  obtain ⟨k, hk, hl, hr⟩ := h
  exact ⟨k, hk, hl, (hg.block b hr.lt (Ne.symm hrow)).trans hr⟩
theorem Dead.grown {row : Option Nat} (h : Dead w b s a c) (hg : w.grownBy w' row) (hrow : row ≠ some b) : Dead w' b s a c := by
  obtain ⟨he, k, hk, hr⟩ := h
  exact ⟨he, k, hk, (hg.block b hr.lt (Ne.symm hrow)).trans hr⟩
theorem Box.grown {B : Nat} {f : Int} {row : Option Nat} (h : Box w B b f) (hg : w.grownBy w' row) (hrow : row ≠ some B) : Box w' B b f :=
  ⟨hg.cell h.1 (Ne.symm hrow), hg.cell h.2 (Ne.symm hrow)⟩
end

set_option maxRecDepth 20000 in
set_option maxHeartbeats 1000000 in
theorem list_dead (b f : Nat) (hf : f < 5) (s : ByteArray) (hs : s.size ≤ 1000000) (a c : Int) (w : World) (h : Dead w b s a c) :
    Calls Tryd.prog 13 #[rdV b f, .func (.func 14) #[rdV b f] #[]] w (RetDLs b s a c w) := by
  have hs9 : s.size ≤ 9223372036854775807 := by omega
  have hlt := h.lt
  have hne : w.heap.size ≠ b := by omega
  have H := Lib.hid h
  have HI := Lib.hid (fun W (h : Dead W b s a c) => item_dead b f hf s hs a c W h)
  obtain ⟨i0, hi0, hz0, hz1, hz2⟩ := info_parts info_it
  have HI0 := Lib.hid hi0
  have HZ0 := Lib.hid hz0
  have HZ1 := Lib.hid hz1
  have HZ2 := Lib.hid hz2
  clear hi0 hz0 hz1 hz2
  clear h
  go_enter Tryd.func13, Tryd.ntmps13
  go_wp2
  go_step3
  go_wp2
  go_step3
  go_wp2
  go_loopg [5] 0 (fun gg v wr => ∃ (vo : Value) (acc : List It), vo = v ∧ acc.length ≤ 64 ∧ Hid (OwnIts wr (w.heap.size + 1) vo acc) ∧ Hid (Dead wr b s a c) ∧ Hid (Box wr w.heap.size b (f : Int)) ∧ Hid (Chg b w wr))
  case atStart => exact ⟨_, [], rfl, by simp, World.ownsRow_nil _ _ _ _, H.out.alloc _, box_new _ _ _ _, (Chg.refl b w).alloc _⟩
  case round =>
    obtain ⟨vo, acc, rfl, hal, HO, HD, HB, HC⟩ := hrel
    have hlt : b < w.heap.size + 1 := by omega
    go_wp2_with fail
    refine (HI.out _ HD.out).mono ?_
    rintro e w2 ⟨i, rfl, h2, g2⟩
    have HO2 := Lib.hid (own_chg HO.out g2 hlt)
    have HB2 := Lib.hid (HB.out.chg g2 hne)
    have hgA := HC.out.trans g2
    have hz2 := hgA.size
    have hi0 := HI0.out
    have hz0 := HZ0.out
    have hz1 := HZ1.out
    have hzz2 := HZ2.out
    go_wp2_with (at_builtin; refine wpList_append_own _ rfl _ _ 23 rfl (w.heap.size + 1) 34 i0 _ 4 32 Tryd.underlying23 hi0 hz0 hz1 hzz2 rfl (by decide) _ acc.length _ rfl (HO2.out.alloc _) ⟨w2.heap.size, 0, none⟩ 1 1 [.int .i64 i.k, .int .i64 i.f, .int .i64 i.t, .int .i64 i.s] rfl rfl ?c1 ?c2 ?c3 ?c4 ?c5 ?c6)
    case c1 =>
      intro j u hu
      rcases j with _ | _ | _ | _ | j
      · simp at hu; subst hu
        exact cell_new rfl rfl
      · simp at hu; subst hu
        exact cell_new rfl rfl
      · simp at hu; subst hu
        exact cell_new rfl rfl
      · simp at hu; subst hu
        exact cell_new rfl rfl
      · simp at hu
    case c2 => intro u hu; simp at hu; rcases hu with rfl | rfl | rfl | rfl <;> rfl
    case c3 => simp only [maxLen]; omega
    case c4 => omega
    case c5 => simp; omega
    case c6 =>
      intro v' w3 hown hg _
      have HV : Hid (OwnIts w3 (w.heap.size + 1) v' (acc ++ [i])) := by
        show World.ownsRow _ _ _ _ _ _ _
        rw [List.length_append, List.flatMap_append, List.flatMap_singleton]
        exact hown
      have hob1 : ∀ k, vo.ownBlock = some k → w.heap.size + 1 ≤ k := own_ge HO.out
      have hob : ∀ k, vo.ownBlock = some k → w.heap.size ≤ k := fun k hk => by have := hob1 k hk; omega
      have hobn : vo.ownBlock ≠ some b := fun e => by have := hob b e; omega
      have hobB : vo.ownBlock ≠ some w.heap.size := fun e => by have := hob1 _ e; omega
      have h3 := (h2.alloc (.cells #[.int .i64 i.k, .int .i64 i.f, .int .i64 i.t, .int .i64 i.s] 34)).grown hg hobn
      have HB3 := Lib.hid ((HB2.out.alloc _).grown hg hobB)
      have hgB := (hgA.alloc _).grown hg hob
      have HLn : Hid ((acc ++ [i]).length = acc.length + 1) := by show _ = _; simp
      have hpos : 0 < (acc ++ [i]).length := by simp
      clear hown hg hi0 hz0 hz1 hzz2 h2 g2 HO2 HB2 hob hob1 hobn hobB
      obtain ⟨g, cap, rfl, hgb, hgl⟩ : ∃ g cap, v' = .slice (some ⟨g, 0, none⟩) (acc ++ [i]).length cap ∧ w.heap.size + 1 ≤ g ∧ g < w3.heap.size := by
        rcases own_some HV.out with ⟨_, h0⟩ | h1
        · omega
        · exact h1
      obtain ⟨acc1, hacc⟩ : ∃ x, x = acc ++ [i] := ⟨_, rfl⟩
      rw [← hacc] at HV HLn ⊢
      have HAcc := Lib.hid hacc
      rw [HLn.out]
      clear hpos hacc
      obtain ⟨c0, c1⟩ := HB3.out
      have hz3 := hgB.size
      go_wp2_with fail
      refine (at_dead h3).mono ?_
      rintro e w4 ⟨p, hp, rfl, h4, g4⟩
      have hgC := hgB.trans g4
      have HB4 := Lib.hid (HB3.out.chg g4 hne)
      have HV4 := Lib.hid (own_chg HV.out g4 hlt)
      clear c0 c1
      obtain ⟨c0, c1⟩ := HB4.out
      go_wp2_with fail
      refine (is_dead hs9 (h4.alloc _) (rdB1 (c := 44) (cell_new (by simp) rfl)) (by decide)).mono ?_
      rintro e w5 ⟨rfl, h5, g5⟩
      have hgD := (hgC.alloc _).trans g5
      have HV5 := Lib.hid (own_chg (HV4.out.alloc _) g5 hlt)
      go_wp2
      rw [Exit.noGoto_ret]
      go_ret
      exact ⟨.slice (some ⟨g, 0, none⟩) acc1.length cap, acc1, by rw [HLn.out]; rfl, own_base HV5.out (by omega), h5, hgD⟩

theorem cItems_step {f q : Nat} {l : List UInt8} : cItems f q l = (match cItem f l with
    | .error e => .error e
    | .ok (i, l1) => match pIs [44] l1 with
      | none => .ok ([i], l1)
      | some l2 => match q with
        | 0 => .error (l1.length, 5)
        | q + 1 => match cItems f q l2 with
          | .error e => .error e
          | .ok (is, l3) => .ok (i :: is, l3)) := by
  cases q <;> (rw [cItems]; rfl)
set_option maxRecDepth 20000 in
set_option maxHeartbeats 1000000 in
theorem list_ok (b f : Nat) (hf : f < 5) (s : ByteArray) (hs : s.size ≤ 1000000) (l r : List UInt8) (L : List It) (w : World) (h : Live w b s l) (hp : cItems f 63 l = .ok (L, r)) :
    Calls Tryd.prog 13 #[rdV b f, .func (.func 14) #[rdV b f] #[]] w (RetLs L b s r w) := by
  have hs9 : s.size ≤ 9223372036854775807 := by omega
  have hlt := h.lt
  have hne : w.heap.size ≠ b := by omega
  have H := Lib.hid h
  have HP := Lib.hid hp
  obtain ⟨i0, hi0, hz0, hz1, hz2⟩ := info_parts info_it
  have HI0 := Lib.hid hi0
  have HZ0 := Lib.hid hz0
  have HZ1 := Lib.hid hz1
  have HZ2 := Lib.hid hz2
  clear hi0 hz0 hz1 hz2
  clear h hp
  go_enter Tryd.func13, Tryd.ntmps13
  go_wp2
  go_step3
  go_wp2
  go_step3
  go_wp2
  go_loopg [5] 63 (fun gg v wr => ∃ (vo : Value) (acc rest : List It) (l' : List UInt8) (q0 : Nat), vo = v ∧ gg = q0 ∧ acc.length + q0 = 63 ∧ Hid (cItems f q0 l' = .ok (rest, r)) ∧ Hid (L = acc ++ rest) ∧ Hid (OwnIts wr (w.heap.size + 1) vo acc) ∧ Hid (Live wr b s l') ∧ Hid (Box wr w.heap.size b (f : Int)) ∧ Hid (Chg b w wr))
  case atStart => exact ⟨_, [], L, l, 63, rfl, rfl, rfl, HP.out, rfl, World.ownsRow_nil _ _ _ _, H.out.alloc _, box_new _ _ _ _, (Chg.refl b w).alloc _⟩
  case round =>
    obtain ⟨vo, acc, rest, l', q0, rfl, hgq, hal, HQ, HLa, HO, HD, HB, HC⟩ := hrel
    have hlt : b < w.heap.size + 1 := by omega
    have hq := HQ.out
    rw [cItems_step] at hq
    cases h1 : cItem f l' with
    | error e => rw [h1] at hq; cases hq
    | ok x =>
      obtain ⟨i, l1⟩ := x
      rw [h1] at hq
      dsimp only at hq
      have HI := Lib.hid (fun W (h : Live W b s l') => item_ok b f hf s hs l' l1 i W h h1)
      cases h2' : pIs [44] l1 with
      | none =>
        rw [h2'] at hq
        have HP2 := Lib.hid h2'
        have HE : Hid (rest = [i] ∧ l1 = r) := by cases hq; exact ⟨rfl, rfl⟩
        clear hq h1 h2'
        go_wp2_with fail
        refine (HI.out _ HD.out).mono ?_
        rintro e w2 ⟨rfl, h2, g2⟩
        have HO2 := Lib.hid (own_chg HO.out g2 hlt)
        have HB2 := Lib.hid (HB.out.chg g2 hne)
        have hgA := HC.out.trans g2
        have hz2 := hgA.size
        have hi0 := HI0.out
        have hz0 := HZ0.out
        have hz1 := HZ1.out
        have hzz2 := HZ2.out
        go_wp2_with (at_builtin; refine wpList_append_own _ rfl _ _ 23 rfl (w.heap.size + 1) 34 i0 _ 4 32 Tryd.underlying23 hi0 hz0 hz1 hzz2 rfl (by decide) _ acc.length _ rfl (HO2.out.alloc _) ⟨w2.heap.size, 0, none⟩ 1 1 [.int .i64 i.k, .int .i64 i.f, .int .i64 i.t, .int .i64 i.s] rfl rfl ?c1 ?c2 ?c3 ?c4 ?c5 ?c6)
        case c1 =>
          intro j u hu
          rcases j with _ | _ | _ | _ | j
          · simp at hu; subst hu
            exact cell_new rfl rfl
          · simp at hu; subst hu
            exact cell_new rfl rfl
          · simp at hu; subst hu
            exact cell_new rfl rfl
          · simp at hu; subst hu
            exact cell_new rfl rfl
          · simp at hu
        case c2 => intro u hu; simp at hu; rcases hu with rfl | rfl | rfl | rfl <;> rfl
        case c3 => simp only [maxLen]; omega
        case c4 => omega
        case c5 => simp; omega
        case c6 =>
          intro v' w3 hown hg _
          have HV : Hid (OwnIts w3 (w.heap.size + 1) v' (acc ++ [i])) := by
            show World.ownsRow _ _ _ _ _ _ _
            rw [List.length_append, List.flatMap_append, List.flatMap_singleton]
            exact hown
          have hob1 : ∀ k, vo.ownBlock = some k → w.heap.size + 1 ≤ k := own_ge HO.out
          have hob : ∀ k, vo.ownBlock = some k → w.heap.size ≤ k := fun k hk => by have := hob1 k hk; omega
          have hobn : vo.ownBlock ≠ some b := fun e => by have := hob b e; omega
          have hobB : vo.ownBlock ≠ some w.heap.size := fun e => by have := hob1 _ e; omega
          have h3 := (h2.alloc (.cells #[.int .i64 i.k, .int .i64 i.f, .int .i64 i.t, .int .i64 i.s] 34)).grown hg hobn
          have HB3 := Lib.hid ((HB2.out.alloc _).grown hg hobB)
          have hgB := (hgA.alloc _).grown hg hob
          have HLn : Hid ((acc ++ [i]).length = acc.length + 1) := by show _ = _; simp
          have hpos : 0 < (acc ++ [i]).length := by simp
          clear hown hg hi0 hz0 hz1 hzz2 h2 g2 HO2 HB2 hob hob1 hobn hobB
          obtain ⟨g, cap, rfl, hgb, hgl⟩ : ∃ g cap, v' = .slice (some ⟨g, 0, none⟩) (acc ++ [i]).length cap ∧ w.heap.size + 1 ≤ g ∧ g < w3.heap.size := by
            rcases own_some HV.out with ⟨_, h0⟩ | h1
            · omega
            · exact h1
          obtain ⟨acc1, hacc⟩ : ∃ x, x = acc ++ [i] := ⟨_, rfl⟩
          rw [← hacc] at HV HLn ⊢
          have HAcc := Lib.hid hacc
          rw [HLn.out]
          clear hpos hacc
          obtain ⟨c0, c1⟩ := HB3.out
          have hz3 := hgB.size
          go_wp2_with fail
          refine (at_live h3).mono ?_
          rintro e w4 ⟨rfl, h4, g4⟩
          have hgC := hgB.trans g4
          have HB4 := Lib.hid (HB3.out.chg g4 hne)
          have HV4 := Lib.hid (own_chg HV.out g4 hlt)
          clear c0 c1
          obtain ⟨c0, c1⟩ := HB4.out
          go_wp2_with fail
          refine (is_no hs9 (h4.alloc _) (rdB1 (c := 44) (cell_new (by simp) rfl)) (by decide) HP2.out).mono ?_
          rintro e w5 ⟨rfl, h5, g5⟩
          have hgD := (hgC.alloc _).trans g5
          have HV5 := Lib.hid (own_chg (HV4.out.alloc _) g5 hlt)
          go_wp2
          rw [Exit.noGoto_ret]
          go_ret
          have hL : L = acc1 := by rw [HLa.out, HE.out.1, HAcc.out]
          exact ⟨.slice (some ⟨g, 0, none⟩) acc1.length cap, by rw [HLn.out]; rfl, by rw [hL]; exact own_base HV5.out (by omega), by rw [← HE.out.2]; exact h5, hgD⟩
      | some l2 =>
        rw [h2'] at hq
        cases q0 with
        | zero => cases hq
        | succ q =>
          dsimp only at hq
          cases h3' : cItems f q l2 with
          | error e => rw [h3'] at hq; cases hq
          | ok x =>
            obtain ⟨rest', r'⟩ := x
            rw [h3'] at hq
            have HE : Hid (rest = i :: rest' ∧ r' = r) := by cases hq; exact ⟨rfl, rfl⟩
            have HP2 := Lib.hid h2'
            have HP3 := Lib.hid h3'
            have hal2 : ((acc.length : Int) + 1 == 64) = false := by simp; omega
            clear hq h1 h2' h3'
            go_wp2_with fail
            refine (HI.out _ HD.out).mono ?_
            rintro e w2 ⟨rfl, h2, g2⟩
            have HO2 := Lib.hid (own_chg HO.out g2 hlt)
            have HB2 := Lib.hid (HB.out.chg g2 hne)
            have hgA := HC.out.trans g2
            have hz2 := hgA.size
            have hi0 := HI0.out
            have hz0 := HZ0.out
            have hz1 := HZ1.out
            have hzz2 := HZ2.out
            go_wp2_with (at_builtin; refine wpList_append_own _ rfl _ _ 23 rfl (w.heap.size + 1) 34 i0 _ 4 32 Tryd.underlying23 hi0 hz0 hz1 hzz2 rfl (by decide) _ acc.length _ rfl (HO2.out.alloc _) ⟨w2.heap.size, 0, none⟩ 1 1 [.int .i64 i.k, .int .i64 i.f, .int .i64 i.t, .int .i64 i.s] rfl rfl ?c1 ?c2 ?c3 ?c4 ?c5 ?c6)
            case c1 =>
              intro j u hu
              rcases j with _ | _ | _ | _ | j
              · simp at hu; subst hu
                exact cell_new rfl rfl
              · simp at hu; subst hu
                exact cell_new rfl rfl
              · simp at hu; subst hu
                exact cell_new rfl rfl
              · simp at hu; subst hu
                exact cell_new rfl rfl
              · simp at hu
            case c2 => intro u hu; simp at hu; rcases hu with rfl | rfl | rfl | rfl <;> rfl
            case c3 => simp only [maxLen]; omega
            case c4 => omega
            case c5 => simp; omega
            case c6 =>
              intro v' w3 hown hg _
              have HV : Hid (OwnIts w3 (w.heap.size + 1) v' (acc ++ [i])) := by
                show World.ownsRow _ _ _ _ _ _ _
                rw [List.length_append, List.flatMap_append, List.flatMap_singleton]
                exact hown
              have hob1 : ∀ k, vo.ownBlock = some k → w.heap.size + 1 ≤ k := own_ge HO.out
              have hob : ∀ k, vo.ownBlock = some k → w.heap.size ≤ k := fun k hk => by have := hob1 k hk; omega
              have hobn : vo.ownBlock ≠ some b := fun e => by have := hob b e; omega
              have hobB : vo.ownBlock ≠ some w.heap.size := fun e => by have := hob1 _ e; omega
              have h3 := (h2.alloc (.cells #[.int .i64 i.k, .int .i64 i.f, .int .i64 i.t, .int .i64 i.s] 34)).grown hg hobn
              have HB3 := Lib.hid ((HB2.out.alloc _).grown hg hobB)
              have hgB := (hgA.alloc _).grown hg hob
              have HLn : Hid ((acc ++ [i]).length = acc.length + 1) := by show _ = _; simp
              have hpos : 0 < (acc ++ [i]).length := by simp
              clear hown hg hi0 hz0 hz1 hzz2 h2 g2 HO2 HB2 hob hob1 hobn hobB
              obtain ⟨g, cap, rfl, hgb, hgl⟩ : ∃ g cap, v' = .slice (some ⟨g, 0, none⟩) (acc ++ [i]).length cap ∧ w.heap.size + 1 ≤ g ∧ g < w3.heap.size := by
                rcases own_some HV.out with ⟨_, h0⟩ | h1
                · omega
                · exact h1
              obtain ⟨acc1, hacc⟩ : ∃ x, x = acc ++ [i] := ⟨_, rfl⟩
              rw [← hacc] at HV HLn ⊢
              have HAcc := Lib.hid hacc
              rw [HLn.out]
              clear hpos hacc
              obtain ⟨c0, c1⟩ := HB3.out
              have hz3 := hgB.size
              go_wp2_with fail
              refine (at_live h3).mono ?_
              rintro e w4 ⟨rfl, h4, g4⟩
              have hgC := hgB.trans g4
              have HB4 := Lib.hid (HB3.out.chg g4 hne)
              have HV4 := Lib.hid (own_chg HV.out g4 hlt)
              clear c0 c1
              obtain ⟨c0, c1⟩ := HB4.out
              go_wp2_with fail
              refine (is_yes hs9 (h4.alloc _) (rdB1 (c := 44) (cell_new (by simp) rfl)) (by decide) HP2.out).mono ?_
              rintro e w5 ⟨rfl, h5, g5⟩
              have hgD := (hgC.alloc _).trans g5
              have HB5 := Lib.hid ((HB4.out.alloc _).chg g5 hne)
              have HV5 := Lib.hid (own_chg (HV4.out.alloc _) g5 hlt)
              go_wp2
              go_roundg q
              case measure => omega
              case rel =>
                exact ⟨.slice (some ⟨g, 0, none⟩) acc1.length cap, acc1, rest', l2, q, by rw [HLn.out], rfl, by rw [HLn.out]; omega, by rw [← HE.out.2]; exact HP3.out, by show _ = _; rw [HLa.out, HE.out.1, HAcc.out]; simp, HV5.out, h5, HB5.out, hgD⟩
end Go.Proofs.YtpfcgjneeboamaaDoor
