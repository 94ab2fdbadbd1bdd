/- The walk of cronread.Read. -/
import Derived.Test.YtochhmkdhdadhaaGreatDoorWCronread4
import Derived.Test.YtochhmkdhdadhaaGreatDoorWClone
import Derived.Test.YtochhmkdhdadhaaGreatDoorWItemOf
import Derived.Test.YtochhmkdhdadhaaGreatDoorWOwn
import Derived.Deep.LoopGhost
import Derived.Test.YtochhmkdhdadhaaGreatDoorWLine
import Derived.Test.YtochhmkdhdadhaaGreatDoorWBox
/- A reader's item, as a whole; its list. -/
namespace Go.Proofs.YtochhmkdhdadhaaGreatDoor
open Go.RowKit
set_option linter.unusedSimpArgs false
set_option linter.unusedVariables false

theorem item_ok (b f : Nat) (hf : f < 5) (s : ByteArray) (hs : s.size ≤ 1000000) (l r : List UInt8) (i : It) (w : World) (h : Live w b s l) (hp : cItem f l = .ok (i, r)) :
    Calls Tryz.prog 52 #[rdV b f] w (RetL (itV i) b s r w) := by
  unfold cItem at hp
  cases h1 : pIs [42] l with
  | some l1 =>
    rw [h1] at hp
    simp only [cBy] at hp
    cases h2 : pIs [47] l1 with
    | none =>
      rw [h2] at hp
      cases hp
      exact item_star1 b f hf s hs l _ w h h1 h2
    | some l2 =>
      rw [h2] at hp
      dsimp only at hp
      cases h3 : cStep l2 with
      | error e => rw [h3] at hp; cases hp
      | ok x =>
        obtain ⟨n, r'⟩ := x
        rw [h3] at hp
        cases hp
        exact item_star2 b f hf s hs l l1 l2 _ n w h h1 h2 h3
  | none =>
    rw [h1] at hp
    dsimp only at hp
    cases h2 : cNum f l with
    | error e => rw [h2] at hp; cases hp
    | ok x =>
      obtain ⟨n, l1⟩ := x
      rw [h2] at hp
      dsimp only at hp
      cases h3 : pIs [45] l1 with
      | none =>
        rw [h3] at hp
        cases hp
        exact item_one b f hf s hs l _ n w h h1 h2 h3
      | some l2 =>
        rw [h3] at hp
        dsimp only at hp
        cases h4 : cNum f l2 with
        | error e => rw [h4] at hp; cases hp
        | ok x =>
          obtain ⟨m, l3⟩ := x
          rw [h4] at hp
          dsimp only at hp
          split at hp
          · cases hp
          · rename_i hle
            unfold cBy at hp
            cases h5 : pIs [47] l3 with
            | none =>
              rw [h5] at hp
              cases hp
              exact item_rng1 b f hf s hs l l1 l2 _ n m w h h1 h2 h3 h4 hle h5
            | some l4 =>
              rw [h5] at hp
              dsimp only at hp
              cases h6 : cStep l4 with
              | error e => rw [h6] at hp; cases hp
              | ok x =>
                obtain ⟨q, r'⟩ := x
                rw [h6] at hp
                cases hp
                exact item_rng2 b f hf s hs l l1 l2 l3 l4 _ n m q w h h1 h2 h3 h4 hle h5 h6
theorem item_err (b f : Nat) (hf : f < 5) (s : ByteArray) (hs : s.size ≤ 1000000) (l : List UInt8) (z : Nat) (c : Int) (w : World) (h : Live w b s l) (hp : cItem f l = .error (z, c)) :
    Calls Tryz.prog 52 #[rdV b f] w (RetDIt b s (placeI s z) c w) := by
  unfold cItem at hp
  cases h1 : pIs [42] l with
  | some l1 =>
    rw [h1] at hp
    simp only [cBy] at hp
    cases h2 : pIs [47] l1 with
    | none => rw [h2] at hp; cases hp
    | some l2 =>
      rw [h2] at hp
      dsimp only at hp
      cases h3 : cStep l2 with
      | error e =>
        rw [h3] at hp
        cases hp
        exact item_star3 b f hf s hs l l1 l2 _ _ w h h1 h2 h3
      | ok x => obtain ⟨n, r'⟩ := x; rw [h3] at hp; cases hp
  | none =>
    rw [h1] at hp
    dsimp only at hp
    cases h2 : cNum f l with
    | error e =>
      rw [h2] at hp
      cases hp
      exact item_one_err b f hf s hs l _ _ w h h1 h2
    | ok x =>
      obtain ⟨n, l1⟩ := x
      rw [h2] at hp
      dsimp only at hp
      cases h3 : pIs [45] l1 with
      | none => rw [h3] at hp; cases hp
      | some l2 =>
        rw [h3] at hp
        dsimp only at hp
        cases h4 : cNum f l2 with
        | error e =>
          rw [h4] at hp
          cases hp
          exact item_rng_err b f hf s hs l l1 l2 n _ _ w h h1 h2 h3 h4
        | ok x =>
          obtain ⟨m, l3⟩ := x
          rw [h4] at hp
          dsimp only at hp
          split at hp
          · rename_i hlt
            cases hp
            exact item_rng_less b f hf s hs l l1 l2 l3 n m w h h1 h2 h3 h4 hlt
          · rename_i hle
            unfold cBy at hp
            cases h5 : pIs [47] l3 with
            | none => rw [h5] at hp; cases hp
            | some l4 =>
              rw [h5] at hp
              dsimp only at hp
              cases h6 : cStep l4 with
              | error e =>
                rw [h6] at hp
                cases hp
                exact item_rng2_err b f hf s hs l l1 l2 l3 l4 n m _ _ w h h1 h2 h3 h4 hle h5 h6
              | ok x => obtain ⟨q, r'⟩ := x; rw [h6] at hp; cases hp

/-- It hands back a slice of items of its own. -/
def RetLs (L : List It) (b : Nat) (s : ByteArray) (r : List UInt8) (w : World) (x : Ending) (w' : World) : Prop := ∃ v, x = .returned v ∧ OwnIts w' w.heap.size v L ∧ Live w' b s r ∧ Chg b w w'
def RetDLs (b : Nat) (s : ByteArray) (a c : Int) (w : World) (x : Ending) (w' : World) : Prop := ∃ v L, x = .returned v ∧ OwnIts w' w.heap.size v L ∧ Dead w' b s a c ∧ Chg b w w'
section
variable {w w' wr : World} {b : Nat} {s : ByteArray} {l : List UInt8} {a c : Int}
theorem Live.grown {row : Option Nat} (h : Live w b s l) (hg : w.grownBy w' row) (hrow : row ≠ some b) : Live w' b s l := by
  obtain ⟨k, hk, hl, hr⟩ := h
  exact ⟨k, hk, hl, (hg.block b hr.lt (Ne.symm hrow)).trans hr⟩
theorem Dead.grown {row : Option Nat} (h : Dead w b s a c) (hg : w.grownBy w' row) (hrow : row ≠ some b) : Dead w' b s a c := by
  obtain ⟨he, k, hk, hr⟩ := h
  exact ⟨he, k, hk, (hg.block b hr.lt (Ne.symm hrow)).trans hr⟩
theorem Box.grown {B : Nat} {f : Int} {row : Option Nat} (h : Box w B b f) (hg : w.grownBy w' row) (hrow : row ≠ some B) : Box w' B b f :=
  ⟨hg.cell h.1 (Ne.symm hrow), hg.cell h.2 (Ne.symm hrow)⟩
end

set_option maxRecDepth 20000 in
set_option maxHeartbeats 1000000 in
theorem list_dead (b f : Nat) (hf : f < 5) (s : ByteArray) (hs : s.size ≤ 1000000) (a c : Int) (w : World) (h : Dead w b s a c) :
    Calls Tryz.prog 51 #[rdV b f, .func (.func 52) #[rdV b f] #[]] w (RetDLs b s a c w) := by
  have hs9 : s.size ≤ 9223372036854775807 := by omega
  have hlt := h.lt
  have hne : w.heap.size ≠ b := by omega
  have H := Lib.hid h
  have HI := Lib.hid (fun W (h : Dead W b s a c) => item_dead b f hf s hs a c W h)
  obtain ⟨i0, hi0, hz0, hz1, hz2⟩ := info_parts info_it
  have HI0 := Lib.hid hi0
  have HZ0 := Lib.hid hz0
  have HZ1 := Lib.hid hz1
  have HZ2 := Lib.hid hz2
  clear hi0 hz0 hz1 hz2
  clear h
  go_enter Tryz.func51, Tryz.ntmps51
  go_wp2
  go_step3
  go_wp2
  go_step3
  go_wp2
  go_loopg [5] 0 (fun gg v wr => ∃ (vo : Value) (acc : List It), vo = v ∧ acc.length ≤ 64 ∧ Hid (OwnIts wr (w.heap.size + 1) vo acc) ∧ Hid (Dead wr b s a c) ∧ Hid (Box wr w.heap.size b (f : Int)) ∧ Hid (Chg b w wr))
  case atStart => exact ⟨_, [], rfl, by simp, World.ownsRow_nil _ _ _ _, H.out.alloc _, box_new _ _ _ _, (Chg.refl b w).alloc _⟩
  case round =>
    obtain ⟨vo, acc, rfl, hal, HO, HD, HB, HC⟩ := hrel
    have hlt : b < w.heap.size + 1 := by omega
    go_wp2_with fail
    refine (HI.out _ HD.out).mono ?_
    rintro e w2 ⟨i, rfl, h2, g2⟩
    have HO2 := Lib.hid (own_chg HO.out g2 hlt)
    have HB2 := Lib.hid (HB.out.chg g2 hne)
    have hgA := HC.out.trans g2
    have hz2 := hgA.size
    have hi0 := HI0.out
    have hz0 := HZ0.out
    have hz1 := HZ1.out
    have hzz2 := HZ2.out
    go_wp2_with (at_builtin; refine wpList_append_own _ rfl _ _ 22 rfl (w.heap.size + 1) 60 i0 _ 4 32 Tryz.underlying22 hi0 hz0 hz1 hzz2 rfl (by decide) _ acc.length _ rfl (HO2.out.alloc _) ⟨w2.heap.size, 0, none⟩ 1 1 [.int .i64 i.k, .int .i64 i.f, .int .i64 i.t, .int .i64 i.s] rfl rfl ?c1 ?c2 ?c3 ?c4 ?c5 ?c6)
    case c1 =>
      intro j u hu
      rcases j with _ | _ | _ | _ | j
      · simp at hu; subst hu
        exact cell_new rfl rfl
      · simp at hu; subst hu
        exact cell_new rfl rfl
      · simp at hu; subst hu
        exact cell_new rfl rfl
      · simp at hu; subst hu
        exact cell_new rfl rfl
      · simp at hu
    case c2 => intro u hu; simp at hu; rcases hu with rfl | rfl | rfl | rfl <;> rfl
    case c3 => simp only [maxLen]; omega
    case c4 => omega
    case c5 => simp; omega
    case c6 =>
      intro v' w3 hown hg _
      have HV : Hid (OwnIts w3 (w.heap.size + 1) v' (acc ++ [i])) := by
        show World.ownsRow _ _ _ _ _ _ _
        rw [List.length_append, List.flatMap_append, List.flatMap_singleton]
        exact hown
      have hob1 : ∀ k, vo.ownBlock = some k → w.heap.size + 1 ≤ k := own_ge HO.out
      have hob : ∀ k, vo.ownBlock = some k → w.heap.size ≤ k := fun k hk => by have := hob1 k hk; omega
      have hobn : vo.ownBlock ≠ some b := fun e => by have := hob b e; omega
      have hobB : vo.ownBlock ≠ some w.heap.size := fun e => by have := hob1 _ e; omega
      have h3 := (h2.alloc (.cells #[.int .i64 i.k, .int .i64 i.f, .int .i64 i.t, .int .i64 i.s] 60)).grown hg hobn
      have HB3 := Lib.hid ((HB2.out.alloc _).grown hg hobB)
      have hgB := (hgA.alloc _).grown hg hob
      have HLn : Hid ((acc ++ [i]).length = acc.length + 1) := by show _ = _; simp
      have hpos : 0 < (acc ++ [i]).length := by simp
      clear hown hg hi0 hz0 hz1 hzz2 h2 g2 HO2 HB2 hob hob1 hobn hobB
      obtain ⟨g, cap, rfl, hgb, hgl⟩ : ∃ g cap, v' = .slice (some ⟨g, 0, none⟩) (acc ++ [i]).length cap ∧ w.heap.size + 1 ≤ g ∧ g < w3.heap.size := by
        rcases own_some HV.out with ⟨_, h0⟩ | h1
        · omega
        · exact h1
      obtain ⟨acc1, hacc⟩ : ∃ x, x = acc ++ [i] := ⟨_, rfl⟩
      rw [← hacc] at HV HLn ⊢
      have HAcc := Lib.hid hacc
      rw [HLn.out]
      clear hpos hacc
      obtain ⟨c0, c1⟩ := HB3.out
      have hz3 := hgB.size
      go_wp2_with fail
      refine (at_dead h3).mono ?_
      rintro e w4 ⟨p, hp, rfl, h4, g4⟩
      have hgC := hgB.trans g4
      have HB4 := Lib.hid (HB3.out.chg g4 hne)
      have HV4 := Lib.hid (own_chg HV.out g4 hlt)
      clear c0 c1
      obtain ⟨c0, c1⟩ := HB4.out
      go_wp2_with fail
      refine (is_dead hs9 (h4.alloc _) (rdB1 (c := 44) (cell_new (by simp) rfl)) (by decide)).mono ?_
      rintro e w5 ⟨rfl, h5, g5⟩
      have hgD := (hgC.alloc _).trans g5
      have HV5 := Lib.hid (own_chg (HV4.out.alloc _) g5 hlt)
      go_wp2
      rw [Exit.noGoto_ret]
      go_ret
      exact ⟨.slice (some ⟨g, 0, none⟩) acc1.length cap, acc1, by rw [HLn.out]; rfl, own_base HV5.out (by omega), h5, hgD⟩

theorem cItems_step {f q : Nat} {l : List UInt8} : cItems f q l = (match cItem f l with
    | .error e => .error e
    | .ok (i, l1) => match pIs [44] l1 with
      | none => .ok ([i], l1)
      | some l2 => match q with
        | 0 => .error (l1.length, 5)
        | q + 1 => match cItems f q l2 with
          | .error e => .error e
          | .ok (is, l3) => .ok (i :: is, l3)) := by
  cases q <;> (rw [cItems]; rfl)
set_option maxRecDepth 20000 in
set_option maxHeartbeats 1000000 in
theorem list_ok (b f : Nat) (hf : f < 5) (s : ByteArray) (hs : s.size ≤ 1000000) (l r : List UInt8) (L : List It) (w : World) (h : Live w b s l) (hp : cItems f 63 l = .ok (L, r)) :
    Calls Tryz.prog 51 #[rdV b f, .func (.func 52) #[rdV b f] #[]] w (RetLs L b s r w) := by
  have hs9 : s.size ≤ 9223372036854775807 := by omega
  have hlt := h.lt
  have hne : w.heap.size ≠ b := by omega
  have H := Lib.hid h
  have HP := Lib.hid hp
  obtain ⟨i0, hi0, hz0, hz1, hz2⟩ := info_parts info_it
  have HI0 := Lib.hid hi0
  have HZ0 := Lib.hid hz0
  have HZ1 := Lib.hid hz1
  have HZ2 := Lib.hid hz2
  clear hi0 hz0 hz1 hz2
  clear h hp
  go_enter Tryz.func51, Tryz.ntmps51
  go_wp2
  go_step3
  go_wp2
  go_step3
  go_wp2
  go_loopg [5] 63 (fun gg v wr => ∃ (vo : Value) (acc rest : List It) (l' : List UInt8) (q0 : Nat), vo = v ∧ gg = q0 ∧ acc.length + q0 = 63 ∧ Hid (cItems f q0 l' = .ok (rest, r)) ∧ Hid (L = acc ++ rest) ∧ Hid (OwnIts wr (w.heap.size + 1) vo acc) ∧ Hid (Live wr b s l') ∧ Hid (Box wr w.heap.size b (f : Int)) ∧ Hid (Chg b w wr))
  case atStart => exact ⟨_, [], L, l, 63, rfl, rfl, rfl, HP.out, rfl, World.ownsRow_nil _ _ _ _, H.out.alloc _, box_new _ _ _ _, (Chg.refl b w).alloc _⟩
  case round =>
    obtain ⟨vo, acc, rest, l', q0, rfl, hgq, hal, HQ, HLa, HO, HD, HB, HC⟩ := hrel
    have hlt : b < w.heap.size + 1 := by omega
    have hq := HQ.out
    rw [cItems_step] at hq
    cases h1 : cItem f l' with
    | error e => rw [h1] at hq; cases hq
    | ok x =>
      obtain ⟨i, l1⟩ := x
      rw [h1] at hq
      dsimp only at hq
      have HI := Lib.hid (fun W (h : Live W b s l') => item_ok b f hf s hs l' l1 i W h h1)
      cases h2' : pIs [44] l1 with
      | none =>
        rw [h2'] at hq
        have HP2 := Lib.hid h2'
        have HE : Hid (rest = [i] ∧ l1 = r) := by cases hq; exact ⟨rfl, rfl⟩
        clear hq h1 h2'
        go_wp2_with fail
        refine (HI.out _ HD.out).mono ?_
        rintro e w2 ⟨rfl, h2, g2⟩
        have HO2 := Lib.hid (own_chg HO.out g2 hlt)
        have HB2 := Lib.hid (HB.out.chg g2 hne)
        have hgA := HC.out.trans g2
        have hz2 := hgA.size
        have hi0 := HI0.out
        have hz0 := HZ0.out
        have hz1 := HZ1.out
        have hzz2 := HZ2.out
        go_wp2_with (at_builtin; refine wpList_append_own _ rfl _ _ 22 rfl (w.heap.size + 1) 60 i0 _ 4 32 Tryz.underlying22 hi0 hz0 hz1 hzz2 rfl (by decide) _ acc.length _ rfl (HO2.out.alloc _) ⟨w2.heap.size, 0, none⟩ 1 1 [.int .i64 i.k, .int .i64 i.f, .int .i64 i.t, .int .i64 i.s] rfl rfl ?c1 ?c2 ?c3 ?c4 ?c5 ?c6)
        case c1 =>
          intro j u hu
          rcases j with _ | _ | _ | _ | j
          · simp at hu; subst hu
            exact cell_new rfl rfl
          · simp at hu; subst hu
            exact cell_new rfl rfl
          · simp at hu; subst hu
            exact cell_new rfl rfl
          · simp at hu; subst hu
            exact cell_new rfl rfl
          · simp at hu
        case c2 => intro u hu; simp at hu; rcases hu with rfl | rfl | rfl | rfl <;> rfl
        case c3 => simp only [maxLen]; omega
        case c4 => omega
        case c5 => simp; omega
        case c6 =>
          intro v' w3 hown hg _
          have HV : Hid (OwnIts w3 (w.heap.size + 1) v' (acc ++ [i])) := by
            show World.ownsRow _ _ _ _ _ _ _
            rw [List.length_append, List.flatMap_append, List.flatMap_singleton]
            exact hown
          have hob1 : ∀ k, vo.ownBlock = some k → w.heap.size + 1 ≤ k := own_ge HO.out
          have hob : ∀ k, vo.ownBlock = some k → w.heap.size ≤ k := fun k hk => by have := hob1 k hk; omega
          have hobn : vo.ownBlock ≠ some b := fun e => by have := hob b e; omega
          have hobB : vo.ownBlock ≠ some w.heap.size := fun e => by have := hob1 _ e; omega
          have h3 := (h2.alloc (.cells #[.int .i64 i.k, .int .i64 i.f, .int .i64 i.t, .int .i64 i.s] 60)).grown hg hobn
          have HB3 := Lib.hid ((HB2.out.alloc _).grown hg hobB)
          have hgB := (hgA.alloc _).grown hg hob
          have HLn : Hid ((acc ++ [i]).length = acc.length + 1) := by show _ = _; simp
          have hpos : 0 < (acc ++ [i]).length := by simp
          clear hown hg hi0 hz0 hz1 hzz2 h2 g2 HO2 HB2 hob hob1 hobn hobB
          obtain ⟨g, cap, rfl, hgb, hgl⟩ : ∃ g cap, v' = .slice (some ⟨g, 0, none⟩) (acc ++ [i]).length cap ∧ w.heap.size + 1 ≤ g ∧ g < w3.heap.size := by
            rcases own_some HV.out with ⟨_, h0⟩ | h1
            · omega
            · exact h1
          obtain ⟨acc1, hacc⟩ : ∃ x, x = acc ++ [i] := ⟨_, rfl⟩
          rw [← hacc] at HV HLn ⊢
          have HAcc := Lib.hid hacc
          rw [HLn.out]
          clear hpos hacc
          obtain ⟨c0, c1⟩ := HB3.out
          have hz3 := hgB.size
          go_wp2_with fail
          refine (at_live h3).mono ?_
          rintro e w4 ⟨rfl, h4, g4⟩
          have hgC := hgB.trans g4
          have HB4 := Lib.hid (HB3.out.chg g4 hne)
          have HV4 := Lib.hid (own_chg HV.out g4 hlt)
          clear c0 c1
          obtain ⟨c0, c1⟩ := HB4.out
          go_wp2_with fail
          refine (is_no hs9 (h4.alloc _) (rdB1 (c := 44) (cell_new (by simp) rfl)) (by decide) HP2.out).mono ?_
          rintro e w5 ⟨rfl, h5, g5⟩
          have hgD := (hgC.alloc _).trans g5
          have HV5 := Lib.hid (own_chg (HV4.out.alloc _) g5 hlt)
          go_wp2
          rw [Exit.noGoto_ret]
          go_ret
          have hL : L = acc1 := by rw [HLa.out, HE.out.1, HAcc.out]
          exact ⟨.slice (some ⟨g, 0, none⟩) acc1.length cap, by rw [HLn.out]; rfl, by rw [hL]; exact own_base HV5.out (by omega), by rw [← HE.out.2]; exact h5, hgD⟩
      | some l2 =>
        rw [h2'] at hq
        cases q0 with
        | zero => cases hq
        | succ q =>
          dsimp only at hq
          cases h3' : cItems f q l2 with
          | error e => rw [h3'] at hq; cases hq
          | ok x =>
            obtain ⟨rest', r'⟩ := x
            rw [h3'] at hq
            have HE : Hid (rest = i :: rest' ∧ r' = r) := by cases hq; exact ⟨rfl, rfl⟩
            have HP2 := Lib.hid h2'
            have HP3 := Lib.hid h3'
            have hal2 : ((acc.length : Int) + 1 == 64) = false := by simp; omega
            clear hq h1 h2' h3'
            go_wp2_with fail
            refine (HI.out _ HD.out).mono ?_
            rintro e w2 ⟨rfl, h2, g2⟩
            have HO2 := Lib.hid (own_chg HO.out g2 hlt)
            have HB2 := Lib.hid (HB.out.chg g2 hne)
            have hgA := HC.out.trans g2
            have hz2 := hgA.size
            have hi0 := HI0.out
            have hz0 := HZ0.out
            have hz1 := HZ1.out
            have hzz2 := HZ2.out
            go_wp2_with (at_builtin; refine wpList_append_own _ rfl _ _ 22 rfl (w.heap.size + 1) 60 i0 _ 4 32 Tryz.underlying22 hi0 hz0 hz1 hzz2 rfl (by decide) _ acc.length _ rfl (HO2.out.alloc _) ⟨w2.heap.size, 0, none⟩ 1 1 [.int .i64 i.k, .int .i64 i.f, .int .i64 i.t, .int .i64 i.s] rfl rfl ?c1 ?c2 ?c3 ?c4 ?c5 ?c6)
            case c1 =>
              intro j u hu
              rcases j with _ | _ | _ | _ | j
              · simp at hu; subst hu
                exact cell_new rfl rfl
              · simp at hu; subst hu
                exact cell_new rfl rfl
              · simp at hu; subst hu
                exact cell_new rfl rfl
              · simp at hu; subst hu
                exact cell_new rfl rfl
              · simp at hu
            case c2 => intro u hu; simp at hu; rcases hu with rfl | rfl | rfl | rfl <;> rfl
            case c3 => simp only [maxLen]; omega
            case c4 => omega
            case c5 => simp; omega
            case c6 =>
              intro v' w3 hown hg _
              have HV : Hid (OwnIts w3 (w.heap.size + 1) v' (acc ++ [i])) := by
                show World.ownsRow _ _ _ _ _ _ _
                rw [List.length_append, List.flatMap_append, List.flatMap_singleton]
                exact hown
              have hob1 : ∀ k, vo.ownBlock = some k → w.heap.size + 1 ≤ k := own_ge HO.out
              have hob : ∀ k, vo.ownBlock = some k → w.heap.size ≤ k := fun k hk => by have := hob1 k hk; omega
              have hobn : vo.ownBlock ≠ some b := fun e => by have := hob b e; omega
              have hobB : vo.ownBlock ≠ some w.heap.size := fun e => by have := hob1 _ e; omega
              have h3 := (h2.alloc (.cells #[.int .i64 i.k, .int .i64 i.f, .int .i64 i.t, .int .i64 i.s] 60)).grown hg hobn
              have HB3 := Lib.hid ((HB2.out.alloc _).grown hg hobB)
              have hgB := (hgA.alloc _).grown hg hob
              have HLn : Hid ((acc ++ [i]).length = acc.length + 1) := by show _ = _; simp
              have hpos : 0 < (acc ++ [i]).length := by simp
              clear hown hg hi0 hz0 hz1 hzz2 h2 g2 HO2 HB2 hob hob1 hobn hobB
              obtain ⟨g, cap, rfl, hgb, hgl⟩ : ∃ g cap, v' = .slice (some ⟨g, 0, none⟩) (acc ++ [i]).length cap ∧ w.heap.size + 1 ≤ g ∧ g < w3.heap.size := by
                rcases own_some HV.out with ⟨_, h0⟩ | h1
                · omega
                · exact h1
              obtain ⟨acc1, hacc⟩ : ∃ x, x = acc ++ [i] := ⟨_, rfl⟩
              rw [← hacc] at HV HLn ⊢
              have HAcc := Lib.hid hacc
              rw [HLn.out]
              clear hpos hacc
              obtain ⟨c0, c1⟩ := HB3.out
              have hz3 := hgB.size
              go_wp2_with fail
              refine (at_live h3).mono ?_
              rintro e w4 ⟨rfl, h4, g4⟩
              have hgC := hgB.trans g4
              have HB4 := Lib.hid (HB3.out.chg g4 hne)
              have HV4 := Lib.hid (own_chg HV.out g4 hlt)
              clear c0 c1
              obtain ⟨c0, c1⟩ := HB4.out
              go_wp2_with fail
              refine (is_yes hs9 (h4.alloc _) (rdB1 (c := 44) (cell_new (by simp) rfl)) (by decide) HP2.out).mono ?_
              rintro e w5 ⟨rfl, h5, g5⟩
              have hgD := (hgC.alloc _).trans g5
              have HB5 := Lib.hid ((HB4.out.alloc _).chg g5 hne)
              have HV5 := Lib.hid (own_chg (HV4.out.alloc _) g5 hlt)
              go_wp2
              go_roundg q
              case measure => omega
              case rel =>
                exact ⟨.slice (some ⟨g, 0, none⟩) acc1.length cap, acc1, rest', l2, q, by rw [HLn.out], rfl, by rw [HLn.out]; omega, by rw [← HE.out.2]; exact HP3.out, by show _ = _; rw [HLa.out, HE.out.1, HAcc.out]; simp, HV5.out, h5, HB5.out, hgD⟩
end Go.Proofs.YtochhmkdhdadhaaGreatDoor

/- A reader's list at which something is wrong; the blanks between two fields. -/
namespace Go.Proofs.YtochhmkdhdadhaaGreatDoor
open Go.RowKit
set_option linter.unusedSimpArgs false
set_option linter.unusedVariables false

set_option maxRecDepth 20000 in
set_option maxHeartbeats 1000000 in
theorem list_err (b f : Nat) (hf : f < 5) (s : ByteArray) (hs : s.size ≤ 1000000) (l : List UInt8) (m : Nat) (c : Int) (w : World) (h : Live w b s l) (hp : cItems f 63 l = .error (m, c)) :
    Calls Tryz.prog 51 #[rdV b f, .func (.func 52) #[rdV b f] #[]] w (RetDLs b s (placeI s m) c w) := by
  have hs9 : s.size ≤ 9223372036854775807 := by omega
  have hlt := h.lt
  have hne : w.heap.size ≠ b := by omega
  have H := Lib.hid h
  have HP := Lib.hid hp
  obtain ⟨i0, hi0, hz0, hz1, hz2⟩ := info_parts info_it
  have HI0 := Lib.hid hi0
  have HZ0 := Lib.hid hz0
  have HZ1 := Lib.hid hz1
  have HZ2 := Lib.hid hz2
  clear hi0 hz0 hz1 hz2
  clear h hp
  go_enter Tryz.func51, Tryz.ntmps51
  go_wp2
  go_step3
  go_wp2
  go_step3
  go_wp2
  go_loopg [5] 63 (fun gg v wr => ∃ (vo : Value) (acc : List It) (l' : List UInt8) (q0 : Nat), vo = v ∧ gg = q0 ∧ acc.length + q0 = 63 ∧ Hid (cItems f q0 l' = .error (m, c)) ∧ Hid (OwnIts wr (w.heap.size + 1) vo acc) ∧ Hid (Live wr b s l') ∧ Hid (Box wr w.heap.size b (f : Int)) ∧ Hid (Chg b w wr))
  case atStart => exact ⟨_, [], l, 63, rfl, rfl, rfl, HP.out, World.ownsRow_nil _ _ _ _, H.out.alloc _, box_new _ _ _ _, (Chg.refl b w).alloc _⟩
  case round =>
    obtain ⟨vo, acc, l', q0, rfl, hgq, hal, HQ, HO, HD, HB, HC⟩ := hrel
    have hlt : b < w.heap.size + 1 := by omega
    have hq := HQ.out
    rw [cItems_step] at hq
    cases h1 : cItem f l' with
    | error e =>
      obtain ⟨m', c'⟩ := e
      rw [h1] at hq
      have HE : Hid (m' = m ∧ c' = c) := by cases hq; exact ⟨rfl, rfl⟩
      have HI := Lib.hid (fun W (h : Live W b s l') => item_err b f hf s hs l' m' c' W h h1)
      clear hq h1
      go_wp2_with fail
      refine (HI.out _ HD.out).mono ?_
      rintro e w2 ⟨i, rfl, h2, g2⟩
      have HO2 := Lib.hid (own_chg HO.out g2 hlt)
      have HB2 := Lib.hid (HB.out.chg g2 hne)
      have hgA := HC.out.trans g2
      have hz2 := hgA.size
      have hi0 := HI0.out
      have hz0 := HZ0.out
      have hz1 := HZ1.out
      have hzz2 := HZ2.out
      go_wp2_with (at_builtin; refine wpList_append_own _ rfl _ _ 22 rfl (w.heap.size + 1) 60 i0 _ 4 32 Tryz.underlying22 hi0 hz0 hz1 hzz2 rfl (by decide) _ acc.length _ rfl (HO2.out.alloc _) ⟨w2.heap.size, 0, none⟩ 1 1 [.int .i64 i.k, .int .i64 i.f, .int .i64 i.t, .int .i64 i.s] rfl rfl ?c1 ?c2 ?c3 ?c4 ?c5 ?c6)
      case c1 =>
        intro j u hu
        rcases j with _ | _ | _ | _ | j
        · simp at hu; subst hu
          exact cell_new rfl rfl
        · simp at hu; subst hu
          exact cell_new rfl rfl
        · simp at hu; subst hu
          exact cell_new rfl rfl
        · simp at hu; subst hu
          exact cell_new rfl rfl
        · simp at hu
      case c2 => intro u hu; simp at hu; rcases hu with rfl | rfl | rfl | rfl <;> rfl
      case c3 => simp only [maxLen]; omega
      case c4 => omega
      case c5 => simp; omega
      case c6 =>
        intro v' w3 hown hg _
        have HV : Hid (OwnIts w3 (w.heap.size + 1) v' (acc ++ [i])) := by
          show World.ownsRow _ _ _ _ _ _ _
          rw [List.length_append, List.flatMap_append, List.flatMap_singleton]
          exact hown
        have hob1 : ∀ k, vo.ownBlock = some k → w.heap.size + 1 ≤ k := own_ge HO.out
        have hob : ∀ k, vo.ownBlock = some k → w.heap.size ≤ k := fun k hk => by have := hob1 k hk; omega
        have hobn : vo.ownBlock ≠ some b := fun e => by have := hob b e; omega
        have hobB : vo.ownBlock ≠ some w.heap.size := fun e => by have := hob1 _ e; omega
        have h3 := (h2.alloc (.cells #[.int .i64 i.k, .int .i64 i.f, .int .i64 i.t, .int .i64 i.s] 60)).grown hg hobn
        have HB3 := Lib.hid ((HB2.out.alloc _).grown hg hobB)
        have hgB := (hgA.alloc _).grown hg hob
        have HLn : Hid ((acc ++ [i]).length = acc.length + 1) := by show _ = _; simp
        have hpos : 0 < (acc ++ [i]).length := by simp
        clear hown hg hi0 hz0 hz1 hzz2 h2 g2 HO2 HB2 hob hob1 hobn hobB
        obtain ⟨g, cap, rfl, hgb, hgl⟩ : ∃ g cap, v' = .slice (some ⟨g, 0, none⟩) (acc ++ [i]).length cap ∧ w.heap.size + 1 ≤ g ∧ g < w3.heap.size := by
          rcases own_some HV.out with ⟨_, h0⟩ | h1
          · omega
          · exact h1
        obtain ⟨acc1, hacc⟩ : ∃ x, x = acc ++ [i] := ⟨_, rfl⟩
        rw [← hacc] at HV HLn ⊢
        have HAcc := Lib.hid hacc
        rw [HLn.out]
        clear hpos hacc
        obtain ⟨c0, c1⟩ := HB3.out
        have hz3 := hgB.size
        go_wp2_with fail
        refine (at_dead h3).mono ?_
        rintro e w4 ⟨p, hp, rfl, h4, g4⟩
        have hgC := hgB.trans g4
        have HB4 := Lib.hid (HB3.out.chg g4 hne)
        have HV4 := Lib.hid (own_chg HV.out g4 hlt)
        clear c0 c1
        obtain ⟨c0, c1⟩ := HB4.out
        go_wp2_with fail
        refine (is_dead hs9 (h4.alloc _) (rdB1 (c := 44) (cell_new (by simp) rfl)) (by decide)).mono ?_
        rintro e w5 ⟨rfl, h5, g5⟩
        have hgD := (hgC.alloc _).trans g5
        have HV5 := Lib.hid (own_chg (HV4.out.alloc _) g5 hlt)
        go_wp2
        rw [Exit.noGoto_ret]
        go_ret
        exact ⟨.slice (some ⟨g, 0, none⟩) acc1.length cap, acc1, by rw [HLn.out]; rfl, own_base HV5.out (by omega), by rw [← HE.out.1, ← HE.out.2]; exact h5, hgD⟩
    | ok x =>
      obtain ⟨i, l1⟩ := x
      rw [h1] at hq
      dsimp only at hq
      have HI := Lib.hid (fun W (h : Live W b s l') => item_ok b f hf s hs l' l1 i W h h1)
      cases h2' : pIs [44] l1 with
      | none => rw [h2'] at hq; cases hq
      | some l2 =>
        rw [h2'] at hq
        have HP2 := Lib.hid h2'
        cases q0 with
        | zero =>
          have HE : Hid (m = l1.length ∧ c = 5) := by cases hq; exact ⟨rfl, rfl⟩
          have hal2 : ((acc.length : Int) + 1 == 64) = true := by simp; omega
          clear hq h1 h2'
          go_wp2_with fail
          refine (HI.out _ HD.out).mono ?_
          rintro e w2 ⟨rfl, h2, g2⟩
          have HO2 := Lib.hid (own_chg HO.out g2 hlt)
          have HB2 := Lib.hid (HB.out.chg g2 hne)
          have hgA := HC.out.trans g2
          have hz2 := hgA.size
          have hi0 := HI0.out
          have hz0 := HZ0.out
          have hz1 := HZ1.out
          have hzz2 := HZ2.out
          go_wp2_with (at_builtin; refine wpList_append_own _ rfl _ _ 22 rfl (w.heap.size + 1) 60 i0 _ 4 32 Tryz.underlying22 hi0 hz0 hz1 hzz2 rfl (by decide) _ acc.length _ rfl (HO2.out.alloc _) ⟨w2.heap.size, 0, none⟩ 1 1 [.int .i64 i.k, .int .i64 i.f, .int .i64 i.t, .int .i64 i.s] rfl rfl ?c1 ?c2 ?c3 ?c4 ?c5 ?c6)
          case c1 =>
            intro j u hu
            rcases j with _ | _ | _ | _ | j
            · simp at hu; subst hu
              exact cell_new rfl rfl
            · simp at hu; subst hu
              exact cell_new rfl rfl
            · simp at hu; subst hu
              exact cell_new rfl rfl
            · simp at hu; subst hu
              exact cell_new rfl rfl
            · simp at hu
          case c2 => intro u hu; simp at hu; rcases hu with rfl | rfl | rfl | rfl <;> rfl
          case c3 => simp only [maxLen]; omega
          case c4 => omega
          case c5 => simp; omega
          case c6 =>
            intro v' w3 hown hg _
            have HV : Hid (OwnIts w3 (w.heap.size + 1) v' (acc ++ [i])) := by
              show World.ownsRow _ _ _ _ _ _ _
              rw [List.length_append, List.flatMap_append, List.flatMap_singleton]
              exact hown
            have hob1 : ∀ k, vo.ownBlock = some k → w.heap.size + 1 ≤ k := own_ge HO.out
            have hob : ∀ k, vo.ownBlock = some k → w.heap.size ≤ k := fun k hk => by have := hob1 k hk; omega
            have hobn : vo.ownBlock ≠ some b := fun e => by have := hob b e; omega
            have hobB : vo.ownBlock ≠ some w.heap.size := fun e => by have := hob1 _ e; omega
            have h3 := (h2.alloc (.cells #[.int .i64 i.k, .int .i64 i.f, .int .i64 i.t, .int .i64 i.s] 60)).grown hg hobn
            have HB3 := Lib.hid ((HB2.out.alloc _).grown hg hobB)
            have hgB := (hgA.alloc _).grown hg hob
            have HLn : Hid ((acc ++ [i]).length = acc.length + 1) := by show _ = _; simp
            have hpos : 0 < (acc ++ [i]).length := by simp
            clear hown hg hi0 hz0 hz1 hzz2 h2 g2 HO2 HB2 hob hob1 hobn hobB
            obtain ⟨g, cap, rfl, hgb, hgl⟩ : ∃ g cap, v' = .slice (some ⟨g, 0, none⟩) (acc ++ [i]).length cap ∧ w.heap.size + 1 ≤ g ∧ g < w3.heap.size := by
              rcases own_some HV.out with ⟨_, h0⟩ | h1
              · omega
              · exact h1
            obtain ⟨acc1, hacc⟩ : ∃ x, x = acc ++ [i] := ⟨_, rfl⟩
            rw [← hacc] at HV HLn ⊢
            have HAcc := Lib.hid hacc
            rw [HLn.out]
            clear hpos hacc
            obtain ⟨c0, c1⟩ := HB3.out
            have hz3 := hgB.size
            go_wp2_with fail
            refine (at_live h3).mono ?_
            rintro e w4 ⟨rfl, h4, g4⟩
            have hgC := hgB.trans g4
            have HB4 := Lib.hid (HB3.out.chg g4 hne)
            have HV4 := Lib.hid (own_chg HV.out g4 hlt)
            clear c0 c1
            obtain ⟨c0, c1⟩ := HB4.out
            go_wp2_with fail
            refine (is_yes hs9 (h4.alloc _) (rdB1 (c := 44) (cell_new (by simp) rfl)) (by decide) HP2.out).mono ?_
            rintro e w5 ⟨rfl, h5, g5⟩
            have hgD := (hgC.alloc _).trans g5
            have HB5 := Lib.hid ((HB4.out.alloc _).chg g5 hne)
            have HV5 := Lib.hid (own_chg (HV4.out.alloc _) g5 hlt)
            clear c0 c1
            obtain ⟨c0, c1⟩ := HB5.out
            go_wp2_with fail
            refine (fail_live (placeI s l1.length) 5 (by decide) h5).mono ?_
            rintro e w6 ⟨rfl, h6, g6⟩
            have HV6 := Lib.hid (own_chg HV5.out g6 hlt)
            have hgE := hgD.trans g6
            go_wp2
            rw [Exit.noGoto_ret]
            go_ret
            exact ⟨.slice (some ⟨g, 0, none⟩) acc1.length cap, acc1, by rw [HLn.out]; rfl, own_base HV6.out (by omega), by rw [HE.out.1, HE.out.2]; exact h6, hgE⟩
        | succ q =>
          dsimp only at hq
          cases h3' : cItems f q l2 with
          | ok x => obtain ⟨r1, r2⟩ := x; rw [h3'] at hq; cases hq
          | error e =>
            rw [h3'] at hq
            have HP3 : Hid (cItems f q l2 = .error (m, c)) := by cases hq; exact h3'
            have hal2 : ((acc.length : Int) + 1 == 64) = false := by simp; omega
            clear hq h1 h2' h3'
            go_wp2_with fail
            refine (HI.out _ HD.out).mono ?_
            rintro e w2 ⟨rfl, h2, g2⟩
            have HO2 := Lib.hid (own_chg HO.out g2 hlt)
            have HB2 := Lib.hid (HB.out.chg g2 hne)
            have hgA := HC.out.trans g2
            have hz2 := hgA.size
            have hi0 := HI0.out
            have hz0 := HZ0.out
            have hz1 := HZ1.out
            have hzz2 := HZ2.out
            go_wp2_with (at_builtin; refine wpList_append_own _ rfl _ _ 22 rfl (w.heap.size + 1) 60 i0 _ 4 32 Tryz.underlying22 hi0 hz0 hz1 hzz2 rfl (by decide) _ acc.length _ rfl (HO2.out.alloc _) ⟨w2.heap.size, 0, none⟩ 1 1 [.int .i64 i.k, .int .i64 i.f, .int .i64 i.t, .int .i64 i.s] rfl rfl ?c1 ?c2 ?c3 ?c4 ?c5 ?c6)
            case c1 =>
              intro j u hu
              rcases j with _ | _ | _ | _ | j
              · simp at hu; subst hu
                exact cell_new rfl rfl
              · simp at hu; subst hu
                exact cell_new rfl rfl
              · simp at hu; subst hu
                exact cell_new rfl rfl
              · simp at hu; subst hu
                exact cell_new rfl rfl
              · simp at hu
            case c2 => intro u hu; simp at hu; rcases hu with rfl | rfl | rfl | rfl <;> rfl
            case c3 => simp only [maxLen]; omega
            case c4 => omega
            case c5 => simp; omega
            case c6 =>
              intro v' w3 hown hg _
              have HV : Hid (OwnIts w3 (w.heap.size + 1) v' (acc ++ [i])) := by
                show World.ownsRow _ _ _ _ _ _ _
                rw [List.length_append, List.flatMap_append, List.flatMap_singleton]
                exact hown
              have hob1 : ∀ k, vo.ownBlock = some k → w.heap.size + 1 ≤ k := own_ge HO.out
              have hob : ∀ k, vo.ownBlock = some k → w.heap.size ≤ k := fun k hk => by have := hob1 k hk; omega
              have hobn : vo.ownBlock ≠ some b := fun e => by have := hob b e; omega
              have hobB : vo.ownBlock ≠ some w.heap.size := fun e => by have := hob1 _ e; omega
              have h3 := (h2.alloc (.cells #[.int .i64 i.k, .int .i64 i.f, .int .i64 i.t, .int .i64 i.s] 60)).grown hg hobn
              have HB3 := Lib.hid ((HB2.out.alloc _).grown hg hobB)
              have hgB := (hgA.alloc _).grown hg hob
              have HLn : Hid ((acc ++ [i]).length = acc.length + 1) := by show _ = _; simp
              have hpos : 0 < (acc ++ [i]).length := by simp
              clear hown hg hi0 hz0 hz1 hzz2 h2 g2 HO2 HB2 hob hob1 hobn hobB
              obtain ⟨g, cap, rfl, hgb, hgl⟩ : ∃ g cap, v' = .slice (some ⟨g, 0, none⟩) (acc ++ [i]).length cap ∧ w.heap.size + 1 ≤ g ∧ g < w3.heap.size := by
                rcases own_some HV.out with ⟨_, h0⟩ | h1
                · omega
                · exact h1
              obtain ⟨acc1, hacc⟩ : ∃ x, x = acc ++ [i] := ⟨_, rfl⟩
              rw [← hacc] at HV HLn ⊢
              have HAcc := Lib.hid hacc
              rw [HLn.out]
              clear hpos hacc
              obtain ⟨c0, c1⟩ := HB3.out
              have hz3 := hgB.size
              go_wp2_with fail
              refine (at_live h3).mono ?_
              rintro e w4 ⟨rfl, h4, g4⟩
              have hgC := hgB.trans g4
              have HB4 := Lib.hid (HB3.out.chg g4 hne)
              have HV4 := Lib.hid (own_chg HV.out g4 hlt)
              clear c0 c1
              obtain ⟨c0, c1⟩ := HB4.out
              go_wp2_with fail
              refine (is_yes hs9 (h4.alloc _) (rdB1 (c := 44) (cell_new (by simp) rfl)) (by decide) HP2.out).mono ?_
              rintro e w5 ⟨rfl, h5, g5⟩
              have hgD := (hgC.alloc _).trans g5
              have HB5 := Lib.hid ((HB4.out.alloc _).chg g5 hne)
              have HV5 := Lib.hid (own_chg (HV4.out.alloc _) g5 hlt)
              go_wp2
              go_roundg q
              case measure => omega
              case rel =>
                exact ⟨.slice (some ⟨g, 0, none⟩) acc1.length cap, acc1, l2, q, by rw [HLn.out], rfl, by rw [HLn.out]; omega, HP3.out, HV5.out, h5, HB5.out, hgD⟩

section
variable (b : Nat) (s : ByteArray) (hs : s.size ≤ 9223372036854775807) (l : List UInt8) (w : World)
include hs
theorem between_ok (h : Live w b s l) (hp : l.takeWhile blankP ≠ []) : Calls Tryz.prog 53 #[.pointer (some ⟨b, 0, none⟩)] w (RetL (.tuple #[]) b s (l.dropWhile blankP) w) := by
  have HB := Lib.hid (blanks_live hs h)
  have hn : (((l.takeWhile blankP).length : Int) == 0) = false := by
    have : (l.takeWhile blankP).length ≠ 0 := fun e => hp (List.length_eq_zero_iff.1 e)
    simp; exact hp
  generalize (l.takeWhile blankP).length = q at HB hn
  clear h hp
  go_enter Tryz.func53, Tryz.ntmps53
  go_wp2_with fail
  refine HB.out.mono ?_
  rintro e w1 ⟨rfl, h1, g1⟩
  go_wp2
  first | go_end0 | (refine bodyPost_ret (results_none rfl _ _ _) rfl ?_)
  exact ⟨rfl, h1, g1⟩
theorem between_err (h : Live w b s l) (hp : l.takeWhile blankP = []) : Calls Tryz.prog 53 #[.pointer (some ⟨b, 0, none⟩)] w (RetD (.tuple #[]) b s (placeI s l.length) (pLack l) w) := by
  have HB := Lib.hid (blanks_live hs h)
  have hd : l.dropWhile blankP = l := by
    have := List.takeWhile_append_dropWhile (p := blankP) (l := l)
    rw [hp, List.nil_append] at this; exact this
  have hm : pIs [32] l = none := by
    cases l with
    | nil => rfl
    | cons c l =>
      have : blankP c = false := by
        cases hc : blankP c with
        | false => rfl
        | true => rw [List.takeWhile_cons, if_pos hc] at hp; cases hp
      unfold pIs
      have h2 : [32].elem c = false := by
        have : c ≠ 32 := by rintro rfl; simp [blankP] at this
        simpa using this
      show (if [32].elem c = true then some l else none) = none
      rw [h2]; rfl
  rw [hp, hd] at HB
  have HM := Lib.hid hm
  clear h hp hd hm
  go_enter Tryz.func53, Tryz.ntmps53
  go_wp2_with fail
  refine HB.out.mono ?_
  rintro e w1 ⟨rfl, h1, g1⟩
  go_wp2_with fail
  refine (must_no hs (h1.alloc _) (rdB1 (c := 32) (cell_new (by simp) rfl)) (by decide) HM.out).mono ?_
  rintro e w2 ⟨rfl, h2, g2⟩
  go_wp2
  first | go_end0 | (refine bodyPost_ret (results_none rfl _ _ _) rfl ?_)
  exact ⟨rfl, h2, (g1.alloc _).trans g2⟩
theorem between_dead (a c : Int) (h : Dead w b s a c) : Calls Tryz.prog 53 #[.pointer (some ⟨b, 0, none⟩)] w (RetD (.tuple #[]) b s a c w) := by
  have HB := Lib.hid (blanks_dead hs h)
  clear h
  go_enter Tryz.func53, Tryz.ntmps53
  go_wp2_with fail
  refine HB.out.mono ?_
  rintro e w1 ⟨rfl, h1, g1⟩
  go_wp2_with fail
  refine (must_dead hs (h1.alloc _) (rdB1 (c := 32) (cell_new (by simp) rfl)) (by decide)).mono ?_
  rintro e w2 ⟨rfl, h2, g2⟩
  go_wp2
  first | go_end0 | (refine bodyPost_ret (results_none rfl _ _ _) rfl ?_)
  exact ⟨rfl, h2, (g1.alloc _).trans g2⟩
end
end Go.Proofs.YtochhmkdhdadhaaGreatDoor

namespace Go.Proofs.YtochhmkdhdadhaaGreatDoor
open Go.RowKit
set_option linter.unusedSimpArgs false
set_option linter.unusedVariables false

/-- What comes of the fields from k on. -/
def contR (s : ByteArray) (acc : List (List It)) (q k : Nat) (l : List UInt8) : Except (Int × Int) (List (List It)) := match cFields q k l with
  | .error (m, c) => .error (placeI s m, c)
  | .ok (rest, l1) => if l1.dropWhile blankP = [] then .ok (acc ++ rest) else .error (placeI s (l1.dropWhile blankP).length, 3)
def outR (s : ByteArray) : Except (Int × Int) (List (List It)) :=
  if 8192 < s.size then .error (8192, 5) else if headB (· == 64) (s.data.toList.dropWhile blankP) = true then .error (placeI s (s.data.toList.dropWhile blankP).length, 13) else contR s [] 5 0 (s.data.toList.dropWhile blankP)
theorem outR_eq (s : ByteArray) : outR s = (match cRead s.data.toList with | .error (m, c) => .error (placeI s m, c) | .ok (x, _) => .ok x) := by
  unfold outR cRead
  rw [len_data]
  by_cases h1 : 8192 < s.size
  · rw [if_pos h1, if_pos h1]
    dsimp only
    unfold placeI
    rw [show ((s.size - (s.size - 8192) : Nat) : Int) = 8192 from by omega]
  · rw [if_neg h1, if_neg h1]
    split
    · rfl
    · unfold contR cTail
      cases cFields 5 0 (List.dropWhile blankP s.data.toList) with
      | error e => rfl
      | ok x =>
        obtain ⟨r, l1⟩ := x
        dsimp only
        split <;> rfl
/-- How the reading stands: nothing is wrong and this comes of what is left; or it is wrong. -/
def RState (w : World) (b : Nat) (s : ByteArray) (acc : List (List It)) (k : Nat) (O : Except (Int × Int) (List (List It))) : Prop :=
  (∃ l, Live w b s l ∧ contR s acc (5 - k) k l = O) ∨ ∃ a c, Dead w b s a c ∧ O = .error (a, c)
theorem RState.below {w w' : World} {b k : Nat} {s : ByteArray} {acc : List (List It)} {O : Except (Int × Int) (List (List It))} (h : RState w b s acc k O) (hb : Below w.heap.size w w') : RState w' b s acc k O := by
  rcases h with ⟨l, h1, h2⟩ | ⟨a, c, h1, h2⟩
  · exact .inl ⟨l, h1.below hb, h2⟩
  · exact .inr ⟨a, c, h1.below hb, h2⟩
theorem RState.set {w : World} {b k B o : Nat} {s : ByteArray} {acc : List (List It)} {O : Except (Int × Int) (List (List It))} (h : RState w b s acc k O) (hB : B ≠ b) (v : Value) : RState (w.setCell ⟨B, o, none⟩ v) b s acc k O := by
  rcases h with ⟨l, h1, h2⟩ | ⟨a, c, h1, h2⟩
  · exact .inl ⟨l, h1.set hB v, h2⟩
  · exact .inr ⟨a, c, h1.set hB v, h2⟩
def RetDone (b : Nat) (s : ByteArray) (acc : List (List It)) (k : Nat) (O : Except (Int × Int) (List (List It))) (w : World) (x : Ending) (w' : World) : Prop := x = .returned (.tuple #[]) ∧ RState w' b s acc k O ∧ Chg b w w'
/-- The list of one field: what comes of the rest. -/
def RetField (b : Nat) (s : ByteArray) (acc : List (List It)) (k : Nat) (O : Except (Int × Int) (List (List It))) (w : World) (x : Ending) (w' : World) : Prop :=
  ∃ A n c L, x = .returned (.slice A n c) ∧ OwnIts w' w.heap.size (.slice A n c) L ∧ Chg b w w' ∧
    ((∃ l1, Live w' b s l1 ∧ (k = 4 → contR s (acc ++ [L]) 0 5 l1 = O) ∧ (k < 4 → (l1.takeWhile blankP = [] → O = .error (placeI s l1.length, pLack l1)) ∧ (l1.takeWhile blankP ≠ [] → contR s (acc ++ [L]) (4 - k) (k + 1) (l1.dropWhile blankP) = O))) ∨ ∃ a c, Dead w' b s a c ∧ O = .error (a, c))
theorem field_any (b k : Nat) (hk : k < 5) (s : ByteArray) (hs : s.size ≤ 1000000) (acc : List (List It)) (O : Except (Int × Int) (List (List It))) (w : World) (h : RState w b s acc k O) :
    Calls Tryz.prog 51 #[rdV b k, .func (.func 52) #[rdV b k] #[]] w (RetField b s acc k O w) := by
  rcases h with ⟨l, h1, h2⟩ | ⟨a, c, h1, h2⟩
  · cases hp : cItems k 63 l with
    | error e =>
      obtain ⟨m, c⟩ := e
      refine (list_err b k hk s hs l m c w h1 hp).mono ?_
      rintro x w1 ⟨v, L, rfl, hv, hd, hg⟩
      obtain ⟨A, n, cp, rfl⟩ := own_slice hv
      refine ⟨A, n, cp, L, rfl, hv, hg, .inr ⟨_, _, hd, ?_⟩⟩
      rw [← h2]
      unfold contR
      rw [show 5 - k = (4 - k) + 1 from by omega, cFields, hp]
    | ok x =>
      obtain ⟨L, l1⟩ := x
      refine (list_ok b k hk s hs l l1 L w h1 hp).mono ?_
      rintro x w1 ⟨v, rfl, hv, hd, hg⟩
      obtain ⟨A, n, cp, rfl⟩ := own_slice hv
      refine ⟨A, n, cp, L, rfl, hv, hg, .inl ⟨l1, hd, ?_, ?_⟩⟩
      · rintro rfl
        have e1 : cFields 0 5 l1 = .ok ([], l1) := by rw [cFields]
        have e2 : cFields (5 - 4) 4 l = .ok ([L], l1) := by rw [show 5 - 4 = 0 + 1 from rfl, cFields, hp]; rfl
        rw [← h2]
        unfold contR
        rw [e1, e2]
        simp
      · intro hk4
        refine ⟨fun he => ?_, fun he => ?_⟩
        · rw [← h2]
          unfold contR
          rw [show 5 - k = (4 - k) + 1 from by omega, cFields, hp]
          dsimp only
          rw [if_neg (by omega)]
          unfold cBetween
          rw [if_pos he]
        · rw [← h2]
          unfold contR
          rw [show 5 - k = (4 - k) + 1 from by omega, cFields, hp]
          dsimp only
          rw [if_neg (by omega)]
          unfold cBetween
          rw [if_neg he]
          dsimp only
          cases cFields (4 - k) (k + 1) (l1.dropWhile blankP) with
          | error e => rfl
          | ok y => obtain ⟨r, l3⟩ := y; dsimp only; simp
  · refine (list_dead b k hk s hs a c w h1).mono ?_
    rintro x w1 ⟨v, L, rfl, hv, hd, hg⟩
    obtain ⟨A, n, cp, rfl⟩ := own_slice hv
    exact ⟨A, n, cp, L, rfl, hv, hg, .inr ⟨_, _, hd, h2⟩⟩
theorem between_any (b k : Nat) (hk : k < 4) (s : ByteArray) (hs : s.size ≤ 9223372036854775807) (acc : List (List It)) (O : Except (Int × Int) (List (List It))) (w : World)
    (h : (∃ l1, Live w b s l1 ∧ ((l1.takeWhile blankP = [] → O = .error (placeI s l1.length, pLack l1)) ∧ (l1.takeWhile blankP ≠ [] → contR s acc (4 - k) (k + 1) (l1.dropWhile blankP) = O))) ∨ ∃ a c, Dead w b s a c ∧ O = .error (a, c)) :
    Calls Tryz.prog 53 #[.pointer (some ⟨b, 0, none⟩)] w (RetDone b s acc (k + 1) O w) := by
  rcases h with ⟨l, h1, h2, h3⟩ | ⟨a, c, h1, h2⟩
  · by_cases hp : l.takeWhile blankP = []
    · refine (between_err b s hs l w h1 hp).mono ?_
      rintro x w1 ⟨rfl, hd, hg⟩
      exact ⟨rfl, .inr ⟨_, _, hd, h2 hp⟩, hg⟩
    · refine (between_ok b s hs l w h1 hp).mono ?_
      rintro x w1 ⟨rfl, hd, hg⟩
      exact ⟨rfl, .inl ⟨_, hd, by rw [show 5 - (k + 1) = 4 - k from by omega]; exact h3 hp⟩, hg⟩
  · refine (between_dead b s hs w a c h1).mono ?_
    rintro x w1 ⟨rfl, hd, hg⟩
    exact ⟨rfl, .inr ⟨_, _, hd, h2⟩, hg⟩
def upd {α : Type} (f : Nat → α) (k : Nat) (x : α) (j : Nat) : α := if j = k then x else f j
def slAt (A : Nat → Option Addr) (n c : Nat → Nat) (j : Nat) : Value := .slice (A j) (n j) (c j)

theorem slAt_upd {A : Nat → Option Addr} {n c : Nat → Nat} {k : Nat} {A' : Option Addr} {n' c' : Nat} : slAt (upd A k A') (upd n k n') (upd c k c') k = .slice A' n' c' := by simp [slAt, upd]
theorem slAt_ne {A : Nat → Option Addr} {n c : Nat → Nat} {k j : Nat} {A' : Option Addr} {n' c' : Nat} (h : j ≠ k) : slAt (upd A k A') (upd n k n') (upd c k c') j = slAt A n c j := by simp [slAt, upd, h]
theorem range_upd {α : Type} (F : Nat → α) (k : Nat) (x : α) : (List.range (k + 1)).map (upd F k x) = (List.range k).map F ++ [x] := by
  rw [List.range_succ, List.map_append]
  congr 1
  · apply List.map_congr_left
    intro j hj
    have := List.mem_range.1 hj
    unfold upd; rw [if_neg (by omega)]
  · simp [upd]
/-- What Read hands back. -/
def RetRead (s : ByteArray) (O : Except (Int × Int) (List (List It))) (w : World) (x : Ending) (w' : World) : Prop :=
  Below w.heap.size w w' ∧ ((∃ (F : Nat → List It) (A : Nat → Option Addr) (n c : Nat → Nat), O = .ok ((List.range 5).map F) ∧ x = .returned (.tuple #[crV A n c, .int .i64 (s.size : Int), .int .i64 0]) ∧ ∀ k, k < 5 → OwnIts w' w.heap.size (slAt A n c k) (F k)) ∨
    ∃ a e, O = .error (a, e) ∧ e ≠ 0 ∧ x = .returned (.tuple #[crV (fun _ => none) (fun _ => 0) (fun _ => 0), .int .i64 a, .int .i64 e]))
theorem placeI_nil (s : ByteArray) : placeI s 0 = (s.size : Int) := by unfold placeI; omega
def nil5 (_ : Nat) : Value := .slice none 0 0
theorem arr5_new (w : World) (t : TypeId) (v0 v1 v2 v3 v4 : Value) (g : Nat → Value) (h0 : g 0 = v0) (h1 : g 1 = v1) (h2 : g 2 = v2) (h3 : g 3 = v3) (h4 : g 4 = v4) : Arr (w.alloc (.cells #[v0, v1, v2, v3, v4] t)) w.heap.size 5 g :=
  arr_new w #[v0, v1, v2, v3, v4] t g (by
    intro j hj
    obtain rfl | rfl | rfl | rfl | rfl : j = 0 ∨ j = 1 ∨ j = 2 ∨ j = 3 ∨ j = 4 := by simp at hj; omega
    · rw [h0]; rfl
    · rw [h1]; rfl
    · rw [h2]; rfl
    · rw [h3]; rfl
    · rw [h4]; rfl)
theorem arr5 {w : World} {b : Nat} {g : Nat → Value} (h : Arr w b 5 g) : w.cell? ⟨b, 0, none⟩ = some (g 0) ∧ w.cell? ⟨b, 1, none⟩ = some (g 1) ∧ w.cell? ⟨b, 2, none⟩ = some (g 2) ∧ w.cell? ⟨b, 3, none⟩ = some (g 3) ∧ w.cell? ⟨b, 4, none⟩ = some (g 4) ∧ ∀ j, w.frozen? ⟨b, j, none⟩ = false :=
  ⟨h.1 0 (by decide), h.1 1 (by decide), h.1 2 (by decide), h.1 3 (by decide), h.1 4 (by decide), h.2⟩

theorem own_far {w : World} {B R n k : Nat} {v x0 x1 x2 x3 x4 : Value} {t : TypeId} {xs : List Value} (h : w.ownsRow B t k v n xs) (hR : R < B) :
    ((((((w.setCell ⟨R, 0, none⟩ x0).setCell ⟨R, 1, none⟩ x1).setCell ⟨R, 2, none⟩ x2).setCell ⟨R, 3, none⟩ x3).setCell ⟨R, 4, none⟩ x4).drew).ownsRow B t k v n xs :=
  own_drew (own_set (own_set (own_set (own_set (own_set h hR) hR) hR) hR) hR)
end Go.Proofs.YtochhmkdhdadhaaGreatDoor
