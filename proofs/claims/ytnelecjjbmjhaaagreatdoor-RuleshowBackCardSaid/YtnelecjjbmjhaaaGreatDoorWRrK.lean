/- The walk of ruleread.Read. -/
import Derived.Test.YtnelecjjbmjhaaaGreatDoorWRrJ
import Derived.Deep.CutRange
namespace Go.Proofs.YtnelecjjbmjhaaaGreatDoor
open Go.RowKit
set_option linter.unusedSimpArgs false
set_option linter.unusedVariables false

/-- What Read hands back. -/
def RetRu4 (s : ByteArray) (w : World) (x : Ending) (w' : World) : Prop :=
  (match rread s.data.toList with
    | .ok r => ∃ A n c, x = .returned (.tuple #[ruV r A n c, .int .i64 s.size, .int .i64 0]) ∧ RdRu w' A n r ∧ (∀ k, n k ≤ 64) ∧ ∀ k, (k < 5 ∨ 10 < k) → n k = 0
    | .error p => x = .returned (.tuple #[ruV ruNil (fun _ => none) (fun _ => 0) (fun _ => 0), .int .i64 p.1, .int .i64 p.2])) ∧ Below w.heap.size w w'
theorem newR_eq (s : ByteArray) : newP s = rpsNew s.data.toList := by
  have : s.data.toList.length = s.size := by simp
  unfold newP newBad newE rpsNew
  rw [this]
set_option maxRecDepth 20000 in
set_option maxHeartbeats 16000000 in
theorem rread_any (s : ByteArray) (hs : s.size ≤ 1000000) (w : World) : Calls Tryz.prog 10 #[.string s] w (RetRu4 s w) := by
  have hs9 : s.size ≤ 9223372036854775807 := by omega
  have hmm := @run_makeMap Tryz.prog
  have hN : s.data.toList.length = s.size := by simp
  have HNew := Lib.hid (fun W => new_ps hs9 W)
  have HPk := Lib.hid (fun W b σ (h : RdP W b s σ) => peek_pp h)
  have HAt := Lib.hid (fun W b σ (h : RdP W b s σ) => at_ps h)
  have HF := Lib.hid (fun p q W b σ (h : RdP W b s σ) => fail_ps p q h)
  have HMu := Lib.hid (fun cs W b σ A n cp (h : RdP W b s σ) (hA : RdBytes W A n cs) (hn : n ≤ 9223372036854775807) => must_ps (cp := cp) hs9 h hA hn)
  have HIs := Lib.hid (fun cs W b σ A n cp (h : RdP W b s σ) (hA : RdBytes W A n cs) (hn : n ≤ 9223372036854775807) => is_ps (cp := cp) hs9 h hA hn)
  have HM := Lib.hid (fun t (ht : t.size ≤ 1000000) W b σ (h : RdP W b s σ) => must_rr hs t ht h)
  have HI := Lib.hid (fun W b σ (h : RdP W b s σ) => instant_rr hs h)
  have HPa := Lib.hid (fun b R W => parts_rr b R s W)
  have HEnd := Lib.hid (fun W b σ (h : RdP W b s σ) => end_ps h)
  have HWr := Lib.hid (fun W b σ (h : RdP W b s σ) => wrong_pp h)
  have HZ0 := Lib.hid (ruArr_new w 0 0 25)
  have HB0 := Lib.hid ((Below.refl _ w).alloc (Nat.le_refl _) (.cells #[.int .i64 0, .int .i64 0, .int .i64 0, .int .i64 0, .int .i64 0, .slice none 0 0, .slice none 0 0, .slice none 0 0, .slice none 0 0, .slice none 0 0, .slice none 0 0] 25))
  go_enter Tryz.func10, Tryz.ntmps10
  go_wp2_with fail
  refine (HNew.out _).mono ?_
  rintro e w2 ⟨b, hb, rfl, hr2, hb2⟩
  have hbw : w.heap.size + 1 ≤ b := by simpa using hb
  have hlt2 := hr2.lt
  have st2 : HdSt w ((w2.alloc (.cells #[.pointer (some ⟨b, 0, none⟩), .string s] 64)).alloc (.cells #[.int .i64 0, .int .i64 0, .int .i64 1, .int .i64 0, .int .i64 (-1), .slice none 0 0, .slice none 0 0, .slice none 0 0, .slice none 0 0, .slice none 0 0, .slice none 0 0] 25)) b w2.heap.size (w2.heap.size + 1) w.heap.size s (newP s) 0 := by
    have hzz := hb2.size
    have hz2 : w.heap.size + 1 ≤ w2.heap.size := by simpa using hzz
    have za := (Arr.below (HZ0.out) (HZ0.out.lt (by decide)) hb2)
    refine ⟨(hr2.alloc _).alloc _, (kbox_new w2 b s _).alloc _, ?_, (za.alloc (by omega) _).alloc (by simp; omega) _, ((bthen HB0.out hb2 HB0.out.size).alloc (by omega) _).alloc (by simp; omega) _, by omega, by omega, by omega, by omega, by omega, by omega, by omega, by omega, Nat.le_refl _⟩
    have e1 : (w2.alloc (.cells #[.pointer (some ⟨b, 0, none⟩), .string s] 64)).heap.size = w2.heap.size + 1 := by simp
    rw [← e1]
    exact ruArr_new _ 1 (-1) _
  generalize hX : w2.heap.size = X at *
  go_wp2_with fail
  refine (HM.out ⟨#[68, 84, 83, 84, 65, 82, 84]⟩ (by decide) _ _ _ st2.rd).mono ?_
  rintro e w3 ⟨rfl, h3, g3⟩
  have st3 := st2.chg g3 h3
  rw [show (⟨#[68, 84, 83, 84, 65, 82, 84]⟩ : ByteArray).data.toList = [68, 84, 83, 84, 65, 82, 84] from rfl] at st3
  clear hX st2 g3 h3 hr2 hb2 hlt2 hb hbw HB0 HZ0
  obtain ⟨s1, hs1⟩ : ∃ s1, s1 = rmustP s.size [68, 84, 83, 84, 65, 82, 84] (newP s) := ⟨_, rfl⟩
  rw [← hs1] at st3
  have HS1 := Lib.hid hs1
  clear hs1
  obtain ⟨kc0, kc1⟩ := st3.kx.cells2
  go_wp2_with fail
  refine (HPk.out _ _ _ st3.rd).mono ?_
  rintro e w4 ⟨rfl, h4, g4⟩
  have st4 := st3.chg g4 h4
  clear st3 g4 h4 kc0 kc1
  obtain ⟨s2, hs2⟩ : ∃ s2, s2 = if peekP s1 = 59 then failP (atP s.size s1) 7 s1 else s1 := ⟨_, rfl⟩
  have HS2 := Lib.hid hs2
  clear hs2
  obtain ⟨kc0, kc1⟩ := st4.kx.cells2
  go_upto_if 22 with fail
  go_cut [22] from 23 to 28 (fun _ wx => HdSt w wx b X (X + 1) w.heap.size s s2 0)
  case first =>
    by_cases hp : peekP s1 = 59
    · have hp' : (peekP s1 == 59) = true := by simpa using hp
      have hE : s2 = failP (atP s.size s1) 7 s1 := by rw [HS2.out, if_pos hp]
      have HE2 := Lib.hid hE
      clear hp hE
      go_wp2
      go_still_tail 5, (by kernel_rfl)
      still_call ((HAt.out _ b s1 (by exact st4.rd.drew)).mono (fun _ _ hh => ⟨hh.1, hh.2.symm⟩))
      refine wpStill_nil ?_
      change wpList _ _ _ _ _ w4.drew
      go_wp2_with fail
      refine (HF.out _ _ _ b s1 (by exact st4.rd.drew)).mono ?_
      rintro e w5 ⟨rfl, h5, g5⟩
      go_wp2_with fail
      go_meet
      case rel => rw [HE2.out]; exact st4.chg (((Chg.refl b w4).drewN 1).trans g5) h5
    · have hp' : (peekP s1 == 59) = false := by simpa using hp
      have hE : s2 = s1 := by rw [HS2.out, if_neg hp]
      go_wp2_with fail
      go_meet
      case rel => rw [hE]; exact st4
  case rest =>
    have st5 := hcut
    clear st4 hcut kc0 kc1 HPk
    obtain ⟨kc0, kc1⟩ := st5.kx.cells2
    go_wp2_with fail
    refine (HMu.out [58] _ b _ _ _ _ (st5.rd.alloc _) (rdB1 (c := 58) (cell_new rfl rfl)) (by decide)).mono ?_
    rintro e w6 ⟨rfl, h6, g6⟩
    have st6 := (st5.alloc _).chg g6 h6
    clear st5 h6 g6 kc0 kc1
    obtain ⟨s3, hs3⟩ : ∃ s3, s3 = (mustP s.size [58] s2).1 := ⟨_, rfl⟩
    rw [← hs3] at st6
    have HS3 := Lib.hid hs3
    clear hs3
    obtain ⟨kc0, kc1⟩ := st6.kx.cells2
    go_wp2_with fail
    refine (HI.out _ b _ st6.rd).mono ?_
    rintro e w7 ⟨rfl, h7, g7⟩
    have st7 := st6.chg g7 h7
    clear st6 h7 g7 kc0 kc1
    obtain ⟨iv, hiv⟩ : ∃ iv, iv = instP s.size s3 := ⟨_, rfl⟩
    rw [← hiv] at st7 ⊢
    have HIv := Lib.hid hiv
    clear hiv
    obtain ⟨s4, it⟩ := iv
    dsimp only at *
    have st8 := st7.start it
    have ra0 : w7.cell? ⟨X + 1, 0, none⟩ = some (.int .i64 0) := st7.ra.1 0 (by decide)
    have raf : ∀ j, w7.frozen? ⟨X + 1, j, none⟩ = false := st7.ra.2
    obtain ⟨kc0, kc1⟩ := st8.kx.cells2
    have hX1 : ¬ X = X + 1 := by omega
    obtain ⟨kd0, kd1⟩ := st7.kx.cells2
    clear st7
    go_wp2_with fail
    refine (HMu.out [10] _ b _ _ _ _ (st8.rd.alloc _) (rdB1 (c := 10) (cell_new (by simp) rfl)) (by decide)).mono ?_
    rintro e w9 ⟨rfl, h9, g9⟩
    have st9 := (st8.alloc _).chg g9 h9
    clear st8 h9 g9 kc0 kc1 kd0 kd1 ra0 raf
    obtain ⟨s5, hs5⟩ : ∃ s5, s5 = (mustP s.size [10] s4).1 := ⟨_, rfl⟩
    rw [← hs5] at st9
    have HS5 := Lib.hid hs5
    clear hs5
    obtain ⟨kc0, kc1⟩ := st9.kx.cells2
    go_wp2_with fail
    refine (HM.out ⟨#[82, 82, 85, 76, 69]⟩ (by decide) _ _ _ st9.rd).mono ?_
    rintro e w10 ⟨rfl, h10, g10⟩
    have st10 := st9.chg g10 h10
    rw [show (⟨#[82, 82, 85, 76, 69]⟩ : ByteArray).data.toList = [82, 82, 85, 76, 69] from rfl] at st10
    clear st9 h10 g10 kc0 kc1
    obtain ⟨s6, hs6⟩ : ∃ s6, s6 = rmustP s.size [82, 82, 85, 76, 69] s5 := ⟨_, rfl⟩
    rw [← hs6] at st10
    have HS6 := Lib.hid hs6
    clear hs6
    obtain ⟨kc0, kc1⟩ := st10.kx.cells2
    go_wp2_with fail
    refine (HMu.out [58] _ b _ _ _ _ (st10.rd.alloc _) (rdB1 (c := 58) (cell_new rfl rfl)) (by decide)).mono ?_
    rintro e w11 ⟨rfl, h11, g11⟩
    have st11 := (st10.alloc _).chg g11 h11
    clear st10 h11 g11 kc0 kc1
    obtain ⟨s7, hs7⟩ : ∃ s7, s7 = (mustP s.size [58] s6).1 := ⟨_, rfl⟩
    rw [← hs7] at st11
    have HS7 := Lib.hid hs7
    clear hs7
    have HHead : Hid (rheadP s.size (newP s) = (s7, it)) := by
      show _ = _
      unfold rheadP
      dsimp only
      rw [← HS1.out, ← HS2.out, ← HS3.out, ← HIv.out]
      dsimp only
      rw [← HS5.out, ← HS6.out, ← HS7.out]
    clear HS1 HS2 HS3 HIv HS5 HS6 HS7 HI HM
    obtain ⟨kc0, kc1⟩ := st11.kx.cells2
    go_wp2_with fail
    refine (HPa.out b (X + 1) _).mono ?_
    rintro e w12 ⟨mb, Xp, P, rfl, kxp, kpp, pmp, hXp, hPp, hMp, hb12⟩
    have lb := st11.rd.lt
    have lR := st11.ra.lt (by decide)
    have lX := st11.kx.lt
    have lZ := st11.za.lt (by decide)
    have st12 := st11.below hb12
    have lw := st11.bl.size
    have lb12 := hb12.size
    clear hb12 kc0 kc1
    have lXp := kxp.lt
    have lP : P < w12.heap.size := World.block_lt_of_cell? _ _ kpp
    have lX12 : X < w12.heap.size := st12.kx.lt
    have lM := pmp.lt
    have stR : RrSt (w12.alloc (.map #[] 0)) Xp P b (X + 1) (w12.heap.size + 1) mb w12.heap.size s ⟨s7, { ruOne with st := it }, []⟩ 0 :=
      ⟨st12.rd.alloc _, ruF_of (st12.alloc _).ra, kxp.alloc _, cell_old kpp, pmp.alloc _, mapAt_made w12, by simp⟩
    have sep : Sep Xp P b (X + 1) (w12.heap.size + 1) mb w12.heap.size := ⟨by omega, by omega, by omega, by omega, by omega, by omega, by omega, by omega, by omega, by omega, by omega, st12.hR, by omega, by omega, by omega⟩
    have sep2 : Sep2 w X w.heap.size b (X + 1) (w12.heap.size + 1) w12.heap.size := ⟨st12.hX, st12.hXR, by omega, st12.hZ, Ne.symm st12.hRZ, by omega, st12.hb, st12.hRw, by omega, Nat.le_refl _, by omega⟩
    have lp : LpSt w (w12.alloc (.map #[] 0)) X w.heap.size Xp P b (X + 1) (w12.heap.size + 1) mb w12.heap.size s ⟨s7, { ruOne with st := it }, []⟩ 0 :=
      ⟨stR, st12.kx.alloc _, (st12.alloc _).za, (st12.alloc _).bl⟩
    obtain ⟨kc0, kc1⟩ := st12.kx.cells2
    clear st11 st12 kxp kpp pmp hXp hPp hMp lb lR lZ lw lb12 lP
    go_wp2_with fail
    refine (part_rr hs sep (by decide) stR).mono ?_
    rintro e w13 ⟨rfl, ⟨n1, hn1, stP⟩, g13⟩
    have lp13 := lp.chg3 sep2 g13 stP
    have HN1 : Hid (s.data.toList.length = s.size) := hN
    have hlen0 : s7.l.length ≤ s.size := by
      have h1 := (gos_head (N := s.size) (σ := newP s)).len
      rw [HHead.out] at h1
      have h2 : (newP s).l.length = s.size := hN
      dsimp only at h1
      omega
    obtain ⟨hg1, hg2⟩ := goon_start s.size ⟨s7, { ruOne with st := it }, []⟩ hlen0
    have HS0 := Lib.hid hg1
    obtain ⟨S0, hS0⟩ : ∃ S0, S0 = partsP s.size s.size ⟨s7, { ruOne with st := it }, []⟩ := ⟨_, rfl⟩
    rw [← hS0] at HS0
    have HFin := Lib.hid hS0
    clear hS0 hg1 lp stR g13 stP kc0 kc1
    obtain ⟨S1, hS1⟩ : ∃ S1, S1 = partP s.size ⟨s7, { ruOne with st := it }, []⟩ := ⟨_, rfl⟩
    rw [← hS1] at lp13 HS0 hg2
    clear hS1
    go_wp2
    go_loopg [56] (s.size : Nat) (fun gg _ wr => ∃ (S : RS) (n : Nat), S.σ.l.length ≤ gg ∧ Hid (S0 = goonP s.size gg S) ∧ n + gg ≤ s.size + 1 ∧ Hid (LpSt w wr X w.heap.size Xp P b (X + 1) (w12.heap.size + 1) mb w12.heap.size s S n))
    case atStart => exact ⟨S1, n1, hg2, HS0.out, by omega, lp13⟩
    case round =>
      obtain ⟨S, n, hSl, HQ, hng, HL⟩ := hrel
      obtain ⟨σ, r, T⟩ := S
      dsimp only at hSl
      obtain ⟨kc0, kc1⟩ := HL.out.kx.cells2
      have HIs2 := Lib.hid (fun W A n cp (h : RdP W b s σ) (hA : RdBytes W A n [59]) (hn : n ≤ 9223372036854775807) => HIs.out [59] W b σ A n cp h hA hn)
      obtain ⟨u, hu⟩ : ∃ u, u = isP [59] σ := ⟨_, rfl⟩
      rw [← hu] at HIs2
      have HU := Lib.hid hu
      clear hu
      obtain ⟨τ, semi⟩ := u
      dsimp only at HIs2
      go_wp2_with fail
      refine (HIs2.out _ _ _ _ (HL.out.rr.rd.alloc _) (rdB1 (c := 59) (cell_new rfl rfl)) (by decide)).mono ?_
      rintro e w14 ⟨rfl, h14, g14⟩
      have L14 := HL.out.chg sep sep2 (((Chg.refl b _).alloc _).trans g14) h14
      clear HIs2 h14 g14 kc0 kc1
      obtain ⟨kc0, kc1⟩ := L14.kx.cells2
      cases semi with
      | true =>
        obtain ⟨p, rfl, hq, hl⟩ := goon_step s.size gk ⟨σ, r, T⟩ hSl (by dsimp only; rw [← HU.out])
        dsimp only at hq hl
        rw [← HU.out] at hq hl
        have HQ2 : Hid (S0 = goonP s.size p (partP s.size ⟨τ, r, T⟩)) := by show _ = _; rw [HQ.out, hq]
        dsimp only at hl
        clear hq HQ HU HEnd HWr HF HFin
        go_wp2_with fail
        refine (part_rr hs sep (by omega) L14.rr).mono ?_
        rintro e w15 ⟨rfl, ⟨n2, hn2, st15⟩, g15⟩
        have L15 := L14.chg3 sep2 g15 st15
        clear L14 g15 st15 kc0 kc1
        go_wp2
        go_roundg p
        case measure => omega
        case rel => exact ⟨_, n2, hl, HQ2.out, by omega, L15⟩
      | false =>
        have HS : Hid (S0 = ⟨τ, r, T⟩) := by
          show _ = _
          rw [HQ.out]
          unfold goonP
          dsimp only
          rw [← HU.out]
          rfl
        have hLen : RuLen r := by
          have h1 := partsP_len s.size s.size ⟨s7, { ruOne with st := it }, []⟩ ⟨Nat.zero_le 64, Nat.zero_le 64, Nat.zero_le 64, Nat.zero_le 64, Nat.zero_le 64, Nat.zero_le 64⟩
          rw [← HFin.out, HS.out] at h1
          exact h1
        have HAll : Hid (rallP s.data.toList = ⟨if paN[0] ∈ T then endP s.size τ else failP (s.size : Int) 11 (endP s.size τ), r, T⟩) := by
          show _ = _
          unfold rallP
          dsimp only
          rw [HN1.out, ← newR_eq, HHead.out]
          dsimp only
          rw [← HFin.out, HS.out]
        clear HQ HU HS HFin HHead hSl
        go_wp2_with fail
        refine (HEnd.out _ b τ L14.rr.rd).mono ?_
        rintro e w15 ⟨rfl, h15, g15⟩
        have L15 := L14.chg sep sep2 g15 h15
        clear L14 h15 g15 kc0 kc1
        obtain ⟨kc0, kc1⟩ := L15.kx.cells2
        have lk : (Instr.lookup 74 (.map (some w12.heap.size)) (.string ⟨#[70, 82, 69, 81]⟩) false).run Tryz.prog w15 = .ok (.bool (decide (paN[0] ∈ T))) w15 := by
          have := L15.rr.tm.look1 Tryz.underlying74 (zero_bool _) (x := ⟨#[70, 82, 69, 81]⟩) (by decide)
          rwa [thF_get] at this
        by_cases hFr : paN[0] ∈ T
        · rw [decide_eq_true hFr] at lk
          rw [if_pos hFr] at HAll
          generalize endP s.size τ = υ at *
          clear hFr
          go_wp2_with fail
          refine (HWr.out _ b _ L15.rr.rd).mono ?_
          rintro e w17 ⟨rfl, h17, g17⟩
          have L17 := L15.chg sep sep2 g17 h17
          clear L15 h17 g17 kc0 kc1
          have hzl := L17.za.lt (by decide)
          have z0 : w17.cell? ⟨w.heap.size, 0, none⟩ = some (.int .i64 0) := L17.za.1 0 (by decide)
          have z1 : w17.cell? ⟨w.heap.size, 1, none⟩ = some (.int .i64 0) := L17.za.1 1 (by decide)
          have z2 : w17.cell? ⟨w.heap.size, 2, none⟩ = some (.int .i64 0) := L17.za.1 2 (by decide)
          have z3 : w17.cell? ⟨w.heap.size, 3, none⟩ = some (.int .i64 0) := L17.za.1 3 (by decide)
          have z4 : w17.cell? ⟨w.heap.size, 4, none⟩ = some (.int .i64 0) := L17.za.1 4 (by decide)
          have z5 : w17.cell? ⟨w.heap.size, 5, none⟩ = some (.slice none 0 0) := L17.za.1 5 (by decide)
          have z6 : w17.cell? ⟨w.heap.size, 6, none⟩ = some (.slice none 0 0) := L17.za.1 6 (by decide)
          have z7 : w17.cell? ⟨w.heap.size, 7, none⟩ = some (.slice none 0 0) := L17.za.1 7 (by decide)
          have z8 : w17.cell? ⟨w.heap.size, 8, none⟩ = some (.slice none 0 0) := L17.za.1 8 (by decide)
          have z9 : w17.cell? ⟨w.heap.size, 9, none⟩ = some (.slice none 0 0) := L17.za.1 9 (by decide)
          have z10 : w17.cell? ⟨w.heap.size, 10, none⟩ = some (.slice none 0 0) := L17.za.1 10 (by decide)
          have zf := L17.za.2
          by_cases he : υ.e = 0
          · obtain ⟨A, nn, c, hAt, hRd, hn64, hn0, hAB⟩ := L17.rr.ru.rd hLen
            have hRl : X + 1 < w17.heap.size := hAt.lt
            have HCk := Lib.hid (rcheck_all (c := c) hRd (fun k => by have := hn64 k; omega))
            obtain ⟨x0, x1, x2, x3, x4, x5, x6, x7, x8, x9, x10⟩ := hAt
            have he' : (υ.e != 0) = false := by simpa using he
            have HRd := Lib.hid hRd
            unfold ruV at HCk
            have HRr : Hid (rread s.data.toList = if chkR r ≠ 0 then .error ((s.size : Int), chkR r) else .ok r) := by
              show _ = _
              unfold rread
              rw [HAll.out, HN1.out]
              dsimp only
              rw [if_neg (by simpa using he)]
            rw [he]
            clear he hRd HAll
            generalize chkR r = q at *
            have hbl := L17.bl
            have hza := L17.za
            clear L17
            go_wp2_with fail
            refine (HCk.out).mono ?_
            rintro e w18 ⟨rfl, hb18⟩
            have hbl2 := bthen hbl hb18 hbl.size
            have hza2 := Arr.below hza hzl hb18
            have hzl2 : w.heap.size < w18.heap.size := Nat.lt_of_lt_of_le hzl hb18.size
            clear z0 z1 z2 z3 z4 z5 z6 z7 z8 z9 z10 zf
            have z0 : w18.cell? ⟨w.heap.size, 0, none⟩ = some (.int .i64 0) := hza2.1 0 (by decide)
            have z1 : w18.cell? ⟨w.heap.size, 1, none⟩ = some (.int .i64 0) := hza2.1 1 (by decide)
            have z2 : w18.cell? ⟨w.heap.size, 2, none⟩ = some (.int .i64 0) := hza2.1 2 (by decide)
            have z3 : w18.cell? ⟨w.heap.size, 3, none⟩ = some (.int .i64 0) := hza2.1 3 (by decide)
            have z4 : w18.cell? ⟨w.heap.size, 4, none⟩ = some (.int .i64 0) := hza2.1 4 (by decide)
            have z5 : w18.cell? ⟨w.heap.size, 5, none⟩ = some (.slice none 0 0) := hza2.1 5 (by decide)
            have z6 : w18.cell? ⟨w.heap.size, 6, none⟩ = some (.slice none 0 0) := hza2.1 6 (by decide)
            have z7 : w18.cell? ⟨w.heap.size, 7, none⟩ = some (.slice none 0 0) := hza2.1 7 (by decide)
            have z8 : w18.cell? ⟨w.heap.size, 8, none⟩ = some (.slice none 0 0) := hza2.1 8 (by decide)
            have z9 : w18.cell? ⟨w.heap.size, 9, none⟩ = some (.slice none 0 0) := hza2.1 9 (by decide)
            have z10 : w18.cell? ⟨w.heap.size, 10, none⟩ = some (.slice none 0 0) := hza2.1 10 (by decide)
            have zf := hza2.2
            by_cases hq : q = 0
            · have hq' : (q != 0) = false := by simpa using hq
              have HRr2 : Hid (rread s.data.toList = .ok r) := by show _ = _; rw [HRr.out, if_neg (by simpa using hq)]
              have y0 := (hb18.cell (p := ⟨X + 1, 0, none⟩) hRl).trans x0
              have y1 := (hb18.cell (p := ⟨X + 1, 1, none⟩) hRl).trans x1
              have y2 := (hb18.cell (p := ⟨X + 1, 2, none⟩) hRl).trans x2
              have y3 := (hb18.cell (p := ⟨X + 1, 3, none⟩) hRl).trans x3
              have y4 := (hb18.cell (p := ⟨X + 1, 4, none⟩) hRl).trans x4
              have y5 := (hb18.cell (p := ⟨X + 1, 5, none⟩) hRl).trans x5
              have y6 := (hb18.cell (p := ⟨X + 1, 6, none⟩) hRl).trans x6
              have y7 := (hb18.cell (p := ⟨X + 1, 7, none⟩) hRl).trans x7
              have y8 := (hb18.cell (p := ⟨X + 1, 8, none⟩) hRl).trans x8
              have y9 := (hb18.cell (p := ⟨X + 1, 9, none⟩) hRl).trans x9
              have y10 := (hb18.cell (p := ⟨X + 1, 10, none⟩) hRl).trans x10
              have HRd2 := Lib.hid (HRd.out.below hb18)
              clear x0 x1 x2 x3 x4 x5 x6 x7 x8 x9 x10 hb18 HRd hza HRr hq hza2
              go_wp2
              refine bodyPost_ret (v := .tuple #[ruV r A nn c, .int .i64 s.size, .int .i64 0]) ?_ rfl ⟨?_, ?_⟩
              · unfold ruV
                rw [results_cell2 rfl]
                go_simp
              · rw [HRr2.out]
                exact ⟨A, nn, c, rfl, HRd2.out.chgR (chg_set11 _ _ _ _ _ _ _ _ _ _ _ _ _) hAB sep2.hZB, hn64, hn0⟩
              · exact Chg.below hbl2 (chg_set11 _ _ _ _ _ _ _ _ _ _ _ _ _) (Nat.le_refl _) hbl2.size
            · have hq' : (q != 0) = true := by simpa using hq
              have HRr2 : Hid (rread s.data.toList = .error ((s.size : Int), q)) := by show _ = _; rw [HRr.out, if_pos (by simpa using hq)]
              clear x0 x1 x2 x3 x4 x5 x6 x7 x8 x9 x10 hb18 HRd hza HRr hq hza2
              go_wp2
              refine bodyPost_ret (v := .tuple #[ruV ruNil (fun _ => none) (fun _ => 0) (fun _ => 0), .int .i64 s.size, .int .i64 q]) ?_ rfl ⟨?_, ?_⟩
              · unfold ruV ruNil
                rw [results_cell2 rfl]
                go_simp
              · rw [HRr2.out]
              · exact Chg.below hbl2 (chg_set11 _ _ _ _ _ _ _ _ _ _ _ _ _) (Nat.le_refl _) hbl2.size
          · have he' : (υ.e != 0) = true := by simpa using he
            have HRr2 : Hid (rread s.data.toList = .error (υ.a, υ.e)) := by
              show _ = _
              unfold rread
              rw [HAll.out]
              dsimp only
              rw [if_pos he]
            have hbl := L17.bl
            clear HAll L17 he
            go_wp2
            refine bodyPost_ret (v := .tuple #[ruV ruNil (fun _ => none) (fun _ => 0) (fun _ => 0), .int .i64 υ.a, .int .i64 υ.e]) ?_ rfl ⟨?_, ?_⟩
            · unfold ruV ruNil
              rw [results_cell2 rfl]
              go_simp
            · rw [HRr2.out]
            · exact Chg.below hbl (chg_set11 _ _ _ _ _ _ _ _ _ _ _ _ _) (Nat.le_refl _) hbl.size
        · rw [decide_eq_false hFr] at lk
          rw [if_neg hFr] at HAll
          go_wp2_with fail
          refine (HF.out (s.size : Int) 11 _ b _ L15.rr.rd).mono ?_
          rintro e w16 ⟨rfl, h16, g16⟩
          have L16 := L15.chg sep sep2 g16 h16
          clear L15 h16 g16 kc0 kc1 lk
          generalize failP (s.size : Int) 11 (endP s.size τ) = υ at *
          obtain ⟨kc0, kc1⟩ := L16.kx.cells2
          go_wp2_with fail
          refine (HWr.out _ b _ L16.rr.rd).mono ?_
          rintro e w17 ⟨rfl, h17, g17⟩
          have L17 := L16.chg sep sep2 g17 h17
          clear L16 h17 g17 kc0 kc1
          have hzl := L17.za.lt (by decide)
          have z0 : w17.cell? ⟨w.heap.size, 0, none⟩ = some (.int .i64 0) := L17.za.1 0 (by decide)
          have z1 : w17.cell? ⟨w.heap.size, 1, none⟩ = some (.int .i64 0) := L17.za.1 1 (by decide)
          have z2 : w17.cell? ⟨w.heap.size, 2, none⟩ = some (.int .i64 0) := L17.za.1 2 (by decide)
          have z3 : w17.cell? ⟨w.heap.size, 3, none⟩ = some (.int .i64 0) := L17.za.1 3 (by decide)
          have z4 : w17.cell? ⟨w.heap.size, 4, none⟩ = some (.int .i64 0) := L17.za.1 4 (by decide)
          have z5 : w17.cell? ⟨w.heap.size, 5, none⟩ = some (.slice none 0 0) := L17.za.1 5 (by decide)
          have z6 : w17.cell? ⟨w.heap.size, 6, none⟩ = some (.slice none 0 0) := L17.za.1 6 (by decide)
          have z7 : w17.cell? ⟨w.heap.size, 7, none⟩ = some (.slice none 0 0) := L17.za.1 7 (by decide)
          have z8 : w17.cell? ⟨w.heap.size, 8, none⟩ = some (.slice none 0 0) := L17.za.1 8 (by decide)
          have z9 : w17.cell? ⟨w.heap.size, 9, none⟩ = some (.slice none 0 0) := L17.za.1 9 (by decide)
          have z10 : w17.cell? ⟨w.heap.size, 10, none⟩ = some (.slice none 0 0) := L17.za.1 10 (by decide)
          have zf := L17.za.2
          by_cases he : υ.e = 0
          · obtain ⟨A, nn, c, hAt, hRd, hn64, hn0, hAB⟩ := L17.rr.ru.rd hLen
            have hRl : X + 1 < w17.heap.size := hAt.lt
            have HCk := Lib.hid (rcheck_all (c := c) hRd (fun k => by have := hn64 k; omega))
            obtain ⟨x0, x1, x2, x3, x4, x5, x6, x7, x8, x9, x10⟩ := hAt
            have he' : (υ.e != 0) = false := by simpa using he
            have HRd := Lib.hid hRd
            unfold ruV at HCk
            have HRr : Hid (rread s.data.toList = if chkR r ≠ 0 then .error ((s.size : Int), chkR r) else .ok r) := by
              show _ = _
              unfold rread
              rw [HAll.out, HN1.out]
              dsimp only
              rw [if_neg (by simpa using he)]
            rw [he]
            clear he hRd HAll
            generalize chkR r = q at *
            have hbl := L17.bl
            have hza := L17.za
            clear L17
            go_wp2_with fail
            refine (HCk.out).mono ?_
            rintro e w18 ⟨rfl, hb18⟩
            have hbl2 := bthen hbl hb18 hbl.size
            have hza2 := Arr.below hza hzl hb18
            have hzl2 : w.heap.size < w18.heap.size := Nat.lt_of_lt_of_le hzl hb18.size
            clear z0 z1 z2 z3 z4 z5 z6 z7 z8 z9 z10 zf
            have z0 : w18.cell? ⟨w.heap.size, 0, none⟩ = some (.int .i64 0) := hza2.1 0 (by decide)
            have z1 : w18.cell? ⟨w.heap.size, 1, none⟩ = some (.int .i64 0) := hza2.1 1 (by decide)
            have z2 : w18.cell? ⟨w.heap.size, 2, none⟩ = some (.int .i64 0) := hza2.1 2 (by decide)
            have z3 : w18.cell? ⟨w.heap.size, 3, none⟩ = some (.int .i64 0) := hza2.1 3 (by decide)
            have z4 : w18.cell? ⟨w.heap.size, 4, none⟩ = some (.int .i64 0) := hza2.1 4 (by decide)
            have z5 : w18.cell? ⟨w.heap.size, 5, none⟩ = some (.slice none 0 0) := hza2.1 5 (by decide)
            have z6 : w18.cell? ⟨w.heap.size, 6, none⟩ = some (.slice none 0 0) := hza2.1 6 (by decide)
            have z7 : w18.cell? ⟨w.heap.size, 7, none⟩ = some (.slice none 0 0) := hza2.1 7 (by decide)
            have z8 : w18.cell? ⟨w.heap.size, 8, none⟩ = some (.slice none 0 0) := hza2.1 8 (by decide)
            have z9 : w18.cell? ⟨w.heap.size, 9, none⟩ = some (.slice none 0 0) := hza2.1 9 (by decide)
            have z10 : w18.cell? ⟨w.heap.size, 10, none⟩ = some (.slice none 0 0) := hza2.1 10 (by decide)
            have zf := hza2.2
            by_cases hq : q = 0
            · have hq' : (q != 0) = false := by simpa using hq
              have HRr2 : Hid (rread s.data.toList = .ok r) := by show _ = _; rw [HRr.out, if_neg (by simpa using hq)]
              have y0 := (hb18.cell (p := ⟨X + 1, 0, none⟩) hRl).trans x0
              have y1 := (hb18.cell (p := ⟨X + 1, 1, none⟩) hRl).trans x1
              have y2 := (hb18.cell (p := ⟨X + 1, 2, none⟩) hRl).trans x2
              have y3 := (hb18.cell (p := ⟨X + 1, 3, none⟩) hRl).trans x3
              have y4 := (hb18.cell (p := ⟨X + 1, 4, none⟩) hRl).trans x4
              have y5 := (hb18.cell (p := ⟨X + 1, 5, none⟩) hRl).trans x5
              have y6 := (hb18.cell (p := ⟨X + 1, 6, none⟩) hRl).trans x6
              have y7 := (hb18.cell (p := ⟨X + 1, 7, none⟩) hRl).trans x7
              have y8 := (hb18.cell (p := ⟨X + 1, 8, none⟩) hRl).trans x8
              have y9 := (hb18.cell (p := ⟨X + 1, 9, none⟩) hRl).trans x9
              have y10 := (hb18.cell (p := ⟨X + 1, 10, none⟩) hRl).trans x10
              have HRd2 := Lib.hid (HRd.out.below hb18)
              clear x0 x1 x2 x3 x4 x5 x6 x7 x8 x9 x10 hb18 HRd hza HRr hq hza2
              go_wp2
              refine bodyPost_ret (v := .tuple #[ruV r A nn c, .int .i64 s.size, .int .i64 0]) ?_ rfl ⟨?_, ?_⟩
              · unfold ruV
                rw [results_cell2 rfl]
                go_simp
              · rw [HRr2.out]
                exact ⟨A, nn, c, rfl, HRd2.out.chgR (chg_set11 _ _ _ _ _ _ _ _ _ _ _ _ _) hAB sep2.hZB, hn64, hn0⟩
              · exact Chg.below hbl2 (chg_set11 _ _ _ _ _ _ _ _ _ _ _ _ _) (Nat.le_refl _) hbl2.size
            · have hq' : (q != 0) = true := by simpa using hq
              have HRr2 : Hid (rread s.data.toList = .error ((s.size : Int), q)) := by show _ = _; rw [HRr.out, if_pos (by simpa using hq)]
              clear x0 x1 x2 x3 x4 x5 x6 x7 x8 x9 x10 hb18 HRd hza HRr hq hza2
              go_wp2
              refine bodyPost_ret (v := .tuple #[ruV ruNil (fun _ => none) (fun _ => 0) (fun _ => 0), .int .i64 s.size, .int .i64 q]) ?_ rfl ⟨?_, ?_⟩
              · unfold ruV ruNil
                rw [results_cell2 rfl]
                go_simp
              · rw [HRr2.out]
              · exact Chg.below hbl2 (chg_set11 _ _ _ _ _ _ _ _ _ _ _ _ _) (Nat.le_refl _) hbl2.size
          · have he' : (υ.e != 0) = true := by simpa using he
            have HRr2 : Hid (rread s.data.toList = .error (υ.a, υ.e)) := by
              show _ = _
              unfold rread
              rw [HAll.out]
              dsimp only
              rw [if_pos he]
            have hbl := L17.bl
            clear HAll L17 he
            go_wp2
            refine bodyPost_ret (v := .tuple #[ruV ruNil (fun _ => none) (fun _ => 0) (fun _ => 0), .int .i64 υ.a, .int .i64 υ.e]) ?_ rfl ⟨?_, ?_⟩
            · unfold ruV ruNil
              rw [results_cell2 rfl]
              go_simp
            · rw [HRr2.out]
            · exact Chg.below hbl (chg_set11 _ _ _ _ _ _ _ _ _ _ _ _ _) (Nat.le_refl _) hbl.size
end Go.Proofs.YtnelecjjbmjhaaaGreatDoor
