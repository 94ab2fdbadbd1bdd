/- The walk of the law RulereadMay. -/
import Derived.Test.YtnelecjjbmjhaaaGreatWRrK
import Derived.Test.YtnelecjjbmjhaaaGreatWRrS
namespace Go.Proofs.YtnelecjjbmjhaaaGreat
open Go.RowKit
set_option linter.unusedSimpArgs false
set_option linter.unusedVariables false

def RetOkR (r : RuV) (s : ByteArray) (w : World) (x : Ending) (w' : World) : Prop := ∃ A n c, x = .returned (.tuple #[ruV r A n c, .int .i64 s.size, .int .i64 0]) ∧ RdRu w' A n r ∧ (∀ k, n k ≤ 64) ∧ (∀ k, (k < 5 ∨ 10 < k) → n k = 0) ∧ Below w.heap.size w w'
theorem rread_okc {s : ByteArray} {r : RuV} (hs : s.size ≤ 1000000) (h : rread s.data.toList = .ok r) (w : World) : Calls Tryz.prog 6 #[.string s] w (RetOkR r s w) := by
  refine (rread_any s hs w).mono ?_
  rintro x w' ⟨hm, hb⟩
  rw [h] at hm
  obtain ⟨A, n, c, h1, h2, h3, h4⟩ := hm
  exact ⟨A, n, c, h1, h2, h3, h4, hb⟩
theorem rread_errc {s : ByteArray} {a e : Int} (hs : s.size ≤ 1000000) (h : rread s.data.toList = .error (a, e)) (w : World) : Calls Tryz.prog 6 #[.string s] w (Ret (.tuple #[ruV ruNil (fun _ => none) (fun _ => 0) (fun _ => 0), .int .i64 a, .int .i64 e]) w) := by
  refine (rread_any s hs w).mono ?_
  rintro x w' ⟨hm, hb⟩
  rw [h] at hm
  exact ⟨hm, hb⟩
def ex33 : List UInt8 := [68, 84, 83, 84, 65, 82, 84, 58, 49, 57, 55, 48, 48, 49, 48, 53, 84, 48, 57, 48, 48, 48, 48, 90, 10, 82, 82, 85, 76, 69, 58, 70, 82, 69, 81, 61, 87, 69, 69, 75, 76, 89, 59, 66, 89, 68, 65, 89, 61, 77, 79, 44, 70, 82]
theorem ex33_read : rread ex33 = .ok ⟨378000, 4, 1, 0, -1, [], [], [(0, 1), (0, 5)], [], [], []⟩ := by kernel_rfl
set_option maxRecDepth 20000 in
set_option maxHeartbeats 2000000 in
theorem lives33_any (w : World) : Calls Tryz.prog 5 #[] w (Ret (.bool true) w) := by
  have HA := Lib.hid (rread_okc (s := strB ex33) (r := ⟨378000, 4, 1, 0, -1, [], [], [(0, 1), (0, 5)], [], [], []⟩) (by rw [strB_size]; decide) (by rw [strB_data]; exact ex33_read) w)
  unfold RetOkR at HA
  unfold ruV at HA
  dsimp only at HA
  go_enter Tryz.func5, Tryz.ntmps5
  go_wp2_with fail
  refine HA.out.mono ?_
  rintro e w1 ⟨A, n, c, rfl, hr, _, _, hb1⟩
  have hwk : RdNths w1 (A 7) (n 7) [(0, 1), (0, 5)] := hr.wk
  have hn7 : n 7 = 2 := hwk.1.symm
  rw [hn7] at hwk
  obtain ⟨B, o, x, hA7, hBl, hx, d0, d1⟩ := RdNths.at_ hwk (i := 1) (by decide)
  obtain rfl : x = (0, 5) := by simpa using hx.symm
  rw [hA7, hn7]
  have d2 : w1.cell? ⟨B, o + 2 + 1, none⟩ = some (.int .i64 5) := d1
  have d3 : w1.cell? ⟨B, o + 3, none⟩ = some (.int .i64 5) := d1
  have d4 : w1.cell? ⟨B, o + 2, none⟩ = some (.int .i64 0) := d0
  clear hr hwk hA7 hn7 hx
  have hz1 := hb1.size
  go_wp2
  go_ret
  exact ⟨rfl, by (repeat' (first | (with_reducible exact Below.refl _ _) | (with_reducible assumption) | (with_reducible refine below_drewN ?_ _) | (with_reducible refine Below.alloc ?_ ?_ _) | (with_reducible refine Below.drew ?_) | (with_reducible refine Below.setCell ?_ ?_ _) | go_size))⟩
theorem ruNil_rd (w : World) : RdRu w (fun _ => none) (fun _ => 0) ruNil := ⟨Rd.nil, Rd.nil, Rd.nil, Rd.nil, Rd.nil, Rd.nil⟩
set_option maxRecDepth 20000 in
set_option maxHeartbeats 2000000 in
theorem rulereadMay_any (s : ByteArray) (w : World) (hs : s.size ≤ 9223372036854775807) : Calls Tryz.prog 3 #[.string s] w (Ret (.bool true) w) := by
  have HV := Lib.hid (fun W => lives33_any W)
  by_cases hbig : 9000 < s.size
  · have hbig' : (9000 : Int) < (s.size : Int) := by omega
    clear hbig
    go_enter Tryz.func3, Tryz.ntmps3
    go_wp2_with fail
    refine (HV.out _).mono ?_
    rintro e w1 ⟨rfl, hb1⟩
    go_wp2
    go_ret
    exact ⟨rfl, hb1⟩
  · have hbig' : ¬ (9000 : Int) < (s.size : Int) := by omega
    cases hk : rread s.data.toList with
    | ok r =>
      have hch := (rread_ok hk).2.2.1
      have HR := Lib.hid (rread_okc (s := s) (by omega) hk w)
      unfold RetOkR at HR
      unfold ruV at HR
      clear hk hbig
      go_enter Tryz.func3, Tryz.ntmps3
      go_wp2_with fail
      refine HR.out.mono ?_
      rintro e w1 ⟨A, n, c, rfl, hr, hn, _, hb1⟩
      have HK := Lib.hid (fun W (hb : Below w1.heap.size w1 W) => rcheck_all (c := c) (hr.below hb) (fun k => by have := hn k; omega))
      rw [hch] at HK
      unfold ruV at HK
      have hz1 := hb1.size
      clear hr hn hch
      go_wp2_with fail
      refine (HK.out _ ((Below.refl _ w1).alloc (Nat.le_refl _) _)).mono ?_
      rintro e w2 ⟨rfl, hb2⟩
      have hb3 : Below w.heap.size w w2 := bthen (hb1.alloc hz1 _) hb2 (by simp; omega)
      go_wp2_with fail
      refine (HV.out _).mono ?_
      rintro e w3 ⟨rfl, hb4⟩
      go_wp2
      go_ret
      exact ⟨rfl, bthen hb3 hb4 hb3.size⟩
    | error p =>
      obtain ⟨a, e⟩ := p
      obtain ⟨he, ha0, ha1⟩ := rread_err hk
      rw [len_data] at ha1
      have he' : (e != 0) = true := by simpa using he
      have HR := Lib.hid (rread_errc (s := s) (by omega) hk w)
      have HS := Lib.hid (fun W => rsame_any ruNil (fun _ => none) (fun _ => none) (fun _ => 0) (fun _ => 0) (fun _ => 0) W (ruNil_rd W) (ruNil_rd W) (fun _ => by decide))
      unfold ruV ruNil at HR HS
      dsimp only at HR HS
      clear hk hbig he
      go_enter Tryz.func3, Tryz.ntmps3
      go_wp2_with fail
      refine HR.out.mono ?_
      rintro e' w1 ⟨rfl, hb1⟩
      have hz1 := hb1.size
      go_wp2_with fail
      refine (HS.out _).mono ?_
      rintro e' w2 ⟨rfl, hb2⟩
      have hb3 : Below w.heap.size w w2 := bthen (hb1.alloc hz1 _) hb2 (by simp; omega)
      go_wp2_with fail
      refine (HV.out _).mono ?_
      rintro e' w3 ⟨rfl, hb4⟩
      go_wp2
      go_ret
      exact ⟨rfl, bthen hb3 hb4 hb3.size⟩
end Go.Proofs.YtnelecjjbmjhaaaGreat
