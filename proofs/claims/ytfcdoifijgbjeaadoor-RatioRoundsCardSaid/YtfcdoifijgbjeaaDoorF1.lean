/- RatioLowest: the walk. -/
import Derived.Test.YtfcdoifijgbjeaaDoorF0
namespace Go.Proofs.YtfcdoifijgbjeaaDoor
open Go.RowKit

set_option maxHeartbeats 400000 in
theorem small_any (n r : Int) (w : World) (hr : n.tmod 1000000001 = r) (h1 : -1000000000 ≤ r) (h2 : r ≤ 1000000000) :
    Calls Tryd.prog 12 #[.int .i64 n] w fun e w' => e = .returned (.int .i64 r) ∧ w = w' := by
  have h3 : wrap64 r = r := by unfold wrap64; omega
  go_enter Tryd.func12, Tryd.ntmps12
  go_wp2
  go_ret
  exact ⟨by first | rfl | (rw [hr]; rfl) | (rw [hr, h3]; rfl), rfl⟩

set_option maxHeartbeats 1000000 in
theorem Gcd_any (x y : Nat) (w : World) (hx : x < 18446744073709551616) (hy : y < 18446744073709551616) :
    Calls Tryd.prog 14 #[.int .u64 x, .int .u64 y] w fun e w' => e = .returned (.int .u64 (Nat.gcd x y : Nat)) ∧ ∃ m, w' = w.drewN m := by
  have HX := Lib.hid hx
  have HY := Lib.hid hy
  clear hx hy
  go_enter Tryd.func14, Tryd.ntmps14
  go_wp2_with fail
  go_loopg [0, 1] y (fun gk a b wr => ∃ G : Nat, b = .int .u64 (gk : Nat) ∧ a = .int .u64 (G : Nat) ∧ gk < 18446744073709551616 ∧ G < 18446744073709551616 ∧ Nat.gcd G gk = Nat.gcd x y ∧ ∃ m, wr = w.drewN m)
  case atStart => exact ⟨x, rfl, rfl, HY.out, HX.out, rfl, 0, rfl⟩
  case round =>
    obtain ⟨G, rfl, rfl, hz, hg, he, m', rfl⟩ := hrel
    have HE := Lib.hid he
    obtain ⟨f1, f2⟩ := rem_facts (g := G) (x := gk) hg
    have HR : Hid (Nat.gcd gk (G % gk) = Nat.gcd G gk) := Lib.hid (gcd_round G gk)
    have HZ' := Lib.hid hz
    clear he hg hz
    by_cases h0 : gk = 0
    · subst h0
      have hf : G = Nat.gcd x y := by
        have h1 := HE.out
        rw [Nat.gcd_zero_right] at h1
        exact h1
      have HF := Lib.hid hf
      clear f1 f2 hf
      go_wp2_with fail
      go_ret
      exact ⟨by rw [← HF.out]; rfl, m', rfl⟩
    · have hb : ((gk : Int) == 0) = false := by simp; omega
      have hb2 : 0 < (gk : Int) := by omega
      have hlt3 : G % gk < gk := Nat.mod_lt _ (by omega)
      go_wp2_with fail
      go_quiet (fail)
      go_wp2_with fail
      go_roundg (G % gk)
      case measure => exact hlt3
      case rel => exact ⟨gk, by first | rfl | go_num, rfl, by have := HZ'.out; omega, HZ'.out, by rw [HR.out, HE.out], m' + nq, (World.drewN_drewN _ _ _).trans (by rfl)⟩
set_option maxHeartbeats 1000000 in
set_option maxRecDepth 100000 in
theorem lowest_zero (n d x y : Int) (w : World) (ht : Tabs w) (hx : n.tmod 1000000001 = x) (hy : d.tmod 1000000001 = y) (hx1 : -1000000000 ≤ x) (hx2 : x ≤ 1000000000) (hy1 : -1000000000 ≤ y) (hy2 : y ≤ 1000000000)
    (hM : ∀ w, Calls Tryd.prog 13 #[.int .i64 x, .int .i64 y] w (Ret3 w 0 0 1)) (hd0 : (y == 0) = true) :
    Calls Tryd.prog 3 #[.int .i64 n, .int .i64 d] w fun e w' => e = .returned (.bool true) ∧ Below w.heap.size w w' := by
  have HM := Lib.hid hM
  clear hM
  have T0 : Hid (Trk w w) := Lib.hid ⟨ht, Below.refl _ _⟩
  clear ht
  have hS1 := Lib.hid (fun w => small_any n x w hx hx1 hx2)
  have hS2 := Lib.hid (fun w => small_any d y w hy hy1 hy2)
  clear hx hy
  go_enter Tryd.func3, Tryd.ntmps3
  go_wp2_with fail
  refine (head01 _ T0.out.tabs).mono ?_
  rintro e w1 ⟨rfl, hb⟩
  have T1 := Lib.hid (T0.out.step hb)
  clear hb
  go_wp2_with fail
  refine (hS1.out _).mono ?_
  rintro e wx ⟨rfl, rfl⟩
  go_wp2_with fail
  refine (hS2.out _).mono ?_
  rintro e wx ⟨rfl, rfl⟩
  go_wp2_with fail
  refine (HM.out _).mono ?_
  rintro e w2 ⟨rfl, hb⟩
  have T2 := Lib.hid (T1.out.step hb)
  clear hb
  have T3 := Lib.hid (T2.out.alloc (.cells #[.int .i64 0, .int .i64 0] 25))
  have A3 := Lib.hid (C2.new w2 (.int .i64 0) (.int .i64 0) 25)
  obtain ⟨c0, c1⟩ := A3.out.cells
  go_wp2_with fail
  go_ret
  exact ⟨rfl, T3.out.bel⟩
set_option maxHeartbeats 1000000 in
set_option maxRecDepth 100000 in
theorem lowest_over (n d x y : Int) (X Y G L : Nat) (w : World) (ht : Tabs w) (hx : n.tmod 1000000001 = x) (hy : d.tmod 1000000001 = y) (hx1 : -1000000000 ≤ x) (hx2 : x ≤ 1000000000) (hy1 : -1000000000 ≤ y) (hy2 : y ≤ 1000000000)
    (hM : ∀ w, Calls Tryd.prog 13 #[.int .i64 x, .int .i64 y] w (Ret3 w 0 0 2)) (h0 : y ≠ 0) (eX : x.natAbs = X) (eY : y.natAbs = Y) (eG : Nat.gcd X Y = G) (eL : Y / G = L) (hG : 0 < G) (hL : 1000000 < L) :
    Calls Tryd.prog 3 #[.int .i64 n, .int .i64 d] w fun e w' => e = .returned (.bool true) ∧ Below w.heap.size w w' := by
  have HGc := Lib.hid (fun w => Gcd_any X Y w (by omega) (by omega))
  rw [eG] at HGc
  have MX : Hid (max x (-x) = (X : Int)) := Lib.hid (by omega)
  have MY : Hid (max y (-y) = (Y : Int)) := Lib.hid (by omega)
  have hd0 : (y == 0) = false := by simp [h0]
  have hYb : (Y : Int) ≤ 1000000000 := by omega
  have hGb : (G : Int) ≤ 1000000000 := by have := Nat.le_of_dvd (by omega) (Nat.gcd_dvd_right X Y); omega
  have f1 : (Y : Int) / (G : Int) = (L : Int) := by rw [← eL]; rfl
  have f2 : (Y : Int).tdiv (G : Int) = (L : Int) := by rw [Int.tdiv_eq_ediv_of_nonneg (by omega), f1]
  have f3 : (0 : Int) < (G : Int) := by omega
  have f4 : ¬ G = 0 := by omega
  have f5 : ¬ (G : Int) = 0 := by omega
  have f6 : ((G : Int) == 0) = false := by simp; omega
  have hLb : (L : Int) ≤ 1000000000 := by have : L ≤ Y := by rw [← eL]; exact Nat.div_le_self _ _
                                          omega
  have hL' : 1000000 < (L : Int) := by omega
  clear h0 eX eY eG eL hG hL
  have HM := Lib.hid hM
  clear hM
  have T0 : Hid (Trk w w) := Lib.hid ⟨ht, Below.refl _ _⟩
  clear ht
  have hS1 := Lib.hid (fun w => small_any n x w hx hx1 hx2)
  have hS2 := Lib.hid (fun w => small_any d y w hy hy1 hy2)
  clear hx hy
  go_enter Tryd.func3, Tryd.ntmps3
  go_wp2_with fail
  refine (head01 _ T0.out.tabs).mono ?_
  rintro e w1 ⟨rfl, hb⟩
  have T1 := Lib.hid (T0.out.step hb)
  clear hb
  go_wp2_with fail
  refine (hS1.out _).mono ?_
  rintro e wx ⟨rfl, rfl⟩
  go_wp2_with fail
  refine (hS2.out _).mono ?_
  rintro e wx ⟨rfl, rfl⟩
  go_wp2_with fail
  refine (HM.out _).mono ?_
  rintro e w2 ⟨rfl, hb⟩
  have T2 := Lib.hid (T1.out.step hb)
  clear hb
  have T3 := Lib.hid (T2.out.alloc (.cells #[.int .i64 0, .int .i64 0] 25))
  have A3 := Lib.hid (C2.new w2 (.int .i64 0) (.int .i64 0) 25)
  obtain ⟨c0, c1⟩ := A3.out.cells
  go_wp2_with fail
  rw [MX.out, MY.out]
  generalize w2.alloc (.cells #[.int .i64 0, .int .i64 0] 25) = w3 at *
  generalize w2.heap.size = N at *
  clear c0 c1
  refine (HGc.out _).mono ?_
  rintro e w4 ⟨rfl, m4, hw4⟩
  have hb : Below w3.heap.size w3 w4 := hw4 ▸ drewN_below w3 m4
  have T4 := Lib.hid (T3.out.step hb)
  have A4 := Lib.hid (A3.out.step hb)
  clear hb hw4
  obtain ⟨c0, c1⟩ := A4.out.cells
  go_wp2_with fail
  go_ret
  exact ⟨rfl, T4.out.bel⟩
set_option maxHeartbeats 1000000 in
set_option maxRecDepth 100000 in
theorem lowest_ok (n d x y sn sd : Int) (X Y G L : Nat) (w : World) (ht : Tabs w) (hx : n.tmod 1000000001 = x) (hy : d.tmod 1000000001 = y) (hx1 : -1000000000 ≤ x) (hx2 : x ≤ 1000000000) (hy1 : -1000000000 ≤ y) (hy2 : y ≤ 1000000000)
    (hM : ∀ w, Calls Tryd.prog 13 #[.int .i64 x, .int .i64 y] w (Ret3 w sn sd 0))
    (hV : ∀ w, Calls Tryd.prog 15 #[.agg #[.int .i64 sn, .int .i64 sd]] w fun e w' => e = .returned (.bool true) ∧ Below w.heap.size w w')
    (h0 : y ≠ 0) (eX : x.natAbs = X) (eY : y.natAbs = Y) (eG : Nat.gcd X Y = G) (eL : Y / G = L) (hG : 0 < G) (hL : L ≤ 1000000) (m1 : wrap64 (sn * y) = sn * y) (m2 : wrap64 (x * sd) = x * sd) (m3 : (sn * y == x * sd) = true) (m4 : (sd == (L : Int)) = true) :
    Calls Tryd.prog 3 #[.int .i64 n, .int .i64 d] w fun e w' => e = .returned (.bool true) ∧ Below w.heap.size w w' := by
  have HGc := Lib.hid (fun w => Gcd_any X Y w (by omega) (by omega))
  rw [eG] at HGc
  have MX : Hid (max x (-x) = (X : Int)) := Lib.hid (by omega)
  have MY : Hid (max y (-y) = (Y : Int)) := Lib.hid (by omega)
  have hd0 : (y == 0) = false := by simp [h0]
  have hYb : (Y : Int) ≤ 1000000000 := by omega
  have hGb : (G : Int) ≤ 1000000000 := by have := Nat.le_of_dvd (by omega) (Nat.gcd_dvd_right X Y); omega
  have f1 : (Y : Int) / (G : Int) = (L : Int) := by rw [← eL]; rfl
  have f2 : (Y : Int).tdiv (G : Int) = (L : Int) := by rw [Int.tdiv_eq_ediv_of_nonneg (by omega), f1]
  have f3 : (0 : Int) < (G : Int) := by omega
  have f4 : ¬ G = 0 := by omega
  have f5 : ¬ (G : Int) = 0 := by omega
  have f6 : ((G : Int) == 0) = false := by simp; omega
  have hLb : (L : Int) ≤ 1000000000 := by have : L ≤ Y := by rw [← eL]; exact Nat.div_le_self _ _
                                          omega
  have hL' : (L : Int) ≤ 1000000 := by omega
  have HV := Lib.hid hV
  clear h0 eX eY eG eL hG hL hV
  have HM := Lib.hid hM
  clear hM
  have T0 : Hid (Trk w w) := Lib.hid ⟨ht, Below.refl _ _⟩
  clear ht
  have hS1 := Lib.hid (fun w => small_any n x w hx hx1 hx2)
  have hS2 := Lib.hid (fun w => small_any d y w hy hy1 hy2)
  clear hx hy
  go_enter Tryd.func3, Tryd.ntmps3
  go_wp2_with fail
  refine (head01 _ T0.out.tabs).mono ?_
  rintro e w1 ⟨rfl, hb⟩
  have T1 := Lib.hid (T0.out.step hb)
  clear hb
  go_wp2_with fail
  refine (hS1.out _).mono ?_
  rintro e wx ⟨rfl, rfl⟩
  go_wp2_with fail
  refine (hS2.out _).mono ?_
  rintro e wx ⟨rfl, rfl⟩
  go_wp2_with fail
  refine (HM.out _).mono ?_
  rintro e w2 ⟨rfl, hb⟩
  have T2 := Lib.hid (T1.out.step hb)
  clear hb
  have T3 := Lib.hid (T2.out.alloc (.cells #[.int .i64 sn, .int .i64 sd] 25))
  have A3 := Lib.hid (C2.new w2 (.int .i64 sn) (.int .i64 sd) 25)
  obtain ⟨c0, c1⟩ := A3.out.cells
  go_wp2_with fail
  rw [MX.out, MY.out]
  generalize w2.alloc (.cells #[.int .i64 sn, .int .i64 sd] 25) = w3 at *
  generalize w2.heap.size = N at *
  clear c0 c1
  refine (HGc.out _).mono ?_
  rintro e w4 ⟨rfl, m4, hw4⟩
  have hb : Below w3.heap.size w3 w4 := hw4 ▸ drewN_below w3 m4
  have T4 := Lib.hid (T3.out.step hb)
  have A4 := Lib.hid (A3.out.step hb)
  clear hb hw4
  obtain ⟨c0, c1⟩ := A4.out.cells
  go_wp2_with fail
  refine (HV.out _).mono ?_
  rintro e w5 ⟨rfl, hb⟩
  have T5 := Lib.hid (T4.out.step hb)
  have A5 := Lib.hid (A4.out.step hb)
  clear hb c0 c1
  obtain ⟨c0, c1⟩ := A5.out.cells
  go_wp2_with fail
  go_ret
  exact ⟨rfl, T5.out.bel⟩

theorem law_RatioLowest (n d : Int) (w : World) (_ : (Lit.int .i64 n).wf = true) (_ : (Lit.int .i64 d).wf = true) (ht : Tabs w) :
    Calls Tryd.prog 3 #[.int .i64 n, .int .i64 d] w fun e w' => e = .returned (.bool true) ∧ Below w.heap.size w w' := by
  have a1 : n.tmod 1000000001 < 1000000001 := Int.tmod_lt_of_pos n (by decide)
  have a2 : -1000000001 < n.tmod 1000000001 := Int.lt_tmod_of_pos n (by decide)
  have b1 : d.tmod 1000000001 < 1000000001 := Int.tmod_lt_of_pos d (by decide)
  have b2 : -1000000001 < d.tmod 1000000001 := Int.lt_tmod_of_pos d (by decide)
  generalize hx : n.tmod 1000000001 = x at *
  generalize hy : d.tmod 1000000001 = y at *
  by_cases h0 : y = 0
  · exact lowest_zero n d x y w ht hx hy (by omega) (by omega) (by omega) (by omega) (fun w => by rw [h0]; exact Make_zero x w) (by simp [h0])
  · have hM := fun w => Make_any x y w h0 (by omega) (by omega) (by omega) (by omega)
    have hG : 0 < Nat.gcd x.natAbs y.natAbs := gcd_pos x y h0
    have hden := div_den x y h0
    have hnum := div_numAbs x y h0
    have nb : x.natAbs / Nat.gcd x.natAbs y.natAbs ≤ x.natAbs := Nat.div_le_self _ _
    by_cases hL : 1000000 < y.natAbs / Nat.gcd x.natAbs y.natAbs
    · have hno : ¬ Rok (Rat.divInt x y) := fun h => by have := h.2; omega
      rw [resN_no hno, resD_no hno, resE_no hno] at hM
      exact lowest_over n d x y _ _ _ _ w ht hx hy (by omega) (by omega) (by omega) (by omega) hM h0 rfl rfl rfl rfl hG hL
    · have hok : Rok (Rat.divInt x y) := ⟨by omega, by omega⟩
      rw [resN_ok hok, resD_ok hok, resE_ok hok] at hM
      have hcross : (Rat.divInt x y).num * y = x * (Rat.divInt x y).den :=
        (Rat.divInt_eq_divInt_iff (by have := (Rat.divInt x y).den_nz; omega) h0).1 (Rat.num_divInt_den _)
      have c1 := mul_bd (x := (Rat.divInt x y).num) (y := y) (by omega : (Rat.divInt x y).num.natAbs ≤ 1000000000) (by omega : y.natAbs ≤ 1000000000)
      have m1 := wrap_abs c1 (by omega)
      exact lowest_ok n d x y _ _ _ _ _ _ w ht hx hy (by omega) (by omega) (by omega) (by omega) hM (V_ok hok) h0 rfl rfl rfl rfl hG (by omega) m1 (by rw [← hcross]; exact m1) (by rw [hcross]; simp) (by rw [hden]; simp)
end Go.Proofs.YtfcdoifijgbjeaaDoor
