/- Layer 01: product. -/
import Derived.Test.YtfcdoifijgbjeaaDoorE4
import Derived.Test.YtfcdoifijgbjeaaDoorItoa
namespace Go.Proofs.YtfcdoifijgbjeaaDoor
open Go.RowKit

set_option maxHeartbeats 1000000 in
theorem product_over (an ad num den : Int) (W X Y Z g h a b c d H L : Nat) (w : World)
    (hW : ∀ w, Calls Tryd.prog 38 #[.int .i64 an] w fun e w' => e = .returned (.int .u64 W) ∧ w' = w)
    (hX : ∀ w, Calls Tryd.prog 38 #[.int .i64 ad] w fun e w' => e = .returned (.int .u64 X) ∧ w' = w)
    (hY : ∀ w, Calls Tryd.prog 38 #[.int .i64 num] w fun e w' => e = .returned (.int .u64 Y) ∧ w' = w)
    (hZ : ∀ w, Calls Tryd.prog 38 #[.int .i64 den] w fun e w' => e = .returned (.int .u64 Z) ∧ w' = w)
    (bW : W < 18446744073709551616) (bX : X < 18446744073709551616) (bY : Y < 18446744073709551616) (bZ : Z < 18446744073709551616) (eg : g = Nat.gcd W Z) (eh : h = Nat.gcd Y X) (g0 : 0 < g) (h0 : 0 < h)
    (qa : W / g = a) (qb : Z / g = b) (qc : Y / h = c) (qd : X / h = d) (hH : a * c / 18446744073709551616 = H) (hL : a * c % 18446744073709551616 = L) (hdb : d * b < 18446744073709551616) (hne : H ≠ 0) :
    Calls Tryd.prog 43 #[.agg #[.int .i64 an, .int .i64 ad], .int .i64 num, .int .i64 den] w fun e' w' => e' = .returned (.tuple #[.agg #[.int .i64 0, .int .i64 0], .int .i64 2]) ∧ Below w.heap.size w w' := by
  have HW := Lib.hid hW
  have HX := Lib.hid hX
  have HY := Lib.hid hY
  have HZ := Lib.hid hZ
  have HC1 := Lib.hid (fun a b w => common_any W Z a b w bW bZ)
  have HC2 := Lib.hid (fun a b w => common_any Y X a b w bY bX)
  have ba : a ≤ W := by rw [← qa]; exact Nat.div_le_self _ _
  have bb : b ≤ Z := by rw [← qb]; exact Nat.div_le_self _ _
  have bc : c ≤ Y := by rw [← qc]; exact Nat.div_le_self _ _
  have bd : d ≤ X := by rw [← qd]; exact Nat.div_le_self _ _
  have HM1 := Lib.hid (fun w => Tryd.bits_Mul64 a c (by omega) (by omega) w)
  have HM2 := Lib.hid (fun w => Tryd.bits_Mul64 d b (by omega) (by omega) w)
  rw [← eg] at HC1
  rw [← eh] at HC2
  rw [hH, hL] at HM1
  have z1 : d * b / 18446744073709551616 = 0 := Nat.div_eq_of_lt hdb
  have z2 : d * b % 18446744073709551616 = d * b := Nat.mod_eq_of_lt hdb
  rw [z1, z2] at HM2
  have f1 : (W : Int) / (g : Int) = (a : Int) := by rw [← qa]; rfl
  have f2 : (Z : Int) / (g : Int) = (b : Int) := by rw [← qb]; rfl
  have f3 : (Y : Int) / (h : Int) = (c : Int) := by rw [← qc]; rfl
  have f4 : (X : Int) / (h : Int) = (d : Int) := by rw [← qd]; rfl
  have t1 : (W : Int).tdiv (g : Int) = (a : Int) := by rw [Int.tdiv_eq_ediv_of_nonneg (by omega), f1]
  have t2 : (Z : Int).tdiv (g : Int) = (b : Int) := by rw [Int.tdiv_eq_ediv_of_nonneg (by omega), f2]
  have t3 : (Y : Int).tdiv (h : Int) = (c : Int) := by rw [Int.tdiv_eq_ediv_of_nonneg (by omega), f3]
  have t4 : (X : Int).tdiv (h : Int) = (d : Int) := by rw [Int.tdiv_eq_ediv_of_nonneg (by omega), f4]
  have u1 : IntKind.u64.wrap (a : Int) = a := wrap_u64_in (by omega) (by omega)
  have u2 : IntKind.u64.wrap (b : Int) = b := wrap_u64_in (by omega) (by omega)
  have u3 : IntKind.u64.wrap (c : Int) = c := wrap_u64_in (by omega) (by omega)
  have u4 : IntKind.u64.wrap (d : Int) = d := wrap_u64_in (by omega) (by omega)
  have v1 : ¬ g = 0 := by omega
  have v2 : ¬ (g : Int) = 0 := by omega
  have v3 : ((g : Int) == 0) = false := by simp; omega
  have v4 : ¬ h = 0 := by omega
  have v5 : ¬ (h : Int) = 0 := by omega
  have v6 : ((h : Int) == 0) = false := by simp; omega
  have hH1 : ((H : Int) != 0) = true := by simp; omega
  have hH2 : ((H : Int) == 0) = false := by simp; omega
  clear hne
  clear hW hX hY hZ eg eh qa qb qc qd hH hL z1 z2 ba bb bc bd bW bX bY bZ g0 h0 hdb
  generalize d * b = M at *
  have hc0 := cells2_below (w' := (w.alloc (.cells #[.int .i64 an, .int .i64 ad] 25)).alloc (.cells #[.int .i64 0, .int .i64 0] 25)) (⟨new0 rfl rfl, new0 rfl rfl⟩ : (w.alloc (.cells #[.int .i64 an, .int .i64 ad] 25)).cell? ⟨w.heap.size, 0, none⟩ = some (.int .i64 an) ∧ (w.alloc (.cells #[.int .i64 an, .int .i64 ad] 25)).cell? ⟨w.heap.size, 1, none⟩ = some (.int .i64 ad)) ((Below.refl _ _).alloc (Nat.le_refl _) _) (by simp)
  have ht0 := there_new (w.alloc (.cells #[.int .i64 an, .int .i64 ad] 25)) #[.int .i64 0, .int .i64 0] 25 2 (by simp)
  have hr0 := rangeAt_new (w.alloc (.cells #[.int .i64 an, .int .i64 ad] 25)) #[.int .i64 0, .int .i64 0] 25
  have hb0 := ((Below.refl w.heap.size w).alloc (Nat.le_refl _) (.cells #[.int .i64 an, .int .i64 ad] 25)).alloc (by simp) (.cells #[.int .i64 0, .int .i64 0] 25)
  have hz : (w.alloc (.cells #[.int .i64 an, .int .i64 ad] 25)).heap.size = w.heap.size + 1 := by simp
  rw [hz] at ht0 hr0
  clear hz
  have hz : ((w.alloc (.cells #[.int .i64 an, .int .i64 ad] 25)).alloc (.cells #[.int .i64 0, .int .i64 0] 25)).heap.size = w.heap.size + 2 := by simp
  have hn0 : w.heap.size < ((w.alloc (.cells #[.int .i64 an, .int .i64 ad] 25)).alloc (.cells #[.int .i64 0, .int .i64 0] 25)).heap.size := by omega
  have hn1 : w.heap.size + 1 < ((w.alloc (.cells #[.int .i64 an, .int .i64 ad] 25)).alloc (.cells #[.int .i64 0, .int .i64 0] 25)).heap.size := by omega
  clear hz
  go_enter Tryd.func43, Tryd.ntmps43
  go_wp2_with fail
  generalize ((w.alloc (.cells #[.int .i64 an, .int .i64 ad] 25)).alloc (.cells #[.int .i64 0, .int .i64 0] 25)) = w0 at *
  have HT0 := Lib.hid ht0
  have HR0 := Lib.hid hr0
  have HB0 := Lib.hid hb0
  have HC0 := Lib.hid hc0
  obtain ⟨c0, c1⟩ := hc0
  clear ht0 hb0 hr0
  go_quiet ((first | (go_at_call_of 38 (Value.int .i64 an); exact Calls.quiet_of_same (HW.out _)) | (go_at_call_of 38 (Value.int .i64 ad); exact Calls.quiet_of_same (HX.out _)) | (go_at_call_of 38 (Value.int .i64 num); exact Calls.quiet_of_same (HY.out _)) | (go_at_call_of 38 (Value.int .i64 den); exact Calls.quiet_of_same (HZ.out _))))
  have B1 := Lib.hid (drewN_below w0 nq)
  generalize w0.drewN nq = w1 at *
  clear c0 c1
  go_wp2_with fail
  refine (HC1.out _ _ _ (by exact new0 rfl rfl) (by exact new0 rfl rfl)).mono ?_
  rintro e w2 ⟨rfl, m2, hw2⟩
  have hb2 : Below w1.heap.size w1 w2 := by
    have hx := (Below.refl w1.heap.size w1).alloc (Nat.le_refl _) (.cells #[.int .u64 W, .int .u64 Z] 29)
    rw [hw2]; exact ⟨hx.os, hx.tape, hx.output, hx.size, hx.block⟩
  have B2 := Lib.hid (B1.out.trans (hb2.mono B1.out.size))
  clear hw2 hb2 B1
  go_wp2_with fail
  refine (HC2.out _ _ _ (by exact new0 rfl rfl) (by exact new0 rfl rfl)).mono ?_
  rintro e w3 ⟨rfl, m3, hw3⟩
  have hb3 : Below w2.heap.size w2 w3 := by
    have hx := (Below.refl w2.heap.size w2).alloc (Nat.le_refl _) (.cells #[.int .u64 Y, .int .u64 X] 29)
    rw [hw3]; exact ⟨hx.os, hx.tape, hx.output, hx.size, hx.block⟩
  have B3 := Lib.hid (B2.out.trans (hb3.mono B2.out.size))
  clear hw3 hb3 B2
  go_wp2_with fail
  go_quiet ((go_at_call 54; exact Calls.quiet_of_same (HM1.out _)))
  have B4 := Lib.hid (B3.out.trans ((drewN_below w3 nq).mono B3.out.size))
  generalize w3.drewN nq = w4 at *
  clear B3
  go_wp2_with fail
  go_quiet ((go_at_call 54; exact Calls.quiet_of_same (HM2.out _)))
  have B5 := Lib.hid (B4.out.trans ((drewN_below w4 nq).mono B4.out.size))
  generalize w4.drewN nq = w5 at *
  clear B4
  obtain ⟨c0, c1⟩ := cells2_below HC0.out B5.out hn0
  have ht5 := there_below HT0.out B5.out hn1
  have hr5 := rangeAt_below HR0.out B5.out hn1
  have hb5 := HB0.out.trans (B5.out.mono (Nat.le_of_lt hn0))
  have k0 := (ht5 0 (by omega)).2
  have k1 := (ht5 1 (by omega)).2
  have d0 := there_cell ht5 0 (by omega)
  have d1 := there_cell ht5 1 (by omega)
  rw [Nat.zero_add] at k0 k1 d0 d1
  have HR6 := Lib.hid (rangeAt_set (rangeAt_set hr5 0 (.int .i64 0)) 1 (.int .i64 0))
  have HB6 := Lib.hid ((hb5.setCell (p := ⟨w.heap.size + 1, 0, none⟩) (Nat.le_succ _) (.int .i64 0)).setCell (p := ⟨w.heap.size + 1, 1, none⟩) (Nat.le_succ _) (.int .i64 0))
  clear ht5 hr5 hb5 B5
  go_wp2_with fail
  exact bodyPost_ret (results_cell_tmp_mid Tryd.results43 _ _ (w.heap.size + 1) 0 [.int .i64 0, .int .i64 0] _ rfl HR6.out Tryd.underlying25 rfl (by kernel_rfl)) rfl ⟨rfl, HB6.out⟩
set_option maxHeartbeats 1000000 in
theorem product_red (an ad num den : Int) (W X Y Z g h a b c d H L : Nat) (x y e : Int) (w : World)
    (hW : ∀ w, Calls Tryd.prog 38 #[.int .i64 an] w fun e w' => e = .returned (.int .u64 W) ∧ w' = w)
    (hX : ∀ w, Calls Tryd.prog 38 #[.int .i64 ad] w fun e w' => e = .returned (.int .u64 X) ∧ w' = w)
    (hY : ∀ w, Calls Tryd.prog 38 #[.int .i64 num] w fun e w' => e = .returned (.int .u64 Y) ∧ w' = w)
    (hZ : ∀ w, Calls Tryd.prog 38 #[.int .i64 den] w fun e w' => e = .returned (.int .u64 Z) ∧ w' = w)
    (bW : W < 18446744073709551616) (bX : X < 18446744073709551616) (bY : Y < 18446744073709551616) (bZ : Z < 18446744073709551616) (eg : g = Nat.gcd W Z) (eh : h = Nat.gcd Y X) (g0 : 0 < g) (h0 : 0 < h)
    (qa : W / g = a) (qb : Z / g = b) (qc : Y / h = c) (qd : X / h = d) (hH : a * c / 18446744073709551616 = H) (hL : a * c % 18446744073709551616 = L) (hdb : d * b < 18446744073709551616) (hne : H = 0)
    (hRd : ∀ w, Calls Tryd.prog 37 #[.bool (decide (an < 0) != (decide (num < 0) != decide (den < 0))), .int .u64 L, .int .u64 (d * b : Nat)] w fun e' w' => e' = .returned (.tuple #[.agg #[.int .i64 x, .int .i64 y], .int .i64 e]) ∧ Below w.heap.size w w') :
    Calls Tryd.prog 43 #[.agg #[.int .i64 an, .int .i64 ad], .int .i64 num, .int .i64 den] w fun e' w' => e' = .returned (.tuple #[.agg #[.int .i64 x, .int .i64 y], .int .i64 e]) ∧ Below w.heap.size w w' := by
  subst hne
  have HRd := Lib.hid hRd
  clear hRd
  have HW := Lib.hid hW
  have HX := Lib.hid hX
  have HY := Lib.hid hY
  have HZ := Lib.hid hZ
  have HC1 := Lib.hid (fun a b w => common_any W Z a b w bW bZ)
  have HC2 := Lib.hid (fun a b w => common_any Y X a b w bY bX)
  have ba : a ≤ W := by rw [← qa]; exact Nat.div_le_self _ _
  have bb : b ≤ Z := by rw [← qb]; exact Nat.div_le_self _ _
  have bc : c ≤ Y := by rw [← qc]; exact Nat.div_le_self _ _
  have bd : d ≤ X := by rw [← qd]; exact Nat.div_le_self _ _
  have HM1 := Lib.hid (fun w => Tryd.bits_Mul64 a c (by omega) (by omega) w)
  have HM2 := Lib.hid (fun w => Tryd.bits_Mul64 d b (by omega) (by omega) w)
  rw [← eg] at HC1
  rw [← eh] at HC2
  rw [hH, hL] at HM1
  have z1 : d * b / 18446744073709551616 = 0 := Nat.div_eq_of_lt hdb
  have z2 : d * b % 18446744073709551616 = d * b := Nat.mod_eq_of_lt hdb
  rw [z1, z2] at HM2
  have f1 : (W : Int) / (g : Int) = (a : Int) := by rw [← qa]; rfl
  have f2 : (Z : Int) / (g : Int) = (b : Int) := by rw [← qb]; rfl
  have f3 : (Y : Int) / (h : Int) = (c : Int) := by rw [← qc]; rfl
  have f4 : (X : Int) / (h : Int) = (d : Int) := by rw [← qd]; rfl
  have t1 : (W : Int).tdiv (g : Int) = (a : Int) := by rw [Int.tdiv_eq_ediv_of_nonneg (by omega), f1]
  have t2 : (Z : Int).tdiv (g : Int) = (b : Int) := by rw [Int.tdiv_eq_ediv_of_nonneg (by omega), f2]
  have t3 : (Y : Int).tdiv (h : Int) = (c : Int) := by rw [Int.tdiv_eq_ediv_of_nonneg (by omega), f3]
  have t4 : (X : Int).tdiv (h : Int) = (d : Int) := by rw [Int.tdiv_eq_ediv_of_nonneg (by omega), f4]
  have u1 : IntKind.u64.wrap (a : Int) = a := wrap_u64_in (by omega) (by omega)
  have u2 : IntKind.u64.wrap (b : Int) = b := wrap_u64_in (by omega) (by omega)
  have u3 : IntKind.u64.wrap (c : Int) = c := wrap_u64_in (by omega) (by omega)
  have u4 : IntKind.u64.wrap (d : Int) = d := wrap_u64_in (by omega) (by omega)
  have v1 : ¬ g = 0 := by omega
  have v2 : ¬ (g : Int) = 0 := by omega
  have v3 : ((g : Int) == 0) = false := by simp; omega
  have v4 : ¬ h = 0 := by omega
  have v5 : ¬ (h : Int) = 0 := by omega
  have v6 : ((h : Int) == 0) = false := by simp; omega
  clear hW hX hY hZ eg eh qa qb qc qd hH hL z1 z2 ba bb bc bd bW bX bY bZ g0 h0 hdb
  generalize d * b = M at *
  have hc0 := cells2_below (w' := (w.alloc (.cells #[.int .i64 an, .int .i64 ad] 25)).alloc (.cells #[.int .i64 0, .int .i64 0] 25)) (⟨new0 rfl rfl, new0 rfl rfl⟩ : (w.alloc (.cells #[.int .i64 an, .int .i64 ad] 25)).cell? ⟨w.heap.size, 0, none⟩ = some (.int .i64 an) ∧ (w.alloc (.cells #[.int .i64 an, .int .i64 ad] 25)).cell? ⟨w.heap.size, 1, none⟩ = some (.int .i64 ad)) ((Below.refl _ _).alloc (Nat.le_refl _) _) (by simp)
  have ht0 := there_new (w.alloc (.cells #[.int .i64 an, .int .i64 ad] 25)) #[.int .i64 0, .int .i64 0] 25 2 (by simp)
  have hr0 := rangeAt_new (w.alloc (.cells #[.int .i64 an, .int .i64 ad] 25)) #[.int .i64 0, .int .i64 0] 25
  have hb0 := ((Below.refl w.heap.size w).alloc (Nat.le_refl _) (.cells #[.int .i64 an, .int .i64 ad] 25)).alloc (by simp) (.cells #[.int .i64 0, .int .i64 0] 25)
  have hz : (w.alloc (.cells #[.int .i64 an, .int .i64 ad] 25)).heap.size = w.heap.size + 1 := by simp
  rw [hz] at ht0 hr0
  clear hz
  have hz : ((w.alloc (.cells #[.int .i64 an, .int .i64 ad] 25)).alloc (.cells #[.int .i64 0, .int .i64 0] 25)).heap.size = w.heap.size + 2 := by simp
  have hn0 : w.heap.size < ((w.alloc (.cells #[.int .i64 an, .int .i64 ad] 25)).alloc (.cells #[.int .i64 0, .int .i64 0] 25)).heap.size := by omega
  have hn1 : w.heap.size + 1 < ((w.alloc (.cells #[.int .i64 an, .int .i64 ad] 25)).alloc (.cells #[.int .i64 0, .int .i64 0] 25)).heap.size := by omega
  clear hz
  go_enter Tryd.func43, Tryd.ntmps43
  go_wp2_with fail
  generalize ((w.alloc (.cells #[.int .i64 an, .int .i64 ad] 25)).alloc (.cells #[.int .i64 0, .int .i64 0] 25)) = w0 at *
  have HT0 := Lib.hid ht0
  have HR0 := Lib.hid hr0
  have HB0 := Lib.hid hb0
  have HC0 := Lib.hid hc0
  obtain ⟨c0, c1⟩ := hc0
  clear ht0 hb0 hr0
  go_quiet ((first | (go_at_call_of 38 (Value.int .i64 an); exact Calls.quiet_of_same (HW.out _)) | (go_at_call_of 38 (Value.int .i64 ad); exact Calls.quiet_of_same (HX.out _)) | (go_at_call_of 38 (Value.int .i64 num); exact Calls.quiet_of_same (HY.out _)) | (go_at_call_of 38 (Value.int .i64 den); exact Calls.quiet_of_same (HZ.out _))))
  have B1 := Lib.hid (drewN_below w0 nq)
  generalize w0.drewN nq = w1 at *
  clear c0 c1
  go_wp2_with fail
  refine (HC1.out _ _ _ (by exact new0 rfl rfl) (by exact new0 rfl rfl)).mono ?_
  rintro e w2 ⟨rfl, m2, hw2⟩
  have hb2 : Below w1.heap.size w1 w2 := by
    have hx := (Below.refl w1.heap.size w1).alloc (Nat.le_refl _) (.cells #[.int .u64 W, .int .u64 Z] 29)
    rw [hw2]; exact ⟨hx.os, hx.tape, hx.output, hx.size, hx.block⟩
  have B2 := Lib.hid (B1.out.trans (hb2.mono B1.out.size))
  clear hw2 hb2 B1
  go_wp2_with fail
  refine (HC2.out _ _ _ (by exact new0 rfl rfl) (by exact new0 rfl rfl)).mono ?_
  rintro e w3 ⟨rfl, m3, hw3⟩
  have hb3 : Below w2.heap.size w2 w3 := by
    have hx := (Below.refl w2.heap.size w2).alloc (Nat.le_refl _) (.cells #[.int .u64 Y, .int .u64 X] 29)
    rw [hw3]; exact ⟨hx.os, hx.tape, hx.output, hx.size, hx.block⟩
  have B3 := Lib.hid (B2.out.trans (hb3.mono B2.out.size))
  clear hw3 hb3 B2
  go_wp2_with fail
  go_quiet ((go_at_call 54; exact Calls.quiet_of_same (HM1.out _)))
  have B4 := Lib.hid (B3.out.trans ((drewN_below w3 nq).mono B3.out.size))
  generalize w3.drewN nq = w4 at *
  clear B3
  go_wp2_with fail
  go_quiet ((go_at_call 54; exact Calls.quiet_of_same (HM2.out _)))
  have B5 := Lib.hid (B4.out.trans ((drewN_below w4 nq).mono B4.out.size))
  generalize w4.drewN nq = w5 at *
  clear B4
  obtain ⟨c0, c1⟩ := cells2_below HC0.out B5.out hn0
  have ht5 := there_below HT0.out B5.out hn1
  have hr5 := rangeAt_below HR0.out B5.out hn1
  have hb5 := HB0.out.trans (B5.out.mono (Nat.le_of_lt hn0))
  go_wp2_with fail
  refine (HRd.out _).mono ?_
  rintro e w6 ⟨rfl, hb6⟩
  have hs5 := B5.out.size
  have ht6 := there_below ht5 hb6 (Nat.lt_of_lt_of_le hn1 hs5)
  have hr6 := rangeAt_below hr5 hb6 (Nat.lt_of_lt_of_le hn1 hs5)
  have hb7 := hb5.trans (hb6.mono (Nat.le_trans (Nat.le_of_lt hn0) hs5))
  clear hb6 ht5 hr5 hb5 c0 c1
  have k0 := (ht6 0 (by omega)).2
  have k1 := (ht6 1 (by omega)).2
  have d0 := there_cell ht6 0 (by omega)
  have d1 := there_cell ht6 1 (by omega)
  rw [Nat.zero_add] at k0 k1 d0 d1
  have HR6 := Lib.hid (rangeAt_set (rangeAt_set hr6 0 (.int .i64 x)) 1 (.int .i64 y))
  have HB6 := Lib.hid ((hb7.setCell (p := ⟨w.heap.size + 1, 0, none⟩) (Nat.le_succ _) (.int .i64 x)).setCell (p := ⟨w.heap.size + 1, 1, none⟩) (Nat.le_succ _) (.int .i64 y))
  clear ht6 hr6 hb7 B5
  go_wp2_with fail
  exact bodyPost_ret (results_cell_tmp_mid Tryd.results43 _ _ (w.heap.size + 1) 0 [.int .i64 x, .int .i64 y] _ rfl HR6.out Tryd.underlying25 rfl (by kernel_rfl)) rfl ⟨rfl, HB6.out⟩

/-- product: a times num / den, for a valid ratio a and a quotient in lowest terms. -/
theorem product_any (q : Rat) (num den : Int) (w : World) (hq : Rok q) (hn : num.natAbs ≤ 1000000000000) (hd : den.natAbs ≤ 1000000000000) (h0 : den ≠ 0) (hc : Nat.gcd num.natAbs den.natAbs = 1) :
    Calls Tryd.prog 43 #[.agg #[.int .i64 q.num, .int .i64 q.den], .int .i64 num, .int .i64 den] w fun e w' =>
      e = .returned (.tuple #[.agg #[.int .i64 (resN (q * Rat.divInt num den)), .int .i64 (resD (q * Rat.divInt num den))], .int .i64 (resE (q * Rat.divInt num den))]) ∧ Below w.heap.size w w' := by
  obtain ⟨q1, q2⟩ := hq
  have hX : 0 < q.den := by have := q.den_nz; omega
  obtain ⟨g, h, a, b, c, d, eg, eh, hg, hh, qa, qb, qc, qd, e1, e2, e3, e4, hb, hd', hcop⟩ := prod_parts q.num.natAbs q.den num.natAbs den.natAbs hX (by omega) q.reduced hc
  have hrat := prod_rat q.num q.den num den g h a b c d hg hh hb hd' e1 e2 e3 (by rw [← e4])
  rw [q_mul] at hrat
  have m1 := fun w => mag_same q.num w (by omega) (by omega)
  have m2 := fun w => mag_same (q.den : Int) w (by omega) (by omega)
  have m3 := fun w => mag_same num w (by omega) (by omega)
  have m4 := fun w => mag_same den w (by omega) (by omega)
  rw [Int.natAbs_natCast] at m2
  have bd : d ≤ 1000000 := Nat.le_trans (by rw [← qd]; exact Nat.div_le_self _ _) q2
  have bb : b ≤ 1000000000000 := Nat.le_trans (by rw [← qb]; exact Nat.div_le_self _ _) hd
  have hdb : d * b ≤ 1000000 * 1000000000000 := Nat.mul_le_mul bd bb
  have hdb0 : 0 < d * b := Nat.mul_pos hd' hb
  have hdd : Rat.divInt (sgn q.num * sgn num * sgn den * ((a * c : Nat) : Int)) ((d * b : Nat) : Int) = q * Rat.divInt num den := hrat
  have habs := prod_abs q.num num den (a * c)
  by_cases hH : a * c / 18446744073709551616 = 0
  · have hlt : a * c < 18446744073709551616 := by omega
    have hR := fun w => reduced_any (sgn q.num * sgn num * sgn den * ((a * c : Nat) : Int)) ((d * b : Nat) : Int) (a * c) (d * b) (decide (q.num < 0) != (decide (num < 0) != decide (den < 0))) w hlt (by omega) (by omega) habs (Int.natAbs_natCast _)
      (by
        by_cases hz : a * c = 0
        · exact .inl hz
        · exact .inr (prod_sign q.num num den (a * c) hz (d * b)))
    rw [hdd] at hR
    exact product_red q.num q.den num den q.num.natAbs q.den num.natAbs den.natAbs g h a b c d 0 (a * c) _ _ _ w m1 m2 m3 m4 (by omega) (by omega) (by omega) (by omega) eg eh hg hh qa qb qc qd hH (Nat.mod_eq_of_lt hlt) (by omega) rfl hR
  · have hno : ¬ Rok (q * Rat.divInt num den) := by
      rw [← hdd, div_Rok _ _ (by omega), habs, Int.natAbs_natCast, hcop, Nat.div_one]
      omega
    rw [resN_no hno, resD_no hno, resE_no hno]
    exact product_over q.num q.den num den q.num.natAbs q.den num.natAbs den.natAbs g h a b c d _ _ w m1 m2 m3 m4 (by omega) (by omega) (by omega) (by omega) eg eh hg hh qa qb qc qd rfl rfl (by omega) hH
end Go.Proofs.YtfcdoifijgbjeaaDoor
