/- Layer 29: the laws' head. -/
import Derived.Test.YtgjefmhobfdjdaaDoorP8
namespace Go.Proofs.YtgjefmhobfdjdaaDoor
open Go.RowKit

theorem Public_is (x y : Nat) (w : World) (h1 : 1 ≤ x) (h2 : x < 2147483646) (h : pw 7 x = y) :
    Calls Tryd.prog 22 #[.int .i64 x] w fun e w' => e = .returned (.tuple #[.int .i64 y, .int .i64 0]) ∧ w = w' := h ▸ Public_ok x w h1 h2
theorem Power_is (b n : Int) (y : Int) (w : World) (hn : n ≤ 9223372036854775807) (h : pwI b n = y) :
    Calls Tryd.prog 26 #[.int .i64 b, .int .i64 n] w fun e w' => e = .returned (.int .i64 y) ∧ w = w' := h ▸ Power_any b n w hn
theorem Verify_is (y r s : Int) (t : ByteArray) (b : Bool) (w : World) (ht : t.size ≤ 1000) (htab : Tabs w) (h : verB y r s t = b) :
    Calls Tryd.prog 28 #[.int .i64 y, .string t, .agg #[.int .i64 r, .int .i64 s]] w fun e w' => e = .returned (.bool b) ∧ Below w.heap.size w w' := h ▸ Verify_any y r s t w ht htab

theorem head_sig (t : ByteArray) (ht : t.size ≤ 1000) : ∃ R S : Nat, R < 2147483647 ∧ S < 2147483646 ∧
    (∀ w, Tabs w → Calls Tryd.prog 24 #[.int .i64 5, .string t] w fun e w' => e = .returned (.tuple #[.agg #[.int .i64 R, .int .i64 S], .int .i64 0]) ∧ Below w.heap.size w w') ∧
    verB 16807 R S t = true ∧ verB 16807 R ((S : Int) + 1) t = false ∧ verB 0 R S t = false := by
  have hv := ver_sign 5 t
  rw [pw7_five] at hv
  exact ⟨pw 7 (kay 5 t), sgS 5 t, pw_lt _ _, by unfold sgS; omega, fun w h => Sign_ok 5 t w (by omega) (by omega) ht h, hv, ver_false hv (by omega), verB_out (by omega)⟩

set_option maxHeartbeats 1000000 in
set_option maxRecDepth 100000 in
theorem head29 (w : World) (ht : Tabs w) : Calls Tryd.prog 21 #[] w fun e w' => e = .returned (.bool true) ∧ Below w.heap.size w w' := by
  have HT := Lib.hid ht
  clear ht
  have htx : (⟨#[116, 101, 120, 116]⟩ : ByteArray).size ≤ 1000 := by decide
  obtain ⟨R, S, hR, hS, hsg, hv1, hv2, hv3⟩ := head_sig ⟨#[116, 101, 120, 116]⟩ htx
  have HSg := Lib.hid hsg
  have HSb := Lib.hid (fun w => Sign_bad (-1) ⟨#[116, 101, 120, 116]⟩ w (fun w => Public_low (-1) w (by omega)))
  have HV1 := Lib.hid (fun w ht => Verify_is _ _ _ _ _ w htx ht hv1)
  have HV2 := Lib.hid (fun w ht => Verify_is _ _ _ _ _ w htx ht hv2)
  have HV3 := Lib.hid (fun w ht => Verify_is _ _ _ _ _ w htx ht hv3)
  clear hv1 hv2 hv3 hsg htx
  have P1 := Lib.hid (fun w => Public_is 1 7 w (by omega) (by omega) (pw_one 7 (by omega)))
  have P2 := Lib.hid (fun w => Public_is 2 49 w (by omega) (by omega) pw7_two)
  have P5 := Lib.hid (fun w => Public_is 5 16807 w (by omega) (by omega) pw7_five)
  have P0 := Lib.hid (fun w => Public_low 0 w (by omega))
  have P6 := Lib.hid (fun w => Public_high 2147483646 w (by omega) (by omega))
  have Q0 := Lib.hid (fun w => Power_is 7 0 1 w (by omega) (by rw [pwI_in (by omega) (by omega) (by omega)]; exact congrArg Int.ofNat (pw_zero 7)))
  have Q5 := Lib.hid (fun w => Power_is 7 5 16807 w (by omega) (by rw [pwI_in (by omega) (by omega) (by omega)]; exact congrArg Int.ofNat pw7_five))
  have Qp := Lib.hid (fun w => Power_is 7 2147483646 1 w (by omega) (by rw [pwI_in (by omega) (by omega) (by omega)]; exact congrArg Int.ofNat pw7_full))
  have Qa := Lib.hid (fun w => Power_is 0 1 0 w (by omega) (pwI_out (by omega)))
  have Qb := Lib.hid (fun w => Power_is 7 (-1) 0 w (by omega) (pwI_out (by omega)))
  have Qc := Lib.hid (fun w => Power_is 2147483647 1 0 w (by omega) (pwI_out (by omega)))
  have hw : wrap64 ((S : Int) + 1) = (S : Int) + 1 := by unfold wrap64; omega
  go_enter Tryd.func21, Tryd.ntmps21
  go_wp2_with fail
  refine (P1.out _).mono ?_
  rintro e wx ⟨rfl, rfl⟩
  go_wp2_with fail
  refine (P2.out _).mono ?_
  rintro e wx ⟨rfl, rfl⟩
  go_wp2_with fail
  refine (P0.out _).mono ?_
  rintro e wx ⟨rfl, rfl⟩
  go_wp2_with fail
  refine (P6.out _).mono ?_
  rintro e wx ⟨rfl, rfl⟩
  go_wp2_with fail
  refine (HSg.out _ HT.out).mono ?_
  rintro e w1 ⟨rfl, hb1⟩
  have H1 := Lib.hid (HT.out.below hb1 (Nat.le_refl _))
  have HB1 := Lib.hid hb1
  have hs1 := hb1.size
  clear hb1
  go_wp2_with fail
  have HA := Lib.hid (HB1.out.alloc hs1 (.cells #[.int .i64 R, .int .i64 S] 32))
  have HT2 := Lib.hid (H1.out.alloc (.cells #[.int .i64 R, .int .i64 S] 32))
  have HC := Lib.hid (there_new w1 #[.int .i64 R, .int .i64 S] 32 2 (by simp))
  have HR := Lib.hid (rangeAt_new w1 #[.int .i64 R, .int .i64 S] 32)
  have hs2 : w1.heap.size < (w1.alloc (.cells #[.int .i64 R, .int .i64 S] 32)).heap.size := by simp
  generalize w1.alloc (.cells #[.int .i64 R, .int .i64 S] 32) = w2 at *
  refine (HSb.out _).mono ?_
  rintro e w3 ⟨rfl, hb3⟩
  have hs3 := hb3.size
  have H3 := Lib.hid (HT2.out.below hb3 (Nat.le_refl _))
  have HB3 := Lib.hid (HA.out.trans (hb3.mono (by omega)))
  have hr3 := rangeAt_below HR.out hb3 hs2
  clear hb3
  go_wp2_with fail
  have HA4 := Lib.hid (HB3.out.alloc (by omega) (.cells #[.int .i64 0, .int .i64 0] 32))
  have HT4 := Lib.hid (H3.out.alloc (.cells #[.int .i64 0, .int .i64 0] 32))
  have hr4 : (w3.alloc (.cells #[.int .i64 0, .int .i64 0] 32)).rangeAt w1.heap.size 0 [.int .i64 R, .int .i64 S] := rangeAt_below hr3 ((Below.refl _ _).alloc (Nat.le_refl _) _) (by omega)
  have hs4 : w3.heap.size < (w3.alloc (.cells #[.int .i64 0, .int .i64 0] 32)).heap.size := by simp
  clear hr3
  generalize w3.alloc (.cells #[.int .i64 0, .int .i64 0] 32) = w4 at *
  refine (P5.out _).mono ?_
  rintro e wx ⟨rfl, rfl⟩
  go_wp2_with fail
  refine (Q0.out _).mono ?_
  rintro e wx ⟨rfl, rfl⟩
  go_wp2_with fail
  refine (Q5.out _).mono ?_
  rintro e wx ⟨rfl, rfl⟩
  go_wp2_with fail
  refine (Qp.out _).mono ?_
  rintro e wx ⟨rfl, rfl⟩
  go_wp2_with fail
  refine (Qa.out _).mono ?_
  rintro e wx ⟨rfl, rfl⟩
  go_wp2_with fail
  refine (Qb.out _).mono ?_
  rintro e wx ⟨rfl, rfl⟩
  go_wp2_with fail
  refine (Qc.out _).mono ?_
  rintro e wx ⟨rfl, rfl⟩
  have c0 : w4.cell? ⟨w1.heap.size, 0, none⟩ = some (.int .i64 R) := hr4 0 _ rfl
  have c1 : w4.cell? ⟨w1.heap.size, 1, none⟩ = some (.int .i64 S) := hr4 1 _ rfl
  have HR4 := Lib.hid hr4
  clear hr4
  go_wp2_with fail
  refine (HV1.out _ HT4.out).mono ?_
  rintro e w5 ⟨rfl, hb5⟩
  have hs5 := hb5.size
  have H5 := Lib.hid (HT4.out.below hb5 (Nat.le_refl _))
  have HB5 := Lib.hid (HA4.out.trans (hb5.mono (by omega)))
  have HR5 := Lib.hid (rangeAt_below HR4.out hb5 (by omega))
  clear hb5 c0 c1
  have c0 : w5.cell? ⟨w1.heap.size, 0, none⟩ = some (.int .i64 R) := HR5.out 0 _ rfl
  have c1 : w5.cell? ⟨w1.heap.size, 1, none⟩ = some (.int .i64 S) := HR5.out 1 _ rfl
  go_wp2_with fail
  refine (HV2.out _ H5.out).mono ?_
  rintro e w6 ⟨rfl, hb6⟩
  have hs6 := hb6.size
  have H6 := Lib.hid (H5.out.below hb6 (Nat.le_refl _))
  have HB6 := Lib.hid (HB5.out.trans (hb6.mono (by omega)))
  have HR6 := Lib.hid (rangeAt_below HR5.out hb6 (by omega))
  clear hb6 c0 c1
  have c0 : w6.cell? ⟨w1.heap.size, 0, none⟩ = some (.int .i64 R) := HR6.out 0 _ rfl
  have c1 : w6.cell? ⟨w1.heap.size, 1, none⟩ = some (.int .i64 S) := HR6.out 1 _ rfl
  go_wp2_with fail
  refine (HV3.out _ H6.out).mono ?_
  rintro e w7 ⟨rfl, hb7⟩
  have HB7 := Lib.hid (HB6.out.trans (hb7.mono (by omega)))
  clear hb7 c0 c1
  go_wp2_with fail
  go_ret
  exact ⟨rfl, HB7.out⟩
end Go.Proofs.YtgjefmhobfdjdaaDoor
