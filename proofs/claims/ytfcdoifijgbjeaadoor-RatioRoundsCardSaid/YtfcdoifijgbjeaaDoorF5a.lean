/- RatioOrder: the walks: path 1. -/
import Derived.Test.YtfcdoifijgbjeaaDoorF6
namespace Go.Proofs.YtfcdoifijgbjeaaDoor
open Go.RowKit

set_option maxHeartbeats 2000000 in
set_option maxRecDepth 100000 in
theorem order_111 (an ad bn bd cn cd k sn sd se tn td te xn xd xe yn yd ye : Int) (w : World) (ht : Tabs w)
    (hVa : ∀ w, Calls Tryd.prog 15 #[.agg #[.int .i64 an, .int .i64 ad]] w fun e w' => e = .returned (.bool true) ∧ Below w.heap.size w w')
    (hVb : ∀ w, Calls Tryd.prog 15 #[.agg #[.int .i64 bn, .int .i64 bd]] w fun e w' => e = .returned (.bool true) ∧ Below w.heap.size w w')
    (hVc : ∀ w, Calls Tryd.prog 15 #[.agg #[.int .i64 cn, .int .i64 cd]] w fun e w' => e = .returned (.bool true) ∧ Below w.heap.size w w')
    (hK : ∀ w, Calls Tryd.prog 16 #[.agg #[.int .i64 an, .int .i64 ad], .agg #[.int .i64 bn, .int .i64 bd]] w fun e w' => e = .returned (.int .i64 k) ∧ Below w.heap.size w w')
    (hL : ∀ w, Calls Tryd.prog 16 #[.agg #[.int .i64 bn, .int .i64 bd], .agg #[.int .i64 an, .int .i64 ad]] w fun e w' => e = .returned (.int .i64 (-k)) ∧ Below w.heap.size w w')
    (AB : Bool) (hAB : (an == bn && ad == bd) = AB) (hk1 : -1 ≤ k) (hk2 : k ≤ 1) (hkeq : (k == 0) = AB)
    (hkp : 0 < k)
    (hS : ∀ w, Calls Tryd.prog 17 #[.agg #[.int .i64 an, .int .i64 ad], .agg #[.int .i64 cn, .int .i64 cd]] w (Ret3 w sn sd se))
    (hT : ∀ w, Calls Tryd.prog 17 #[.agg #[.int .i64 bn, .int .i64 bd], .agg #[.int .i64 cn, .int .i64 cd]] w (Ret3 w tn td te))
    (hX : ∀ w, Calls Tryd.prog 18 #[.agg #[.int .i64 an, .int .i64 ad], .agg #[.int .i64 cn, .int .i64 cd]] w (Ret3 w xn xd xe))
    (hY : ∀ w, Calls Tryd.prog 18 #[.agg #[.int .i64 bn, .int .i64 bd], .agg #[.int .i64 cn, .int .i64 cd]] w (Ret3 w yn yd ye))
    (hse : (se == 0) = false)
    (hcn : cn ≤ 0) :
    Calls Tryd.prog 4 #[.agg #[.int .i64 an, .int .i64 ad], .agg #[.int .i64 bn, .int .i64 bd], .agg #[.int .i64 cn, .int .i64 cd]] w fun e w' => e = .returned (.bool true) ∧ Below w.heap.size w w' := by
  have hq := fun w => run_eql_ratio w an ad bn bd
  rw [hAB] at hq
  clear hAB
  have HVa := Lib.hid hVa
  clear hVa
  have HVb := Lib.hid hVb
  clear hVb
  have HVc := Lib.hid hVc
  clear hVc
  have HK := Lib.hid hK
  clear hK
  have HL := Lib.hid hL
  clear hL
  have HS := Lib.hid hS
  clear hS
  have HT := Lib.hid hT
  clear hT
  have HX := Lib.hid hX
  clear hX
  have HY := Lib.hid hY
  clear hY
  have HT0 := Lib.hid ht
  have T0 : Hid (Trk w w) := Lib.hid ⟨ht, Below.refl _ _⟩
  clear ht
  have T1 := Lib.hid (T0.out.alloc (.cells #[.int .i64 an, .int .i64 ad] 25))
  have A := Lib.hid (C2.new (w) (.int .i64 an) (.int .i64 ad) 25)
  have T2 := Lib.hid (T1.out.alloc (.cells #[.int .i64 bn, .int .i64 bd] 25))
  have A' := Lib.hid (A.out.alloc (.cells #[.int .i64 bn, .int .i64 bd] 25))
  clear A
  have A := Lib.hid A'.out
  clear A'
  have B := Lib.hid (C2.new ((w).alloc (.cells #[.int .i64 an, .int .i64 ad] 25)) (.int .i64 bn) (.int .i64 bd) 25)
  have T3 := Lib.hid (T2.out.alloc (.cells #[.int .i64 cn, .int .i64 cd] 25))
  have A' := Lib.hid (A.out.alloc (.cells #[.int .i64 cn, .int .i64 cd] 25))
  clear A
  have A := Lib.hid A'.out
  clear A'
  have B' := Lib.hid (B.out.alloc (.cells #[.int .i64 cn, .int .i64 cd] 25))
  clear B
  have B := Lib.hid B'.out
  clear B'
  have C := Lib.hid (C2.new (((w).alloc (.cells #[.int .i64 an, .int .i64 ad] 25)).alloc (.cells #[.int .i64 bn, .int .i64 bd] 25)) (.int .i64 cn) (.int .i64 cd) 25)
  go_enter Tryd.func4, Tryd.ntmps4
  go_wp2_with fail
  have hz : ((w).alloc (.cells #[.int .i64 an, .int .i64 ad] 25)).heap.size = w.heap.size + 1 := by simp
  rw [hz] at B
  clear hz
  have hz : (((w).alloc (.cells #[.int .i64 an, .int .i64 ad] 25)).alloc (.cells #[.int .i64 bn, .int .i64 bd] 25)).heap.size = w.heap.size + 2 := by simp
  rw [hz] at C
  clear hz
  generalize (((w).alloc (.cells #[.int .i64 an, .int .i64 ad] 25)).alloc (.cells #[.int .i64 bn, .int .i64 bd] 25)).alloc (.cells #[.int .i64 cn, .int .i64 cd] 25) = w3 at *
  refine (head01 _ T3.out.tabs).mono ?_
  rintro e w4 ⟨rfl, hb⟩
  have T4 := Lib.hid (T3.out.step hb)
  have A' := Lib.hid (A.out.step hb)
  clear A
  have A := Lib.hid A'.out
  clear A'
  have B' := Lib.hid (B.out.step hb)
  clear B
  have B := Lib.hid B'.out
  clear B'
  have C' := Lib.hid (C.out.step hb)
  clear C
  have C := Lib.hid C'.out
  clear C'
  clear hb
  obtain ⟨cA0, cA1⟩ := A.out.cells
  obtain ⟨cB0, cB1⟩ := B.out.cells
  obtain ⟨cC0, cC1⟩ := C.out.cells
  go_wp2_with fail
  refine (HVa.out _).mono ?_
  rintro e w5 ⟨rfl, hb⟩
  have T5 := Lib.hid (T4.out.step hb)
  have A' := Lib.hid (A.out.step hb)
  clear A
  have A := Lib.hid A'.out
  clear A'
  have B' := Lib.hid (B.out.step hb)
  clear B
  have B := Lib.hid B'.out
  clear B'
  have C' := Lib.hid (C.out.step hb)
  clear C
  have C := Lib.hid C'.out
  clear C'
  clear hb
  clear cA0 cA1 cB0 cB1 cC0 cC1
  obtain ⟨cA0, cA1⟩ := A.out.cells
  obtain ⟨cB0, cB1⟩ := B.out.cells
  obtain ⟨cC0, cC1⟩ := C.out.cells
  go_wp2_with fail
  refine (HVb.out _).mono ?_
  rintro e w6 ⟨rfl, hb⟩
  have T6 := Lib.hid (T5.out.step hb)
  have A' := Lib.hid (A.out.step hb)
  clear A
  have A := Lib.hid A'.out
  clear A'
  have B' := Lib.hid (B.out.step hb)
  clear B
  have B := Lib.hid B'.out
  clear B'
  have C' := Lib.hid (C.out.step hb)
  clear C
  have C := Lib.hid C'.out
  clear C'
  clear hb
  clear cA0 cA1 cB0 cB1 cC0 cC1
  obtain ⟨cA0, cA1⟩ := A.out.cells
  obtain ⟨cB0, cB1⟩ := B.out.cells
  obtain ⟨cC0, cC1⟩ := C.out.cells
  go_wp2_with fail
  refine (HVc.out _).mono ?_
  rintro e w7 ⟨rfl, hb⟩
  have T7 := Lib.hid (T6.out.step hb)
  have A' := Lib.hid (A.out.step hb)
  clear A
  have A := Lib.hid A'.out
  clear A'
  have B' := Lib.hid (B.out.step hb)
  clear B
  have B := Lib.hid B'.out
  clear B'
  have C' := Lib.hid (C.out.step hb)
  clear C
  have C := Lib.hid C'.out
  clear C'
  clear hb
  clear cA0 cA1 cB0 cB1 cC0 cC1
  obtain ⟨cA0, cA1⟩ := A.out.cells
  obtain ⟨cB0, cB1⟩ := B.out.cells
  obtain ⟨cC0, cC1⟩ := C.out.cells
  go_wp2_with fail
  refine (HK.out _).mono ?_
  rintro e w8 ⟨rfl, hb⟩
  have T8 := Lib.hid (T7.out.step hb)
  have A' := Lib.hid (A.out.step hb)
  clear A
  have A := Lib.hid A'.out
  clear A'
  have B' := Lib.hid (B.out.step hb)
  clear B
  have B := Lib.hid B'.out
  clear B'
  have C' := Lib.hid (C.out.step hb)
  clear C
  have C := Lib.hid C'.out
  clear C'
  clear hb
  clear cA0 cA1 cB0 cB1 cC0 cC1
  obtain ⟨cA0, cA1⟩ := A.out.cells
  obtain ⟨cB0, cB1⟩ := B.out.cells
  obtain ⟨cC0, cC1⟩ := C.out.cells
  go_wp2_with fail
  refine (HL.out _).mono ?_
  rintro e w9 ⟨rfl, hb⟩
  have T9 := Lib.hid (T8.out.step hb)
  have A' := Lib.hid (A.out.step hb)
  clear A
  have A := Lib.hid A'.out
  clear A'
  have B' := Lib.hid (B.out.step hb)
  clear B
  have B := Lib.hid B'.out
  clear B'
  have C' := Lib.hid (C.out.step hb)
  clear C
  have C := Lib.hid C'.out
  clear C'
  clear hb
  clear cA0 cA1 cB0 cB1 cC0 cC1
  obtain ⟨cA0, cA1⟩ := A.out.cells
  obtain ⟨cB0, cB1⟩ := B.out.cells
  obtain ⟨cC0, cC1⟩ := C.out.cells
  go_wp2_with fail
  refine (HS.out _).mono ?_
  rintro e w10 ⟨rfl, hb⟩
  have T10 := Lib.hid (T9.out.step hb)
  have A' := Lib.hid (A.out.step hb)
  clear A
  have A := Lib.hid A'.out
  clear A'
  have B' := Lib.hid (B.out.step hb)
  clear B
  have B := Lib.hid B'.out
  clear B'
  have C' := Lib.hid (C.out.step hb)
  clear C
  have C := Lib.hid C'.out
  clear C'
  clear hb
  clear cA0 cA1 cB0 cB1 cC0 cC1
  have lS := Lib.hid (C.out.lt)
  have T11 := Lib.hid (T10.out.alloc (.cells #[.int .i64 sn, .int .i64 sd] 25))
  have A' := Lib.hid (A.out.alloc (.cells #[.int .i64 sn, .int .i64 sd] 25))
  clear A
  have A := Lib.hid A'.out
  clear A'
  have B' := Lib.hid (B.out.alloc (.cells #[.int .i64 sn, .int .i64 sd] 25))
  clear B
  have B := Lib.hid B'.out
  clear B'
  have C' := Lib.hid (C.out.alloc (.cells #[.int .i64 sn, .int .i64 sd] 25))
  clear C
  have C := Lib.hid C'.out
  clear C'
  have S := Lib.hid (D2.new w10 (.int .i64 sn) (.int .i64 sd) 25)
  obtain ⟨cA0, cA1⟩ := A.out.cells
  obtain ⟨cB0, cB1⟩ := B.out.cells
  obtain ⟨cC0, cC1⟩ := C.out.cells
  obtain ⟨cS0, cS1⟩ := S.out.cells
  go_wp2_with fail
  generalize w10.alloc (.cells #[.int .i64 sn, .int .i64 sd] 25) = w11 at *
  generalize w10.heap.size = nS at *
  refine (HT.out _).mono ?_
  rintro e w12 ⟨rfl, hb⟩
  have T12 := Lib.hid (T11.out.step hb)
  have A' := Lib.hid (A.out.step hb)
  clear A
  have A := Lib.hid A'.out
  clear A'
  have B' := Lib.hid (B.out.step hb)
  clear B
  have B := Lib.hid B'.out
  clear B'
  have C' := Lib.hid (C.out.step hb)
  clear C
  have C := Lib.hid C'.out
  clear C'
  have S' := Lib.hid (S.out.step hb)
  clear S
  have S := Lib.hid S'.out
  clear S'
  clear hb
  clear cA0 cA1 cB0 cB1 cC0 cC1 cS0 cS1
  have lT := Lib.hid (S.out.c2.lt)
  have T13 := Lib.hid (T12.out.alloc (.cells #[.int .i64 tn, .int .i64 td] 25))
  have A' := Lib.hid (A.out.alloc (.cells #[.int .i64 tn, .int .i64 td] 25))
  clear A
  have A := Lib.hid A'.out
  clear A'
  have B' := Lib.hid (B.out.alloc (.cells #[.int .i64 tn, .int .i64 td] 25))
  clear B
  have B := Lib.hid B'.out
  clear B'
  have C' := Lib.hid (C.out.alloc (.cells #[.int .i64 tn, .int .i64 td] 25))
  clear C
  have C := Lib.hid C'.out
  clear C'
  have S' := Lib.hid (S.out.alloc (.cells #[.int .i64 tn, .int .i64 td] 25))
  clear S
  have S := Lib.hid S'.out
  clear S'
  have T := Lib.hid (D2.new w12 (.int .i64 tn) (.int .i64 td) 25)
  obtain ⟨cA0, cA1⟩ := A.out.cells
  obtain ⟨cB0, cB1⟩ := B.out.cells
  obtain ⟨cC0, cC1⟩ := C.out.cells
  obtain ⟨cS0, cS1⟩ := S.out.cells
  obtain ⟨cT0, cT1⟩ := T.out.cells
  go_wp2_with fail
  generalize w12.alloc (.cells #[.int .i64 tn, .int .i64 td] 25) = w13 at *
  generalize w12.heap.size = nT at *
  refine (HX.out _).mono ?_
  rintro e w14 ⟨rfl, hb⟩
  have T14 := Lib.hid (T13.out.step hb)
  have A' := Lib.hid (A.out.step hb)
  clear A
  have A := Lib.hid A'.out
  clear A'
  have B' := Lib.hid (B.out.step hb)
  clear B
  have B := Lib.hid B'.out
  clear B'
  have C' := Lib.hid (C.out.step hb)
  clear C
  have C := Lib.hid C'.out
  clear C'
  have S' := Lib.hid (S.out.step hb)
  clear S
  have S := Lib.hid S'.out
  clear S'
  have T' := Lib.hid (T.out.step hb)
  clear T
  have T := Lib.hid T'.out
  clear T'
  clear hb
  clear cA0 cA1 cB0 cB1 cC0 cC1 cS0 cS1 cT0 cT1
  obtain ⟨cA0, cA1⟩ := A.out.cells
  obtain ⟨cB0, cB1⟩ := B.out.cells
  obtain ⟨cC0, cC1⟩ := C.out.cells
  obtain ⟨cS0, cS1⟩ := S.out.cells
  obtain ⟨cT0, cT1⟩ := T.out.cells
  obtain ⟨k0, k1⟩ := S.out.frozen
  have T15 := Lib.hid (Trk.set (n := nS) T14.out HT0.out (by have := lS.out; omega) (.int .i64 xn) (.int .i64 xd))
  have A' := Lib.hid (A.out.set_other (m := nS) (by have := lS.out; omega) (.int .i64 xn) (.int .i64 xd))
  clear A
  have A := Lib.hid A'.out
  clear A'
  have B' := Lib.hid (B.out.set_other (m := nS) (by have := lS.out; omega) (.int .i64 xn) (.int .i64 xd))
  clear B
  have B := Lib.hid B'.out
  clear B'
  have C' := Lib.hid (C.out.set_other (m := nS) (by have := lS.out; omega) (.int .i64 xn) (.int .i64 xd))
  clear C
  have C := Lib.hid C'.out
  clear C'
  have S' := Lib.hid (S.out.set (.int .i64 xn) (.int .i64 xd))
  clear S
  have S := Lib.hid S'.out
  clear S'
  have T' := Lib.hid (T.out.set_other (m := nS) (by have := lT.out; omega) (.int .i64 xn) (.int .i64 xd))
  clear T
  have T := Lib.hid T'.out
  clear T'
  obtain ⟨pA0, pA1⟩ := A.out.cells
  obtain ⟨pB0, pB1⟩ := B.out.cells
  obtain ⟨pC0, pC1⟩ := C.out.cells
  obtain ⟨pS0, pS1⟩ := S.out.cells
  obtain ⟨pT0, pT1⟩ := T.out.cells
  go_wp2_with fail
  clear cA0 cA1 cB0 cB1 cC0 cC1 cS0 cS1 cT0 cT1 k0 k1 pA0 pA1 pB0 pB1 pC0 pC1 pS0 pS1 pT0 pT1
  generalize (w14.setCell ⟨nS, 0, none⟩ (.int .i64 xn)).setCell ⟨nS, 1, none⟩ (.int .i64 xd) = w15 at *
  refine (HY.out _).mono ?_
  rintro e w16 ⟨rfl, hb⟩
  have T16 := Lib.hid (T15.out.step hb)
  have A' := Lib.hid (A.out.step hb)
  clear A
  have A := Lib.hid A'.out
  clear A'
  have B' := Lib.hid (B.out.step hb)
  clear B
  have B := Lib.hid B'.out
  clear B'
  have C' := Lib.hid (C.out.step hb)
  clear C
  have C := Lib.hid C'.out
  clear C'
  have S' := Lib.hid (S.out.step hb)
  clear S
  have S := Lib.hid S'.out
  clear S'
  have T' := Lib.hid (T.out.step hb)
  clear T
  have T := Lib.hid T'.out
  clear T'
  clear hb
  obtain ⟨cA0, cA1⟩ := A.out.cells
  obtain ⟨cB0, cB1⟩ := B.out.cells
  obtain ⟨cC0, cC1⟩ := C.out.cells
  obtain ⟨cS0, cS1⟩ := S.out.cells
  obtain ⟨cT0, cT1⟩ := T.out.cells
  obtain ⟨k0, k1⟩ := T.out.frozen
  have T17 := Lib.hid (Trk.set (n := nT) T16.out HT0.out (by have := lS.out; have := lT.out; omega) (.int .i64 yn) (.int .i64 yd))
  have A' := Lib.hid (A.out.set_other (m := nT) (by have := lS.out; have := lT.out; omega) (.int .i64 yn) (.int .i64 yd))
  clear A
  have A := Lib.hid A'.out
  clear A'
  have B' := Lib.hid (B.out.set_other (m := nT) (by have := lS.out; have := lT.out; omega) (.int .i64 yn) (.int .i64 yd))
  clear B
  have B := Lib.hid B'.out
  clear B'
  have C' := Lib.hid (C.out.set_other (m := nT) (by have := lS.out; have := lT.out; omega) (.int .i64 yn) (.int .i64 yd))
  clear C
  have C := Lib.hid C'.out
  clear C'
  have S' := Lib.hid (S.out.set_other (m := nT) (by have := lT.out; omega) (.int .i64 yn) (.int .i64 yd))
  clear S
  have S := Lib.hid S'.out
  clear S'
  have T' := Lib.hid (T.out.set (.int .i64 yn) (.int .i64 yd))
  clear T
  have T := Lib.hid T'.out
  clear T'
  obtain ⟨pA0, pA1⟩ := A.out.cells
  obtain ⟨pB0, pB1⟩ := B.out.cells
  obtain ⟨pC0, pC1⟩ := C.out.cells
  obtain ⟨pS0, pS1⟩ := S.out.cells
  obtain ⟨pT0, pT1⟩ := T.out.cells
  go_wp2_with fail
  clear cA0 cA1 cB0 cB1 cC0 cC1 cS0 cS1 cT0 cT1 k0 k1 pA0 pA1 pB0 pB1 pC0 pC1 pS0 pS1 pT0 pT1
  generalize (w16.setCell ⟨nT, 0, none⟩ (.int .i64 yn)).setCell ⟨nT, 1, none⟩ (.int .i64 yd) = w17 at *
  go_ret
  exact ⟨by first | rfl | simp, T17.out.bel⟩
set_option maxHeartbeats 2000000 in
set_option maxRecDepth 100000 in
theorem order_112 (an ad bn bd cn cd k sn sd se tn td te xn xd xe yn yd ye : Int) (w : World) (ht : Tabs w)
    (hVa : ∀ w, Calls Tryd.prog 15 #[.agg #[.int .i64 an, .int .i64 ad]] w fun e w' => e = .returned (.bool true) ∧ Below w.heap.size w w')
    (hVb : ∀ w, Calls Tryd.prog 15 #[.agg #[.int .i64 bn, .int .i64 bd]] w fun e w' => e = .returned (.bool true) ∧ Below w.heap.size w w')
    (hVc : ∀ w, Calls Tryd.prog 15 #[.agg #[.int .i64 cn, .int .i64 cd]] w fun e w' => e = .returned (.bool true) ∧ Below w.heap.size w w')
    (hK : ∀ w, Calls Tryd.prog 16 #[.agg #[.int .i64 an, .int .i64 ad], .agg #[.int .i64 bn, .int .i64 bd]] w fun e w' => e = .returned (.int .i64 k) ∧ Below w.heap.size w w')
    (hL : ∀ w, Calls Tryd.prog 16 #[.agg #[.int .i64 bn, .int .i64 bd], .agg #[.int .i64 an, .int .i64 ad]] w fun e w' => e = .returned (.int .i64 (-k)) ∧ Below w.heap.size w w')
    (AB : Bool) (hAB : (an == bn && ad == bd) = AB) (hk1 : -1 ≤ k) (hk2 : k ≤ 1) (hkeq : (k == 0) = AB)
    (hkp : 0 < k)
    (hS : ∀ w, Calls Tryd.prog 17 #[.agg #[.int .i64 an, .int .i64 ad], .agg #[.int .i64 cn, .int .i64 cd]] w (Ret3 w sn sd se))
    (hT : ∀ w, Calls Tryd.prog 17 #[.agg #[.int .i64 bn, .int .i64 bd], .agg #[.int .i64 cn, .int .i64 cd]] w (Ret3 w tn td te))
    (hX : ∀ w, Calls Tryd.prog 18 #[.agg #[.int .i64 an, .int .i64 ad], .agg #[.int .i64 cn, .int .i64 cd]] w (Ret3 w xn xd xe))
    (hY : ∀ w, Calls Tryd.prog 18 #[.agg #[.int .i64 bn, .int .i64 bd], .agg #[.int .i64 cn, .int .i64 cd]] w (Ret3 w yn yd ye))
    (hse : (se == 0) = false)
    (hcn : 0 < cn) (hxe : (xe != 0) = true) :
    Calls Tryd.prog 4 #[.agg #[.int .i64 an, .int .i64 ad], .agg #[.int .i64 bn, .int .i64 bd], .agg #[.int .i64 cn, .int .i64 cd]] w fun e w' => e = .returned (.bool true) ∧ Below w.heap.size w w' := by
  have hq := fun w => run_eql_ratio w an ad bn bd
  rw [hAB] at hq
  clear hAB
  have HVa := Lib.hid hVa
  clear hVa
  have HVb := Lib.hid hVb
  clear hVb
  have HVc := Lib.hid hVc
  clear hVc
  have HK := Lib.hid hK
  clear hK
  have HL := Lib.hid hL
  clear hL
  have HS := Lib.hid hS
  clear hS
  have HT := Lib.hid hT
  clear hT
  have HX := Lib.hid hX
  clear hX
  have HY := Lib.hid hY
  clear hY
  have HT0 := Lib.hid ht
  have T0 : Hid (Trk w w) := Lib.hid ⟨ht, Below.refl _ _⟩
  clear ht
  have T1 := Lib.hid (T0.out.alloc (.cells #[.int .i64 an, .int .i64 ad] 25))
  have A := Lib.hid (C2.new (w) (.int .i64 an) (.int .i64 ad) 25)
  have T2 := Lib.hid (T1.out.alloc (.cells #[.int .i64 bn, .int .i64 bd] 25))
  have A' := Lib.hid (A.out.alloc (.cells #[.int .i64 bn, .int .i64 bd] 25))
  clear A
  have A := Lib.hid A'.out
  clear A'
  have B := Lib.hid (C2.new ((w).alloc (.cells #[.int .i64 an, .int .i64 ad] 25)) (.int .i64 bn) (.int .i64 bd) 25)
  have T3 := Lib.hid (T2.out.alloc (.cells #[.int .i64 cn, .int .i64 cd] 25))
  have A' := Lib.hid (A.out.alloc (.cells #[.int .i64 cn, .int .i64 cd] 25))
  clear A
  have A := Lib.hid A'.out
  clear A'
  have B' := Lib.hid (B.out.alloc (.cells #[.int .i64 cn, .int .i64 cd] 25))
  clear B
  have B := Lib.hid B'.out
  clear B'
  have C := Lib.hid (C2.new (((w).alloc (.cells #[.int .i64 an, .int .i64 ad] 25)).alloc (.cells #[.int .i64 bn, .int .i64 bd] 25)) (.int .i64 cn) (.int .i64 cd) 25)
  go_enter Tryd.func4, Tryd.ntmps4
  go_wp2_with fail
  have hz : ((w).alloc (.cells #[.int .i64 an, .int .i64 ad] 25)).heap.size = w.heap.size + 1 := by simp
  rw [hz] at B
  clear hz
  have hz : (((w).alloc (.cells #[.int .i64 an, .int .i64 ad] 25)).alloc (.cells #[.int .i64 bn, .int .i64 bd] 25)).heap.size = w.heap.size + 2 := by simp
  rw [hz] at C
  clear hz
  generalize (((w).alloc (.cells #[.int .i64 an, .int .i64 ad] 25)).alloc (.cells #[.int .i64 bn, .int .i64 bd] 25)).alloc (.cells #[.int .i64 cn, .int .i64 cd] 25) = w3 at *
  refine (head01 _ T3.out.tabs).mono ?_
  rintro e w4 ⟨rfl, hb⟩
  have T4 := Lib.hid (T3.out.step hb)
  have A' := Lib.hid (A.out.step hb)
  clear A
  have A := Lib.hid A'.out
  clear A'
  have B' := Lib.hid (B.out.step hb)
  clear B
  have B := Lib.hid B'.out
  clear B'
  have C' := Lib.hid (C.out.step hb)
  clear C
  have C := Lib.hid C'.out
  clear C'
  clear hb
  obtain ⟨cA0, cA1⟩ := A.out.cells
  obtain ⟨cB0, cB1⟩ := B.out.cells
  obtain ⟨cC0, cC1⟩ := C.out.cells
  go_wp2_with fail
  refine (HVa.out _).mono ?_
  rintro e w5 ⟨rfl, hb⟩
  have T5 := Lib.hid (T4.out.step hb)
  have A' := Lib.hid (A.out.step hb)
  clear A
  have A := Lib.hid A'.out
  clear A'
  have B' := Lib.hid (B.out.step hb)
  clear B
  have B := Lib.hid B'.out
  clear B'
  have C' := Lib.hid (C.out.step hb)
  clear C
  have C := Lib.hid C'.out
  clear C'
  clear hb
  clear cA0 cA1 cB0 cB1 cC0 cC1
  obtain ⟨cA0, cA1⟩ := A.out.cells
  obtain ⟨cB0, cB1⟩ := B.out.cells
  obtain ⟨cC0, cC1⟩ := C.out.cells
  go_wp2_with fail
  refine (HVb.out _).mono ?_
  rintro e w6 ⟨rfl, hb⟩
  have T6 := Lib.hid (T5.out.step hb)
  have A' := Lib.hid (A.out.step hb)
  clear A
  have A := Lib.hid A'.out
  clear A'
  have B' := Lib.hid (B.out.step hb)
  clear B
  have B := Lib.hid B'.out
  clear B'
  have C' := Lib.hid (C.out.step hb)
  clear C
  have C := Lib.hid C'.out
  clear C'
  clear hb
  clear cA0 cA1 cB0 cB1 cC0 cC1
  obtain ⟨cA0, cA1⟩ := A.out.cells
  obtain ⟨cB0, cB1⟩ := B.out.cells
  obtain ⟨cC0, cC1⟩ := C.out.cells
  go_wp2_with fail
  refine (HVc.out _).mono ?_
  rintro e w7 ⟨rfl, hb⟩
  have T7 := Lib.hid (T6.out.step hb)
  have A' := Lib.hid (A.out.step hb)
  clear A
  have A := Lib.hid A'.out
  clear A'
  have B' := Lib.hid (B.out.step hb)
  clear B
  have B := Lib.hid B'.out
  clear B'
  have C' := Lib.hid (C.out.step hb)
  clear C
  have C := Lib.hid C'.out
  clear C'
  clear hb
  clear cA0 cA1 cB0 cB1 cC0 cC1
  obtain ⟨cA0, cA1⟩ := A.out.cells
  obtain ⟨cB0, cB1⟩ := B.out.cells
  obtain ⟨cC0, cC1⟩ := C.out.cells
  go_wp2_with fail
  refine (HK.out _).mono ?_
  rintro e w8 ⟨rfl, hb⟩
  have T8 := Lib.hid (T7.out.step hb)
  have A' := Lib.hid (A.out.step hb)
  clear A
  have A := Lib.hid A'.out
  clear A'
  have B' := Lib.hid (B.out.step hb)
  clear B
  have B := Lib.hid B'.out
  clear B'
  have C' := Lib.hid (C.out.step hb)
  clear C
  have C := Lib.hid C'.out
  clear C'
  clear hb
  clear cA0 cA1 cB0 cB1 cC0 cC1
  obtain ⟨cA0, cA1⟩ := A.out.cells
  obtain ⟨cB0, cB1⟩ := B.out.cells
  obtain ⟨cC0, cC1⟩ := C.out.cells
  go_wp2_with fail
  refine (HL.out _).mono ?_
  rintro e w9 ⟨rfl, hb⟩
  have T9 := Lib.hid (T8.out.step hb)
  have A' := Lib.hid (A.out.step hb)
  clear A
  have A := Lib.hid A'.out
  clear A'
  have B' := Lib.hid (B.out.step hb)
  clear B
  have B := Lib.hid B'.out
  clear B'
  have C' := Lib.hid (C.out.step hb)
  clear C
  have C := Lib.hid C'.out
  clear C'
  clear hb
  clear cA0 cA1 cB0 cB1 cC0 cC1
  obtain ⟨cA0, cA1⟩ := A.out.cells
  obtain ⟨cB0, cB1⟩ := B.out.cells
  obtain ⟨cC0, cC1⟩ := C.out.cells
  go_wp2_with fail
  refine (HS.out _).mono ?_
  rintro e w10 ⟨rfl, hb⟩
  have T10 := Lib.hid (T9.out.step hb)
  have A' := Lib.hid (A.out.step hb)
  clear A
  have A := Lib.hid A'.out
  clear A'
  have B' := Lib.hid (B.out.step hb)
  clear B
  have B := Lib.hid B'.out
  clear B'
  have C' := Lib.hid (C.out.step hb)
  clear C
  have C := Lib.hid C'.out
  clear C'
  clear hb
  clear cA0 cA1 cB0 cB1 cC0 cC1
  have lS := Lib.hid (C.out.lt)
  have T11 := Lib.hid (T10.out.alloc (.cells #[.int .i64 sn, .int .i64 sd] 25))
  have A' := Lib.hid (A.out.alloc (.cells #[.int .i64 sn, .int .i64 sd] 25))
  clear A
  have A := Lib.hid A'.out
  clear A'
  have B' := Lib.hid (B.out.alloc (.cells #[.int .i64 sn, .int .i64 sd] 25))
  clear B
  have B := Lib.hid B'.out
  clear B'
  have C' := Lib.hid (C.out.alloc (.cells #[.int .i64 sn, .int .i64 sd] 25))
  clear C
  have C := Lib.hid C'.out
  clear C'
  have S := Lib.hid (D2.new w10 (.int .i64 sn) (.int .i64 sd) 25)
  obtain ⟨cA0, cA1⟩ := A.out.cells
  obtain ⟨cB0, cB1⟩ := B.out.cells
  obtain ⟨cC0, cC1⟩ := C.out.cells
  obtain ⟨cS0, cS1⟩ := S.out.cells
  go_wp2_with fail
  generalize w10.alloc (.cells #[.int .i64 sn, .int .i64 sd] 25) = w11 at *
  generalize w10.heap.size = nS at *
  refine (HT.out _).mono ?_
  rintro e w12 ⟨rfl, hb⟩
  have T12 := Lib.hid (T11.out.step hb)
  have A' := Lib.hid (A.out.step hb)
  clear A
  have A := Lib.hid A'.out
  clear A'
  have B' := Lib.hid (B.out.step hb)
  clear B
  have B := Lib.hid B'.out
  clear B'
  have C' := Lib.hid (C.out.step hb)
  clear C
  have C := Lib.hid C'.out
  clear C'
  have S' := Lib.hid (S.out.step hb)
  clear S
  have S := Lib.hid S'.out
  clear S'
  clear hb
  clear cA0 cA1 cB0 cB1 cC0 cC1 cS0 cS1
  have lT := Lib.hid (S.out.c2.lt)
  have T13 := Lib.hid (T12.out.alloc (.cells #[.int .i64 tn, .int .i64 td] 25))
  have A' := Lib.hid (A.out.alloc (.cells #[.int .i64 tn, .int .i64 td] 25))
  clear A
  have A := Lib.hid A'.out
  clear A'
  have B' := Lib.hid (B.out.alloc (.cells #[.int .i64 tn, .int .i64 td] 25))
  clear B
  have B := Lib.hid B'.out
  clear B'
  have C' := Lib.hid (C.out.alloc (.cells #[.int .i64 tn, .int .i64 td] 25))
  clear C
  have C := Lib.hid C'.out
  clear C'
  have S' := Lib.hid (S.out.alloc (.cells #[.int .i64 tn, .int .i64 td] 25))
  clear S
  have S := Lib.hid S'.out
  clear S'
  have T := Lib.hid (D2.new w12 (.int .i64 tn) (.int .i64 td) 25)
  obtain ⟨cA0, cA1⟩ := A.out.cells
  obtain ⟨cB0, cB1⟩ := B.out.cells
  obtain ⟨cC0, cC1⟩ := C.out.cells
  obtain ⟨cS0, cS1⟩ := S.out.cells
  obtain ⟨cT0, cT1⟩ := T.out.cells
  go_wp2_with fail
  generalize w12.alloc (.cells #[.int .i64 tn, .int .i64 td] 25) = w13 at *
  generalize w12.heap.size = nT at *
  refine (HX.out _).mono ?_
  rintro e w14 ⟨rfl, hb⟩
  have T14 := Lib.hid (T13.out.step hb)
  have A' := Lib.hid (A.out.step hb)
  clear A
  have A := Lib.hid A'.out
  clear A'
  have B' := Lib.hid (B.out.step hb)
  clear B
  have B := Lib.hid B'.out
  clear B'
  have C' := Lib.hid (C.out.step hb)
  clear C
  have C := Lib.hid C'.out
  clear C'
  have S' := Lib.hid (S.out.step hb)
  clear S
  have S := Lib.hid S'.out
  clear S'
  have T' := Lib.hid (T.out.step hb)
  clear T
  have T := Lib.hid T'.out
  clear T'
  clear hb
  clear cA0 cA1 cB0 cB1 cC0 cC1 cS0 cS1 cT0 cT1
  obtain ⟨cA0, cA1⟩ := A.out.cells
  obtain ⟨cB0, cB1⟩ := B.out.cells
  obtain ⟨cC0, cC1⟩ := C.out.cells
  obtain ⟨cS0, cS1⟩ := S.out.cells
  obtain ⟨cT0, cT1⟩ := T.out.cells
  obtain ⟨k0, k1⟩ := S.out.frozen
  have T15 := Lib.hid (Trk.set (n := nS) T14.out HT0.out (by have := lS.out; omega) (.int .i64 xn) (.int .i64 xd))
  have A' := Lib.hid (A.out.set_other (m := nS) (by have := lS.out; omega) (.int .i64 xn) (.int .i64 xd))
  clear A
  have A := Lib.hid A'.out
  clear A'
  have B' := Lib.hid (B.out.set_other (m := nS) (by have := lS.out; omega) (.int .i64 xn) (.int .i64 xd))
  clear B
  have B := Lib.hid B'.out
  clear B'
  have C' := Lib.hid (C.out.set_other (m := nS) (by have := lS.out; omega) (.int .i64 xn) (.int .i64 xd))
  clear C
  have C := Lib.hid C'.out
  clear C'
  have S' := Lib.hid (S.out.set (.int .i64 xn) (.int .i64 xd))
  clear S
  have S := Lib.hid S'.out
  clear S'
  have T' := Lib.hid (T.out.set_other (m := nS) (by have := lT.out; omega) (.int .i64 xn) (.int .i64 xd))
  clear T
  have T := Lib.hid T'.out
  clear T'
  obtain ⟨pA0, pA1⟩ := A.out.cells
  obtain ⟨pB0, pB1⟩ := B.out.cells
  obtain ⟨pC0, pC1⟩ := C.out.cells
  obtain ⟨pS0, pS1⟩ := S.out.cells
  obtain ⟨pT0, pT1⟩ := T.out.cells
  go_wp2_with fail
  clear cA0 cA1 cB0 cB1 cC0 cC1 cS0 cS1 cT0 cT1 k0 k1 pA0 pA1 pB0 pB1 pC0 pC1 pS0 pS1 pT0 pT1
  generalize (w14.setCell ⟨nS, 0, none⟩ (.int .i64 xn)).setCell ⟨nS, 1, none⟩ (.int .i64 xd) = w15 at *
  refine (HY.out _).mono ?_
  rintro e w16 ⟨rfl, hb⟩
  have T16 := Lib.hid (T15.out.step hb)
  have A' := Lib.hid (A.out.step hb)
  clear A
  have A := Lib.hid A'.out
  clear A'
  have B' := Lib.hid (B.out.step hb)
  clear B
  have B := Lib.hid B'.out
  clear B'
  have C' := Lib.hid (C.out.step hb)
  clear C
  have C := Lib.hid C'.out
  clear C'
  have S' := Lib.hid (S.out.step hb)
  clear S
  have S := Lib.hid S'.out
  clear S'
  have T' := Lib.hid (T.out.step hb)
  clear T
  have T := Lib.hid T'.out
  clear T'
  clear hb
  obtain ⟨cA0, cA1⟩ := A.out.cells
  obtain ⟨cB0, cB1⟩ := B.out.cells
  obtain ⟨cC0, cC1⟩ := C.out.cells
  obtain ⟨cS0, cS1⟩ := S.out.cells
  obtain ⟨cT0, cT1⟩ := T.out.cells
  obtain ⟨k0, k1⟩ := T.out.frozen
  have T17 := Lib.hid (Trk.set (n := nT) T16.out HT0.out (by have := lS.out; have := lT.out; omega) (.int .i64 yn) (.int .i64 yd))
  have A' := Lib.hid (A.out.set_other (m := nT) (by have := lS.out; have := lT.out; omega) (.int .i64 yn) (.int .i64 yd))
  clear A
  have A := Lib.hid A'.out
  clear A'
  have B' := Lib.hid (B.out.set_other (m := nT) (by have := lS.out; have := lT.out; omega) (.int .i64 yn) (.int .i64 yd))
  clear B
  have B := Lib.hid B'.out
  clear B'
  have C' := Lib.hid (C.out.set_other (m := nT) (by have := lS.out; have := lT.out; omega) (.int .i64 yn) (.int .i64 yd))
  clear C
  have C := Lib.hid C'.out
  clear C'
  have S' := Lib.hid (S.out.set_other (m := nT) (by have := lT.out; omega) (.int .i64 yn) (.int .i64 yd))
  clear S
  have S := Lib.hid S'.out
  clear S'
  have T' := Lib.hid (T.out.set (.int .i64 yn) (.int .i64 yd))
  clear T
  have T := Lib.hid T'.out
  clear T'
  obtain ⟨pA0, pA1⟩ := A.out.cells
  obtain ⟨pB0, pB1⟩ := B.out.cells
  obtain ⟨pC0, pC1⟩ := C.out.cells
  obtain ⟨pS0, pS1⟩ := S.out.cells
  obtain ⟨pT0, pT1⟩ := T.out.cells
  go_wp2_with fail
  clear cA0 cA1 cB0 cB1 cC0 cC1 cS0 cS1 cT0 cT1 k0 k1 pA0 pA1 pB0 pB1 pC0 pC1 pS0 pS1 pT0 pT1
  generalize (w16.setCell ⟨nT, 0, none⟩ (.int .i64 yn)).setCell ⟨nT, 1, none⟩ (.int .i64 yd) = w17 at *
  go_ret
  exact ⟨by first | rfl | simp, T17.out.bel⟩
set_option maxHeartbeats 2000000 in
set_option maxRecDepth 100000 in
theorem order_113 (an ad bn bd cn cd k sn sd se tn td te xn xd xe yn yd ye : Int) (w : World) (ht : Tabs w)
    (hVa : ∀ w, Calls Tryd.prog 15 #[.agg #[.int .i64 an, .int .i64 ad]] w fun e w' => e = .returned (.bool true) ∧ Below w.heap.size w w')
    (hVb : ∀ w, Calls Tryd.prog 15 #[.agg #[.int .i64 bn, .int .i64 bd]] w fun e w' => e = .returned (.bool true) ∧ Below w.heap.size w w')
    (hVc : ∀ w, Calls Tryd.prog 15 #[.agg #[.int .i64 cn, .int .i64 cd]] w fun e w' => e = .returned (.bool true) ∧ Below w.heap.size w w')
    (hK : ∀ w, Calls Tryd.prog 16 #[.agg #[.int .i64 an, .int .i64 ad], .agg #[.int .i64 bn, .int .i64 bd]] w fun e w' => e = .returned (.int .i64 k) ∧ Below w.heap.size w w')
    (hL : ∀ w, Calls Tryd.prog 16 #[.agg #[.int .i64 bn, .int .i64 bd], .agg #[.int .i64 an, .int .i64 ad]] w fun e w' => e = .returned (.int .i64 (-k)) ∧ Below w.heap.size w w')
    (AB : Bool) (hAB : (an == bn && ad == bd) = AB) (hk1 : -1 ≤ k) (hk2 : k ≤ 1) (hkeq : (k == 0) = AB)
    (hkp : 0 < k)
    (hS : ∀ w, Calls Tryd.prog 17 #[.agg #[.int .i64 an, .int .i64 ad], .agg #[.int .i64 cn, .int .i64 cd]] w (Ret3 w sn sd se))
    (hT : ∀ w, Calls Tryd.prog 17 #[.agg #[.int .i64 bn, .int .i64 bd], .agg #[.int .i64 cn, .int .i64 cd]] w (Ret3 w tn td te))
    (hX : ∀ w, Calls Tryd.prog 18 #[.agg #[.int .i64 an, .int .i64 ad], .agg #[.int .i64 cn, .int .i64 cd]] w (Ret3 w xn xd xe))
    (hY : ∀ w, Calls Tryd.prog 18 #[.agg #[.int .i64 bn, .int .i64 bd], .agg #[.int .i64 cn, .int .i64 cd]] w (Ret3 w yn yd ye))
    (hse : (se == 0) = false)
    (hcn : 0 < cn) (hxe : (xe != 0) = false) (hye : (ye != 0) = true) :
    Calls Tryd.prog 4 #[.agg #[.int .i64 an, .int .i64 ad], .agg #[.int .i64 bn, .int .i64 bd], .agg #[.int .i64 cn, .int .i64 cd]] w fun e w' => e = .returned (.bool true) ∧ Below w.heap.size w w' := by
  have hq := fun w => run_eql_ratio w an ad bn bd
  rw [hAB] at hq
  clear hAB
  have HVa := Lib.hid hVa
  clear hVa
  have HVb := Lib.hid hVb
  clear hVb
  have HVc := Lib.hid hVc
  clear hVc
  have HK := Lib.hid hK
  clear hK
  have HL := Lib.hid hL
  clear hL
  have HS := Lib.hid hS
  clear hS
  have HT := Lib.hid hT
  clear hT
  have HX := Lib.hid hX
  clear hX
  have HY := Lib.hid hY
  clear hY
  have HT0 := Lib.hid ht
  have T0 : Hid (Trk w w) := Lib.hid ⟨ht, Below.refl _ _⟩
  clear ht
  have T1 := Lib.hid (T0.out.alloc (.cells #[.int .i64 an, .int .i64 ad] 25))
  have A := Lib.hid (C2.new (w) (.int .i64 an) (.int .i64 ad) 25)
  have T2 := Lib.hid (T1.out.alloc (.cells #[.int .i64 bn, .int .i64 bd] 25))
  have A' := Lib.hid (A.out.alloc (.cells #[.int .i64 bn, .int .i64 bd] 25))
  clear A
  have A := Lib.hid A'.out
  clear A'
  have B := Lib.hid (C2.new ((w).alloc (.cells #[.int .i64 an, .int .i64 ad] 25)) (.int .i64 bn) (.int .i64 bd) 25)
  have T3 := Lib.hid (T2.out.alloc (.cells #[.int .i64 cn, .int .i64 cd] 25))
  have A' := Lib.hid (A.out.alloc (.cells #[.int .i64 cn, .int .i64 cd] 25))
  clear A
  have A := Lib.hid A'.out
  clear A'
  have B' := Lib.hid (B.out.alloc (.cells #[.int .i64 cn, .int .i64 cd] 25))
  clear B
  have B := Lib.hid B'.out
  clear B'
  have C := Lib.hid (C2.new (((w).alloc (.cells #[.int .i64 an, .int .i64 ad] 25)).alloc (.cells #[.int .i64 bn, .int .i64 bd] 25)) (.int .i64 cn) (.int .i64 cd) 25)
  go_enter Tryd.func4, Tryd.ntmps4
  go_wp2_with fail
  have hz : ((w).alloc (.cells #[.int .i64 an, .int .i64 ad] 25)).heap.size = w.heap.size + 1 := by simp
  rw [hz] at B
  clear hz
  have hz : (((w).alloc (.cells #[.int .i64 an, .int .i64 ad] 25)).alloc (.cells #[.int .i64 bn, .int .i64 bd] 25)).heap.size = w.heap.size + 2 := by simp
  rw [hz] at C
  clear hz
  generalize (((w).alloc (.cells #[.int .i64 an, .int .i64 ad] 25)).alloc (.cells #[.int .i64 bn, .int .i64 bd] 25)).alloc (.cells #[.int .i64 cn, .int .i64 cd] 25) = w3 at *
  refine (head01 _ T3.out.tabs).mono ?_
  rintro e w4 ⟨rfl, hb⟩
  have T4 := Lib.hid (T3.out.step hb)
  have A' := Lib.hid (A.out.step hb)
  clear A
  have A := Lib.hid A'.out
  clear A'
  have B' := Lib.hid (B.out.step hb)
  clear B
  have B := Lib.hid B'.out
  clear B'
  have C' := Lib.hid (C.out.step hb)
  clear C
  have C := Lib.hid C'.out
  clear C'
  clear hb
  obtain ⟨cA0, cA1⟩ := A.out.cells
  obtain ⟨cB0, cB1⟩ := B.out.cells
  obtain ⟨cC0, cC1⟩ := C.out.cells
  go_wp2_with fail
  refine (HVa.out _).mono ?_
  rintro e w5 ⟨rfl, hb⟩
  have T5 := Lib.hid (T4.out.step hb)
  have A' := Lib.hid (A.out.step hb)
  clear A
  have A := Lib.hid A'.out
  clear A'
  have B' := Lib.hid (B.out.step hb)
  clear B
  have B := Lib.hid B'.out
  clear B'
  have C' := Lib.hid (C.out.step hb)
  clear C
  have C := Lib.hid C'.out
  clear C'
  clear hb
  clear cA0 cA1 cB0 cB1 cC0 cC1
  obtain ⟨cA0, cA1⟩ := A.out.cells
  obtain ⟨cB0, cB1⟩ := B.out.cells
  obtain ⟨cC0, cC1⟩ := C.out.cells
  go_wp2_with fail
  refine (HVb.out _).mono ?_
  rintro e w6 ⟨rfl, hb⟩
  have T6 := Lib.hid (T5.out.step hb)
  have A' := Lib.hid (A.out.step hb)
  clear A
  have A := Lib.hid A'.out
  clear A'
  have B' := Lib.hid (B.out.step hb)
  clear B
  have B := Lib.hid B'.out
  clear B'
  have C' := Lib.hid (C.out.step hb)
  clear C
  have C := Lib.hid C'.out
  clear C'
  clear hb
  clear cA0 cA1 cB0 cB1 cC0 cC1
  obtain ⟨cA0, cA1⟩ := A.out.cells
  obtain ⟨cB0, cB1⟩ := B.out.cells
  obtain ⟨cC0, cC1⟩ := C.out.cells
  go_wp2_with fail
  refine (HVc.out _).mono ?_
  rintro e w7 ⟨rfl, hb⟩
  have T7 := Lib.hid (T6.out.step hb)
  have A' := Lib.hid (A.out.step hb)
  clear A
  have A := Lib.hid A'.out
  clear A'
  have B' := Lib.hid (B.out.step hb)
  clear B
  have B := Lib.hid B'.out
  clear B'
  have C' := Lib.hid (C.out.step hb)
  clear C
  have C := Lib.hid C'.out
  clear C'
  clear hb
  clear cA0 cA1 cB0 cB1 cC0 cC1
  obtain ⟨cA0, cA1⟩ := A.out.cells
  obtain ⟨cB0, cB1⟩ := B.out.cells
  obtain ⟨cC0, cC1⟩ := C.out.cells
  go_wp2_with fail
  refine (HK.out _).mono ?_
  rintro e w8 ⟨rfl, hb⟩
  have T8 := Lib.hid (T7.out.step hb)
  have A' := Lib.hid (A.out.step hb)
  clear A
  have A := Lib.hid A'.out
  clear A'
  have B' := Lib.hid (B.out.step hb)
  clear B
  have B := Lib.hid B'.out
  clear B'
  have C' := Lib.hid (C.out.step hb)
  clear C
  have C := Lib.hid C'.out
  clear C'
  clear hb
  clear cA0 cA1 cB0 cB1 cC0 cC1
  obtain ⟨cA0, cA1⟩ := A.out.cells
  obtain ⟨cB0, cB1⟩ := B.out.cells
  obtain ⟨cC0, cC1⟩ := C.out.cells
  go_wp2_with fail
  refine (HL.out _).mono ?_
  rintro e w9 ⟨rfl, hb⟩
  have T9 := Lib.hid (T8.out.step hb)
  have A' := Lib.hid (A.out.step hb)
  clear A
  have A := Lib.hid A'.out
  clear A'
  have B' := Lib.hid (B.out.step hb)
  clear B
  have B := Lib.hid B'.out
  clear B'
  have C' := Lib.hid (C.out.step hb)
  clear C
  have C := Lib.hid C'.out
  clear C'
  clear hb
  clear cA0 cA1 cB0 cB1 cC0 cC1
  obtain ⟨cA0, cA1⟩ := A.out.cells
  obtain ⟨cB0, cB1⟩ := B.out.cells
  obtain ⟨cC0, cC1⟩ := C.out.cells
  go_wp2_with fail
  refine (HS.out _).mono ?_
  rintro e w10 ⟨rfl, hb⟩
  have T10 := Lib.hid (T9.out.step hb)
  have A' := Lib.hid (A.out.step hb)
  clear A
  have A := Lib.hid A'.out
  clear A'
  have B' := Lib.hid (B.out.step hb)
  clear B
  have B := Lib.hid B'.out
  clear B'
  have C' := Lib.hid (C.out.step hb)
  clear C
  have C := Lib.hid C'.out
  clear C'
  clear hb
  clear cA0 cA1 cB0 cB1 cC0 cC1
  have lS := Lib.hid (C.out.lt)
  have T11 := Lib.hid (T10.out.alloc (.cells #[.int .i64 sn, .int .i64 sd] 25))
  have A' := Lib.hid (A.out.alloc (.cells #[.int .i64 sn, .int .i64 sd] 25))
  clear A
  have A := Lib.hid A'.out
  clear A'
  have B' := Lib.hid (B.out.alloc (.cells #[.int .i64 sn, .int .i64 sd] 25))
  clear B
  have B := Lib.hid B'.out
  clear B'
  have C' := Lib.hid (C.out.alloc (.cells #[.int .i64 sn, .int .i64 sd] 25))
  clear C
  have C := Lib.hid C'.out
  clear C'
  have S := Lib.hid (D2.new w10 (.int .i64 sn) (.int .i64 sd) 25)
  obtain ⟨cA0, cA1⟩ := A.out.cells
  obtain ⟨cB0, cB1⟩ := B.out.cells
  obtain ⟨cC0, cC1⟩ := C.out.cells
  obtain ⟨cS0, cS1⟩ := S.out.cells
  go_wp2_with fail
  generalize w10.alloc (.cells #[.int .i64 sn, .int .i64 sd] 25) = w11 at *
  generalize w10.heap.size = nS at *
  refine (HT.out _).mono ?_
  rintro e w12 ⟨rfl, hb⟩
  have T12 := Lib.hid (T11.out.step hb)
  have A' := Lib.hid (A.out.step hb)
  clear A
  have A := Lib.hid A'.out
  clear A'
  have B' := Lib.hid (B.out.step hb)
  clear B
  have B := Lib.hid B'.out
  clear B'
  have C' := Lib.hid (C.out.step hb)
  clear C
  have C := Lib.hid C'.out
  clear C'
  have S' := Lib.hid (S.out.step hb)
  clear S
  have S := Lib.hid S'.out
  clear S'
  clear hb
  clear cA0 cA1 cB0 cB1 cC0 cC1 cS0 cS1
  have lT := Lib.hid (S.out.c2.lt)
  have T13 := Lib.hid (T12.out.alloc (.cells #[.int .i64 tn, .int .i64 td] 25))
  have A' := Lib.hid (A.out.alloc (.cells #[.int .i64 tn, .int .i64 td] 25))
  clear A
  have A := Lib.hid A'.out
  clear A'
  have B' := Lib.hid (B.out.alloc (.cells #[.int .i64 tn, .int .i64 td] 25))
  clear B
  have B := Lib.hid B'.out
  clear B'
  have C' := Lib.hid (C.out.alloc (.cells #[.int .i64 tn, .int .i64 td] 25))
  clear C
  have C := Lib.hid C'.out
  clear C'
  have S' := Lib.hid (S.out.alloc (.cells #[.int .i64 tn, .int .i64 td] 25))
  clear S
  have S := Lib.hid S'.out
  clear S'
  have T := Lib.hid (D2.new w12 (.int .i64 tn) (.int .i64 td) 25)
  obtain ⟨cA0, cA1⟩ := A.out.cells
  obtain ⟨cB0, cB1⟩ := B.out.cells
  obtain ⟨cC0, cC1⟩ := C.out.cells
  obtain ⟨cS0, cS1⟩ := S.out.cells
  obtain ⟨cT0, cT1⟩ := T.out.cells
  go_wp2_with fail
  generalize w12.alloc (.cells #[.int .i64 tn, .int .i64 td] 25) = w13 at *
  generalize w12.heap.size = nT at *
  refine (HX.out _).mono ?_
  rintro e w14 ⟨rfl, hb⟩
  have T14 := Lib.hid (T13.out.step hb)
  have A' := Lib.hid (A.out.step hb)
  clear A
  have A := Lib.hid A'.out
  clear A'
  have B' := Lib.hid (B.out.step hb)
  clear B
  have B := Lib.hid B'.out
  clear B'
  have C' := Lib.hid (C.out.step hb)
  clear C
  have C := Lib.hid C'.out
  clear C'
  have S' := Lib.hid (S.out.step hb)
  clear S
  have S := Lib.hid S'.out
  clear S'
  have T' := Lib.hid (T.out.step hb)
  clear T
  have T := Lib.hid T'.out
  clear T'
  clear hb
  clear cA0 cA1 cB0 cB1 cC0 cC1 cS0 cS1 cT0 cT1
  obtain ⟨cA0, cA1⟩ := A.out.cells
  obtain ⟨cB0, cB1⟩ := B.out.cells
  obtain ⟨cC0, cC1⟩ := C.out.cells
  obtain ⟨cS0, cS1⟩ := S.out.cells
  obtain ⟨cT0, cT1⟩ := T.out.cells
  obtain ⟨k0, k1⟩ := S.out.frozen
  have T15 := Lib.hid (Trk.set (n := nS) T14.out HT0.out (by have := lS.out; omega) (.int .i64 xn) (.int .i64 xd))
  have A' := Lib.hid (A.out.set_other (m := nS) (by have := lS.out; omega) (.int .i64 xn) (.int .i64 xd))
  clear A
  have A := Lib.hid A'.out
  clear A'
  have B' := Lib.hid (B.out.set_other (m := nS) (by have := lS.out; omega) (.int .i64 xn) (.int .i64 xd))
  clear B
  have B := Lib.hid B'.out
  clear B'
  have C' := Lib.hid (C.out.set_other (m := nS) (by have := lS.out; omega) (.int .i64 xn) (.int .i64 xd))
  clear C
  have C := Lib.hid C'.out
  clear C'
  have S' := Lib.hid (S.out.set (.int .i64 xn) (.int .i64 xd))
  clear S
  have S := Lib.hid S'.out
  clear S'
  have T' := Lib.hid (T.out.set_other (m := nS) (by have := lT.out; omega) (.int .i64 xn) (.int .i64 xd))
  clear T
  have T := Lib.hid T'.out
  clear T'
  obtain ⟨pA0, pA1⟩ := A.out.cells
  obtain ⟨pB0, pB1⟩ := B.out.cells
  obtain ⟨pC0, pC1⟩ := C.out.cells
  obtain ⟨pS0, pS1⟩ := S.out.cells
  obtain ⟨pT0, pT1⟩ := T.out.cells
  go_wp2_with fail
  clear cA0 cA1 cB0 cB1 cC0 cC1 cS0 cS1 cT0 cT1 k0 k1 pA0 pA1 pB0 pB1 pC0 pC1 pS0 pS1 pT0 pT1
  generalize (w14.setCell ⟨nS, 0, none⟩ (.int .i64 xn)).setCell ⟨nS, 1, none⟩ (.int .i64 xd) = w15 at *
  refine (HY.out _).mono ?_
  rintro e w16 ⟨rfl, hb⟩
  have T16 := Lib.hid (T15.out.step hb)
  have A' := Lib.hid (A.out.step hb)
  clear A
  have A := Lib.hid A'.out
  clear A'
  have B' := Lib.hid (B.out.step hb)
  clear B
  have B := Lib.hid B'.out
  clear B'
  have C' := Lib.hid (C.out.step hb)
  clear C
  have C := Lib.hid C'.out
  clear C'
  have S' := Lib.hid (S.out.step hb)
  clear S
  have S := Lib.hid S'.out
  clear S'
  have T' := Lib.hid (T.out.step hb)
  clear T
  have T := Lib.hid T'.out
  clear T'
  clear hb
  obtain ⟨cA0, cA1⟩ := A.out.cells
  obtain ⟨cB0, cB1⟩ := B.out.cells
  obtain ⟨cC0, cC1⟩ := C.out.cells
  obtain ⟨cS0, cS1⟩ := S.out.cells
  obtain ⟨cT0, cT1⟩ := T.out.cells
  obtain ⟨k0, k1⟩ := T.out.frozen
  have T17 := Lib.hid (Trk.set (n := nT) T16.out HT0.out (by have := lS.out; have := lT.out; omega) (.int .i64 yn) (.int .i64 yd))
  have A' := Lib.hid (A.out.set_other (m := nT) (by have := lS.out; have := lT.out; omega) (.int .i64 yn) (.int .i64 yd))
  clear A
  have A := Lib.hid A'.out
  clear A'
  have B' := Lib.hid (B.out.set_other (m := nT) (by have := lS.out; have := lT.out; omega) (.int .i64 yn) (.int .i64 yd))
  clear B
  have B := Lib.hid B'.out
  clear B'
  have C' := Lib.hid (C.out.set_other (m := nT) (by have := lS.out; have := lT.out; omega) (.int .i64 yn) (.int .i64 yd))
  clear C
  have C := Lib.hid C'.out
  clear C'
  have S' := Lib.hid (S.out.set_other (m := nT) (by have := lT.out; omega) (.int .i64 yn) (.int .i64 yd))
  clear S
  have S := Lib.hid S'.out
  clear S'
  have T' := Lib.hid (T.out.set (.int .i64 yn) (.int .i64 yd))
  clear T
  have T := Lib.hid T'.out
  clear T'
  obtain ⟨pA0, pA1⟩ := A.out.cells
  obtain ⟨pB0, pB1⟩ := B.out.cells
  obtain ⟨pC0, pC1⟩ := C.out.cells
  obtain ⟨pS0, pS1⟩ := S.out.cells
  obtain ⟨pT0, pT1⟩ := T.out.cells
  go_wp2_with fail
  clear cA0 cA1 cB0 cB1 cC0 cC1 cS0 cS1 cT0 cT1 k0 k1 pA0 pA1 pB0 pB1 pC0 pC1 pS0 pS1 pT0 pT1
  generalize (w16.setCell ⟨nT, 0, none⟩ (.int .i64 yn)).setCell ⟨nT, 1, none⟩ (.int .i64 yd) = w17 at *
  go_ret
  exact ⟨by first | rfl | simp, T17.out.bel⟩
set_option maxHeartbeats 2000000 in
set_option maxRecDepth 100000 in
theorem order_114 (an ad bn bd cn cd k sn sd se tn td te xn xd xe yn yd ye : Int) (w : World) (ht : Tabs w)
    (hVa : ∀ w, Calls Tryd.prog 15 #[.agg #[.int .i64 an, .int .i64 ad]] w fun e w' => e = .returned (.bool true) ∧ Below w.heap.size w w')
    (hVb : ∀ w, Calls Tryd.prog 15 #[.agg #[.int .i64 bn, .int .i64 bd]] w fun e w' => e = .returned (.bool true) ∧ Below w.heap.size w w')
    (hVc : ∀ w, Calls Tryd.prog 15 #[.agg #[.int .i64 cn, .int .i64 cd]] w fun e w' => e = .returned (.bool true) ∧ Below w.heap.size w w')
    (hK : ∀ w, Calls Tryd.prog 16 #[.agg #[.int .i64 an, .int .i64 ad], .agg #[.int .i64 bn, .int .i64 bd]] w fun e w' => e = .returned (.int .i64 k) ∧ Below w.heap.size w w')
    (hL : ∀ w, Calls Tryd.prog 16 #[.agg #[.int .i64 bn, .int .i64 bd], .agg #[.int .i64 an, .int .i64 ad]] w fun e w' => e = .returned (.int .i64 (-k)) ∧ Below w.heap.size w w')
    (AB : Bool) (hAB : (an == bn && ad == bd) = AB) (hk1 : -1 ≤ k) (hk2 : k ≤ 1) (hkeq : (k == 0) = AB)
    (hkp : 0 < k)
    (hS : ∀ w, Calls Tryd.prog 17 #[.agg #[.int .i64 an, .int .i64 ad], .agg #[.int .i64 cn, .int .i64 cd]] w (Ret3 w sn sd se))
    (hT : ∀ w, Calls Tryd.prog 17 #[.agg #[.int .i64 bn, .int .i64 bd], .agg #[.int .i64 cn, .int .i64 cd]] w (Ret3 w tn td te))
    (hX : ∀ w, Calls Tryd.prog 18 #[.agg #[.int .i64 an, .int .i64 ad], .agg #[.int .i64 cn, .int .i64 cd]] w (Ret3 w xn xd xe))
    (hY : ∀ w, Calls Tryd.prog 18 #[.agg #[.int .i64 bn, .int .i64 bd], .agg #[.int .i64 cn, .int .i64 cd]] w (Ret3 w yn yd ye))
    (hse : (se == 0) = false)
    (hcn : 0 < cn) (hxe : (xe != 0) = false) (hye : (ye != 0) = false)
    (hZ : ∀ w, Calls Tryd.prog 16 #[.agg #[.int .i64 xn, .int .i64 xd], .agg #[.int .i64 yn, .int .i64 yd]] w fun e w' => e = .returned (.int .i64 k) ∧ Below w.heap.size w w') :
    Calls Tryd.prog 4 #[.agg #[.int .i64 an, .int .i64 ad], .agg #[.int .i64 bn, .int .i64 bd], .agg #[.int .i64 cn, .int .i64 cd]] w fun e w' => e = .returned (.bool true) ∧ Below w.heap.size w w' := by
  have hq := fun w => run_eql_ratio w an ad bn bd
  rw [hAB] at hq
  clear hAB
  have HVa := Lib.hid hVa
  clear hVa
  have HVb := Lib.hid hVb
  clear hVb
  have HVc := Lib.hid hVc
  clear hVc
  have HK := Lib.hid hK
  clear hK
  have HL := Lib.hid hL
  clear hL
  have HS := Lib.hid hS
  clear hS
  have HT := Lib.hid hT
  clear hT
  have HX := Lib.hid hX
  clear hX
  have HY := Lib.hid hY
  clear hY
  have HZ := Lib.hid hZ
  clear hZ
  have HT0 := Lib.hid ht
  have T0 : Hid (Trk w w) := Lib.hid ⟨ht, Below.refl _ _⟩
  clear ht
  have T1 := Lib.hid (T0.out.alloc (.cells #[.int .i64 an, .int .i64 ad] 25))
  have A := Lib.hid (C2.new (w) (.int .i64 an) (.int .i64 ad) 25)
  have T2 := Lib.hid (T1.out.alloc (.cells #[.int .i64 bn, .int .i64 bd] 25))
  have A' := Lib.hid (A.out.alloc (.cells #[.int .i64 bn, .int .i64 bd] 25))
  clear A
  have A := Lib.hid A'.out
  clear A'
  have B := Lib.hid (C2.new ((w).alloc (.cells #[.int .i64 an, .int .i64 ad] 25)) (.int .i64 bn) (.int .i64 bd) 25)
  have T3 := Lib.hid (T2.out.alloc (.cells #[.int .i64 cn, .int .i64 cd] 25))
  have A' := Lib.hid (A.out.alloc (.cells #[.int .i64 cn, .int .i64 cd] 25))
  clear A
  have A := Lib.hid A'.out
  clear A'
  have B' := Lib.hid (B.out.alloc (.cells #[.int .i64 cn, .int .i64 cd] 25))
  clear B
  have B := Lib.hid B'.out
  clear B'
  have C := Lib.hid (C2.new (((w).alloc (.cells #[.int .i64 an, .int .i64 ad] 25)).alloc (.cells #[.int .i64 bn, .int .i64 bd] 25)) (.int .i64 cn) (.int .i64 cd) 25)
  go_enter Tryd.func4, Tryd.ntmps4
  go_wp2_with fail
  have hz : ((w).alloc (.cells #[.int .i64 an, .int .i64 ad] 25)).heap.size = w.heap.size + 1 := by simp
  rw [hz] at B
  clear hz
  have hz : (((w).alloc (.cells #[.int .i64 an, .int .i64 ad] 25)).alloc (.cells #[.int .i64 bn, .int .i64 bd] 25)).heap.size = w.heap.size + 2 := by simp
  rw [hz] at C
  clear hz
  generalize (((w).alloc (.cells #[.int .i64 an, .int .i64 ad] 25)).alloc (.cells #[.int .i64 bn, .int .i64 bd] 25)).alloc (.cells #[.int .i64 cn, .int .i64 cd] 25) = w3 at *
  refine (head01 _ T3.out.tabs).mono ?_
  rintro e w4 ⟨rfl, hb⟩
  have T4 := Lib.hid (T3.out.step hb)
  have A' := Lib.hid (A.out.step hb)
  clear A
  have A := Lib.hid A'.out
  clear A'
  have B' := Lib.hid (B.out.step hb)
  clear B
  have B := Lib.hid B'.out
  clear B'
  have C' := Lib.hid (C.out.step hb)
  clear C
  have C := Lib.hid C'.out
  clear C'
  clear hb
  obtain ⟨cA0, cA1⟩ := A.out.cells
  obtain ⟨cB0, cB1⟩ := B.out.cells
  obtain ⟨cC0, cC1⟩ := C.out.cells
  go_wp2_with fail
  refine (HVa.out _).mono ?_
  rintro e w5 ⟨rfl, hb⟩
  have T5 := Lib.hid (T4.out.step hb)
  have A' := Lib.hid (A.out.step hb)
  clear A
  have A := Lib.hid A'.out
  clear A'
  have B' := Lib.hid (B.out.step hb)
  clear B
  have B := Lib.hid B'.out
  clear B'
  have C' := Lib.hid (C.out.step hb)
  clear C
  have C := Lib.hid C'.out
  clear C'
  clear hb
  clear cA0 cA1 cB0 cB1 cC0 cC1
  obtain ⟨cA0, cA1⟩ := A.out.cells
  obtain ⟨cB0, cB1⟩ := B.out.cells
  obtain ⟨cC0, cC1⟩ := C.out.cells
  go_wp2_with fail
  refine (HVb.out _).mono ?_
  rintro e w6 ⟨rfl, hb⟩
  have T6 := Lib.hid (T5.out.step hb)
  have A' := Lib.hid (A.out.step hb)
  clear A
  have A := Lib.hid A'.out
  clear A'
  have B' := Lib.hid (B.out.step hb)
  clear B
  have B := Lib.hid B'.out
  clear B'
  have C' := Lib.hid (C.out.step hb)
  clear C
  have C := Lib.hid C'.out
  clear C'
  clear hb
  clear cA0 cA1 cB0 cB1 cC0 cC1
  obtain ⟨cA0, cA1⟩ := A.out.cells
  obtain ⟨cB0, cB1⟩ := B.out.cells
  obtain ⟨cC0, cC1⟩ := C.out.cells
  go_wp2_with fail
  refine (HVc.out _).mono ?_
  rintro e w7 ⟨rfl, hb⟩
  have T7 := Lib.hid (T6.out.step hb)
  have A' := Lib.hid (A.out.step hb)
  clear A
  have A := Lib.hid A'.out
  clear A'
  have B' := Lib.hid (B.out.step hb)
  clear B
  have B := Lib.hid B'.out
  clear B'
  have C' := Lib.hid (C.out.step hb)
  clear C
  have C := Lib.hid C'.out
  clear C'
  clear hb
  clear cA0 cA1 cB0 cB1 cC0 cC1
  obtain ⟨cA0, cA1⟩ := A.out.cells
  obtain ⟨cB0, cB1⟩ := B.out.cells
  obtain ⟨cC0, cC1⟩ := C.out.cells
  go_wp2_with fail
  refine (HK.out _).mono ?_
  rintro e w8 ⟨rfl, hb⟩
  have T8 := Lib.hid (T7.out.step hb)
  have A' := Lib.hid (A.out.step hb)
  clear A
  have A := Lib.hid A'.out
  clear A'
  have B' := Lib.hid (B.out.step hb)
  clear B
  have B := Lib.hid B'.out
  clear B'
  have C' := Lib.hid (C.out.step hb)
  clear C
  have C := Lib.hid C'.out
  clear C'
  clear hb
  clear cA0 cA1 cB0 cB1 cC0 cC1
  obtain ⟨cA0, cA1⟩ := A.out.cells
  obtain ⟨cB0, cB1⟩ := B.out.cells
  obtain ⟨cC0, cC1⟩ := C.out.cells
  go_wp2_with fail
  refine (HL.out _).mono ?_
  rintro e w9 ⟨rfl, hb⟩
  have T9 := Lib.hid (T8.out.step hb)
  have A' := Lib.hid (A.out.step hb)
  clear A
  have A := Lib.hid A'.out
  clear A'
  have B' := Lib.hid (B.out.step hb)
  clear B
  have B := Lib.hid B'.out
  clear B'
  have C' := Lib.hid (C.out.step hb)
  clear C
  have C := Lib.hid C'.out
  clear C'
  clear hb
  clear cA0 cA1 cB0 cB1 cC0 cC1
  obtain ⟨cA0, cA1⟩ := A.out.cells
  obtain ⟨cB0, cB1⟩ := B.out.cells
  obtain ⟨cC0, cC1⟩ := C.out.cells
  go_wp2_with fail
  refine (HS.out _).mono ?_
  rintro e w10 ⟨rfl, hb⟩
  have T10 := Lib.hid (T9.out.step hb)
  have A' := Lib.hid (A.out.step hb)
  clear A
  have A := Lib.hid A'.out
  clear A'
  have B' := Lib.hid (B.out.step hb)
  clear B
  have B := Lib.hid B'.out
  clear B'
  have C' := Lib.hid (C.out.step hb)
  clear C
  have C := Lib.hid C'.out
  clear C'
  clear hb
  clear cA0 cA1 cB0 cB1 cC0 cC1
  have lS := Lib.hid (C.out.lt)
  have T11 := Lib.hid (T10.out.alloc (.cells #[.int .i64 sn, .int .i64 sd] 25))
  have A' := Lib.hid (A.out.alloc (.cells #[.int .i64 sn, .int .i64 sd] 25))
  clear A
  have A := Lib.hid A'.out
  clear A'
  have B' := Lib.hid (B.out.alloc (.cells #[.int .i64 sn, .int .i64 sd] 25))
  clear B
  have B := Lib.hid B'.out
  clear B'
  have C' := Lib.hid (C.out.alloc (.cells #[.int .i64 sn, .int .i64 sd] 25))
  clear C
  have C := Lib.hid C'.out
  clear C'
  have S := Lib.hid (D2.new w10 (.int .i64 sn) (.int .i64 sd) 25)
  obtain ⟨cA0, cA1⟩ := A.out.cells
  obtain ⟨cB0, cB1⟩ := B.out.cells
  obtain ⟨cC0, cC1⟩ := C.out.cells
  obtain ⟨cS0, cS1⟩ := S.out.cells
  go_wp2_with fail
  generalize w10.alloc (.cells #[.int .i64 sn, .int .i64 sd] 25) = w11 at *
  generalize w10.heap.size = nS at *
  refine (HT.out _).mono ?_
  rintro e w12 ⟨rfl, hb⟩
  have T12 := Lib.hid (T11.out.step hb)
  have A' := Lib.hid (A.out.step hb)
  clear A
  have A := Lib.hid A'.out
  clear A'
  have B' := Lib.hid (B.out.step hb)
  clear B
  have B := Lib.hid B'.out
  clear B'
  have C' := Lib.hid (C.out.step hb)
  clear C
  have C := Lib.hid C'.out
  clear C'
  have S' := Lib.hid (S.out.step hb)
  clear S
  have S := Lib.hid S'.out
  clear S'
  clear hb
  clear cA0 cA1 cB0 cB1 cC0 cC1 cS0 cS1
  have lT := Lib.hid (S.out.c2.lt)
  have T13 := Lib.hid (T12.out.alloc (.cells #[.int .i64 tn, .int .i64 td] 25))
  have A' := Lib.hid (A.out.alloc (.cells #[.int .i64 tn, .int .i64 td] 25))
  clear A
  have A := Lib.hid A'.out
  clear A'
  have B' := Lib.hid (B.out.alloc (.cells #[.int .i64 tn, .int .i64 td] 25))
  clear B
  have B := Lib.hid B'.out
  clear B'
  have C' := Lib.hid (C.out.alloc (.cells #[.int .i64 tn, .int .i64 td] 25))
  clear C
  have C := Lib.hid C'.out
  clear C'
  have S' := Lib.hid (S.out.alloc (.cells #[.int .i64 tn, .int .i64 td] 25))
  clear S
  have S := Lib.hid S'.out
  clear S'
  have T := Lib.hid (D2.new w12 (.int .i64 tn) (.int .i64 td) 25)
  obtain ⟨cA0, cA1⟩ := A.out.cells
  obtain ⟨cB0, cB1⟩ := B.out.cells
  obtain ⟨cC0, cC1⟩ := C.out.cells
  obtain ⟨cS0, cS1⟩ := S.out.cells
  obtain ⟨cT0, cT1⟩ := T.out.cells
  go_wp2_with fail
  generalize w12.alloc (.cells #[.int .i64 tn, .int .i64 td] 25) = w13 at *
  generalize w12.heap.size = nT at *
  refine (HX.out _).mono ?_
  rintro e w14 ⟨rfl, hb⟩
  have T14 := Lib.hid (T13.out.step hb)
  have A' := Lib.hid (A.out.step hb)
  clear A
  have A := Lib.hid A'.out
  clear A'
  have B' := Lib.hid (B.out.step hb)
  clear B
  have B := Lib.hid B'.out
  clear B'
  have C' := Lib.hid (C.out.step hb)
  clear C
  have C := Lib.hid C'.out
  clear C'
  have S' := Lib.hid (S.out.step hb)
  clear S
  have S := Lib.hid S'.out
  clear S'
  have T' := Lib.hid (T.out.step hb)
  clear T
  have T := Lib.hid T'.out
  clear T'
  clear hb
  clear cA0 cA1 cB0 cB1 cC0 cC1 cS0 cS1 cT0 cT1
  obtain ⟨cA0, cA1⟩ := A.out.cells
  obtain ⟨cB0, cB1⟩ := B.out.cells
  obtain ⟨cC0, cC1⟩ := C.out.cells
  obtain ⟨cS0, cS1⟩ := S.out.cells
  obtain ⟨cT0, cT1⟩ := T.out.cells
  obtain ⟨k0, k1⟩ := S.out.frozen
  have T15 := Lib.hid (Trk.set (n := nS) T14.out HT0.out (by have := lS.out; omega) (.int .i64 xn) (.int .i64 xd))
  have A' := Lib.hid (A.out.set_other (m := nS) (by have := lS.out; omega) (.int .i64 xn) (.int .i64 xd))
  clear A
  have A := Lib.hid A'.out
  clear A'
  have B' := Lib.hid (B.out.set_other (m := nS) (by have := lS.out; omega) (.int .i64 xn) (.int .i64 xd))
  clear B
  have B := Lib.hid B'.out
  clear B'
  have C' := Lib.hid (C.out.set_other (m := nS) (by have := lS.out; omega) (.int .i64 xn) (.int .i64 xd))
  clear C
  have C := Lib.hid C'.out
  clear C'
  have S' := Lib.hid (S.out.set (.int .i64 xn) (.int .i64 xd))
  clear S
  have S := Lib.hid S'.out
  clear S'
  have T' := Lib.hid (T.out.set_other (m := nS) (by have := lT.out; omega) (.int .i64 xn) (.int .i64 xd))
  clear T
  have T := Lib.hid T'.out
  clear T'
  obtain ⟨pA0, pA1⟩ := A.out.cells
  obtain ⟨pB0, pB1⟩ := B.out.cells
  obtain ⟨pC0, pC1⟩ := C.out.cells
  obtain ⟨pS0, pS1⟩ := S.out.cells
  obtain ⟨pT0, pT1⟩ := T.out.cells
  go_wp2_with fail
  clear cA0 cA1 cB0 cB1 cC0 cC1 cS0 cS1 cT0 cT1 k0 k1 pA0 pA1 pB0 pB1 pC0 pC1 pS0 pS1 pT0 pT1
  generalize (w14.setCell ⟨nS, 0, none⟩ (.int .i64 xn)).setCell ⟨nS, 1, none⟩ (.int .i64 xd) = w15 at *
  refine (HY.out _).mono ?_
  rintro e w16 ⟨rfl, hb⟩
  have T16 := Lib.hid (T15.out.step hb)
  have A' := Lib.hid (A.out.step hb)
  clear A
  have A := Lib.hid A'.out
  clear A'
  have B' := Lib.hid (B.out.step hb)
  clear B
  have B := Lib.hid B'.out
  clear B'
  have C' := Lib.hid (C.out.step hb)
  clear C
  have C := Lib.hid C'.out
  clear C'
  have S' := Lib.hid (S.out.step hb)
  clear S
  have S := Lib.hid S'.out
  clear S'
  have T' := Lib.hid (T.out.step hb)
  clear T
  have T := Lib.hid T'.out
  clear T'
  clear hb
  obtain ⟨cA0, cA1⟩ := A.out.cells
  obtain ⟨cB0, cB1⟩ := B.out.cells
  obtain ⟨cC0, cC1⟩ := C.out.cells
  obtain ⟨cS0, cS1⟩ := S.out.cells
  obtain ⟨cT0, cT1⟩ := T.out.cells
  obtain ⟨k0, k1⟩ := T.out.frozen
  have T17 := Lib.hid (Trk.set (n := nT) T16.out HT0.out (by have := lS.out; have := lT.out; omega) (.int .i64 yn) (.int .i64 yd))
  have A' := Lib.hid (A.out.set_other (m := nT) (by have := lS.out; have := lT.out; omega) (.int .i64 yn) (.int .i64 yd))
  clear A
  have A := Lib.hid A'.out
  clear A'
  have B' := Lib.hid (B.out.set_other (m := nT) (by have := lS.out; have := lT.out; omega) (.int .i64 yn) (.int .i64 yd))
  clear B
  have B := Lib.hid B'.out
  clear B'
  have C' := Lib.hid (C.out.set_other (m := nT) (by have := lS.out; have := lT.out; omega) (.int .i64 yn) (.int .i64 yd))
  clear C
  have C := Lib.hid C'.out
  clear C'
  have S' := Lib.hid (S.out.set_other (m := nT) (by have := lT.out; omega) (.int .i64 yn) (.int .i64 yd))
  clear S
  have S := Lib.hid S'.out
  clear S'
  have T' := Lib.hid (T.out.set (.int .i64 yn) (.int .i64 yd))
  clear T
  have T := Lib.hid T'.out
  clear T'
  obtain ⟨pA0, pA1⟩ := A.out.cells
  obtain ⟨pB0, pB1⟩ := B.out.cells
  obtain ⟨pC0, pC1⟩ := C.out.cells
  obtain ⟨pS0, pS1⟩ := S.out.cells
  obtain ⟨pT0, pT1⟩ := T.out.cells
  go_wp2_with fail
  clear cA0 cA1 cB0 cB1 cC0 cC1 cS0 cS1 cT0 cT1 k0 k1 pA0 pA1 pB0 pB1 pC0 pC1 pS0 pS1 pT0 pT1
  generalize (w16.setCell ⟨nT, 0, none⟩ (.int .i64 yn)).setCell ⟨nT, 1, none⟩ (.int .i64 yd) = w17 at *
  refine (HZ.out _).mono ?_
  rintro e w18 ⟨rfl, hb⟩
  have T18 := Lib.hid (T17.out.step hb)
  have A' := Lib.hid (A.out.step hb)
  clear A
  have A := Lib.hid A'.out
  clear A'
  have B' := Lib.hid (B.out.step hb)
  clear B
  have B := Lib.hid B'.out
  clear B'
  have C' := Lib.hid (C.out.step hb)
  clear C
  have C := Lib.hid C'.out
  clear C'
  have S' := Lib.hid (S.out.step hb)
  clear S
  have S := Lib.hid S'.out
  clear S'
  have T' := Lib.hid (T.out.step hb)
  clear T
  have T := Lib.hid T'.out
  clear T'
  clear hb
  obtain ⟨cA0, cA1⟩ := A.out.cells
  obtain ⟨cB0, cB1⟩ := B.out.cells
  obtain ⟨cC0, cC1⟩ := C.out.cells
  obtain ⟨cS0, cS1⟩ := S.out.cells
  obtain ⟨cT0, cT1⟩ := T.out.cells
  go_wp2_with fail
  go_ret
  exact ⟨by first | rfl | simp, T18.out.bel⟩
set_option maxHeartbeats 2000000 in
set_option maxRecDepth 100000 in
theorem order_121 (an ad bn bd cn cd k sn sd se tn td te xn xd xe yn yd ye : Int) (w : World) (ht : Tabs w)
    (hVa : ∀ w, Calls Tryd.prog 15 #[.agg #[.int .i64 an, .int .i64 ad]] w fun e w' => e = .returned (.bool true) ∧ Below w.heap.size w w')
    (hVb : ∀ w, Calls Tryd.prog 15 #[.agg #[.int .i64 bn, .int .i64 bd]] w fun e w' => e = .returned (.bool true) ∧ Below w.heap.size w w')
    (hVc : ∀ w, Calls Tryd.prog 15 #[.agg #[.int .i64 cn, .int .i64 cd]] w fun e w' => e = .returned (.bool true) ∧ Below w.heap.size w w')
    (hK : ∀ w, Calls Tryd.prog 16 #[.agg #[.int .i64 an, .int .i64 ad], .agg #[.int .i64 bn, .int .i64 bd]] w fun e w' => e = .returned (.int .i64 k) ∧ Below w.heap.size w w')
    (hL : ∀ w, Calls Tryd.prog 16 #[.agg #[.int .i64 bn, .int .i64 bd], .agg #[.int .i64 an, .int .i64 ad]] w fun e w' => e = .returned (.int .i64 (-k)) ∧ Below w.heap.size w w')
    (AB : Bool) (hAB : (an == bn && ad == bd) = AB) (hk1 : -1 ≤ k) (hk2 : k ≤ 1) (hkeq : (k == 0) = AB)
    (hkp : 0 < k)
    (hS : ∀ w, Calls Tryd.prog 17 #[.agg #[.int .i64 an, .int .i64 ad], .agg #[.int .i64 cn, .int .i64 cd]] w (Ret3 w sn sd se))
    (hT : ∀ w, Calls Tryd.prog 17 #[.agg #[.int .i64 bn, .int .i64 bd], .agg #[.int .i64 cn, .int .i64 cd]] w (Ret3 w tn td te))
    (hX : ∀ w, Calls Tryd.prog 18 #[.agg #[.int .i64 an, .int .i64 ad], .agg #[.int .i64 cn, .int .i64 cd]] w (Ret3 w xn xd xe))
    (hY : ∀ w, Calls Tryd.prog 18 #[.agg #[.int .i64 bn, .int .i64 bd], .agg #[.int .i64 cn, .int .i64 cd]] w (Ret3 w yn yd ye))
    (hse : (se == 0) = true) (hte : (te == 0) = false)
    (hcn : cn ≤ 0) :
    Calls Tryd.prog 4 #[.agg #[.int .i64 an, .int .i64 ad], .agg #[.int .i64 bn, .int .i64 bd], .agg #[.int .i64 cn, .int .i64 cd]] w fun e w' => e = .returned (.bool true) ∧ Below w.heap.size w w' := by
  have hq := fun w => run_eql_ratio w an ad bn bd
  rw [hAB] at hq
  clear hAB
  have HVa := Lib.hid hVa
  clear hVa
  have HVb := Lib.hid hVb
  clear hVb
  have HVc := Lib.hid hVc
  clear hVc
  have HK := Lib.hid hK
  clear hK
  have HL := Lib.hid hL
  clear hL
  have HS := Lib.hid hS
  clear hS
  have HT := Lib.hid hT
  clear hT
  have HX := Lib.hid hX
  clear hX
  have HY := Lib.hid hY
  clear hY
  have HT0 := Lib.hid ht
  have T0 : Hid (Trk w w) := Lib.hid ⟨ht, Below.refl _ _⟩
  clear ht
  have T1 := Lib.hid (T0.out.alloc (.cells #[.int .i64 an, .int .i64 ad] 25))
  have A := Lib.hid (C2.new (w) (.int .i64 an) (.int .i64 ad) 25)
  have T2 := Lib.hid (T1.out.alloc (.cells #[.int .i64 bn, .int .i64 bd] 25))
  have A' := Lib.hid (A.out.alloc (.cells #[.int .i64 bn, .int .i64 bd] 25))
  clear A
  have A := Lib.hid A'.out
  clear A'
  have B := Lib.hid (C2.new ((w).alloc (.cells #[.int .i64 an, .int .i64 ad] 25)) (.int .i64 bn) (.int .i64 bd) 25)
  have T3 := Lib.hid (T2.out.alloc (.cells #[.int .i64 cn, .int .i64 cd] 25))
  have A' := Lib.hid (A.out.alloc (.cells #[.int .i64 cn, .int .i64 cd] 25))
  clear A
  have A := Lib.hid A'.out
  clear A'
  have B' := Lib.hid (B.out.alloc (.cells #[.int .i64 cn, .int .i64 cd] 25))
  clear B
  have B := Lib.hid B'.out
  clear B'
  have C := Lib.hid (C2.new (((w).alloc (.cells #[.int .i64 an, .int .i64 ad] 25)).alloc (.cells #[.int .i64 bn, .int .i64 bd] 25)) (.int .i64 cn) (.int .i64 cd) 25)
  go_enter Tryd.func4, Tryd.ntmps4
  go_wp2_with fail
  have hz : ((w).alloc (.cells #[.int .i64 an, .int .i64 ad] 25)).heap.size = w.heap.size + 1 := by simp
  rw [hz] at B
  clear hz
  have hz : (((w).alloc (.cells #[.int .i64 an, .int .i64 ad] 25)).alloc (.cells #[.int .i64 bn, .int .i64 bd] 25)).heap.size = w.heap.size + 2 := by simp
  rw [hz] at C
  clear hz
  generalize (((w).alloc (.cells #[.int .i64 an, .int .i64 ad] 25)).alloc (.cells #[.int .i64 bn, .int .i64 bd] 25)).alloc (.cells #[.int .i64 cn, .int .i64 cd] 25) = w3 at *
  refine (head01 _ T3.out.tabs).mono ?_
  rintro e w4 ⟨rfl, hb⟩
  have T4 := Lib.hid (T3.out.step hb)
  have A' := Lib.hid (A.out.step hb)
  clear A
  have A := Lib.hid A'.out
  clear A'
  have B' := Lib.hid (B.out.step hb)
  clear B
  have B := Lib.hid B'.out
  clear B'
  have C' := Lib.hid (C.out.step hb)
  clear C
  have C := Lib.hid C'.out
  clear C'
  clear hb
  obtain ⟨cA0, cA1⟩ := A.out.cells
  obtain ⟨cB0, cB1⟩ := B.out.cells
  obtain ⟨cC0, cC1⟩ := C.out.cells
  go_wp2_with fail
  refine (HVa.out _).mono ?_
  rintro e w5 ⟨rfl, hb⟩
  have T5 := Lib.hid (T4.out.step hb)
  have A' := Lib.hid (A.out.step hb)
  clear A
  have A := Lib.hid A'.out
  clear A'
  have B' := Lib.hid (B.out.step hb)
  clear B
  have B := Lib.hid B'.out
  clear B'
  have C' := Lib.hid (C.out.step hb)
  clear C
  have C := Lib.hid C'.out
  clear C'
  clear hb
  clear cA0 cA1 cB0 cB1 cC0 cC1
  obtain ⟨cA0, cA1⟩ := A.out.cells
  obtain ⟨cB0, cB1⟩ := B.out.cells
  obtain ⟨cC0, cC1⟩ := C.out.cells
  go_wp2_with fail
  refine (HVb.out _).mono ?_
  rintro e w6 ⟨rfl, hb⟩
  have T6 := Lib.hid (T5.out.step hb)
  have A' := Lib.hid (A.out.step hb)
  clear A
  have A := Lib.hid A'.out
  clear A'
  have B' := Lib.hid (B.out.step hb)
  clear B
  have B := Lib.hid B'.out
  clear B'
  have C' := Lib.hid (C.out.step hb)
  clear C
  have C := Lib.hid C'.out
  clear C'
  clear hb
  clear cA0 cA1 cB0 cB1 cC0 cC1
  obtain ⟨cA0, cA1⟩ := A.out.cells
  obtain ⟨cB0, cB1⟩ := B.out.cells
  obtain ⟨cC0, cC1⟩ := C.out.cells
  go_wp2_with fail
  refine (HVc.out _).mono ?_
  rintro e w7 ⟨rfl, hb⟩
  have T7 := Lib.hid (T6.out.step hb)
  have A' := Lib.hid (A.out.step hb)
  clear A
  have A := Lib.hid A'.out
  clear A'
  have B' := Lib.hid (B.out.step hb)
  clear B
  have B := Lib.hid B'.out
  clear B'
  have C' := Lib.hid (C.out.step hb)
  clear C
  have C := Lib.hid C'.out
  clear C'
  clear hb
  clear cA0 cA1 cB0 cB1 cC0 cC1
  obtain ⟨cA0, cA1⟩ := A.out.cells
  obtain ⟨cB0, cB1⟩ := B.out.cells
  obtain ⟨cC0, cC1⟩ := C.out.cells
  go_wp2_with fail
  refine (HK.out _).mono ?_
  rintro e w8 ⟨rfl, hb⟩
  have T8 := Lib.hid (T7.out.step hb)
  have A' := Lib.hid (A.out.step hb)
  clear A
  have A := Lib.hid A'.out
  clear A'
  have B' := Lib.hid (B.out.step hb)
  clear B
  have B := Lib.hid B'.out
  clear B'
  have C' := Lib.hid (C.out.step hb)
  clear C
  have C := Lib.hid C'.out
  clear C'
  clear hb
  clear cA0 cA1 cB0 cB1 cC0 cC1
  obtain ⟨cA0, cA1⟩ := A.out.cells
  obtain ⟨cB0, cB1⟩ := B.out.cells
  obtain ⟨cC0, cC1⟩ := C.out.cells
  go_wp2_with fail
  refine (HL.out _).mono ?_
  rintro e w9 ⟨rfl, hb⟩
  have T9 := Lib.hid (T8.out.step hb)
  have A' := Lib.hid (A.out.step hb)
  clear A
  have A := Lib.hid A'.out
  clear A'
  have B' := Lib.hid (B.out.step hb)
  clear B
  have B := Lib.hid B'.out
  clear B'
  have C' := Lib.hid (C.out.step hb)
  clear C
  have C := Lib.hid C'.out
  clear C'
  clear hb
  clear cA0 cA1 cB0 cB1 cC0 cC1
  obtain ⟨cA0, cA1⟩ := A.out.cells
  obtain ⟨cB0, cB1⟩ := B.out.cells
  obtain ⟨cC0, cC1⟩ := C.out.cells
  go_wp2_with fail
  refine (HS.out _).mono ?_
  rintro e w10 ⟨rfl, hb⟩
  have T10 := Lib.hid (T9.out.step hb)
  have A' := Lib.hid (A.out.step hb)
  clear A
  have A := Lib.hid A'.out
  clear A'
  have B' := Lib.hid (B.out.step hb)
  clear B
  have B := Lib.hid B'.out
  clear B'
  have C' := Lib.hid (C.out.step hb)
  clear C
  have C := Lib.hid C'.out
  clear C'
  clear hb
  clear cA0 cA1 cB0 cB1 cC0 cC1
  have lS := Lib.hid (C.out.lt)
  have T11 := Lib.hid (T10.out.alloc (.cells #[.int .i64 sn, .int .i64 sd] 25))
  have A' := Lib.hid (A.out.alloc (.cells #[.int .i64 sn, .int .i64 sd] 25))
  clear A
  have A := Lib.hid A'.out
  clear A'
  have B' := Lib.hid (B.out.alloc (.cells #[.int .i64 sn, .int .i64 sd] 25))
  clear B
  have B := Lib.hid B'.out
  clear B'
  have C' := Lib.hid (C.out.alloc (.cells #[.int .i64 sn, .int .i64 sd] 25))
  clear C
  have C := Lib.hid C'.out
  clear C'
  have S := Lib.hid (D2.new w10 (.int .i64 sn) (.int .i64 sd) 25)
  obtain ⟨cA0, cA1⟩ := A.out.cells
  obtain ⟨cB0, cB1⟩ := B.out.cells
  obtain ⟨cC0, cC1⟩ := C.out.cells
  obtain ⟨cS0, cS1⟩ := S.out.cells
  go_wp2_with fail
  generalize w10.alloc (.cells #[.int .i64 sn, .int .i64 sd] 25) = w11 at *
  generalize w10.heap.size = nS at *
  refine (HT.out _).mono ?_
  rintro e w12 ⟨rfl, hb⟩
  have T12 := Lib.hid (T11.out.step hb)
  have A' := Lib.hid (A.out.step hb)
  clear A
  have A := Lib.hid A'.out
  clear A'
  have B' := Lib.hid (B.out.step hb)
  clear B
  have B := Lib.hid B'.out
  clear B'
  have C' := Lib.hid (C.out.step hb)
  clear C
  have C := Lib.hid C'.out
  clear C'
  have S' := Lib.hid (S.out.step hb)
  clear S
  have S := Lib.hid S'.out
  clear S'
  clear hb
  clear cA0 cA1 cB0 cB1 cC0 cC1 cS0 cS1
  have lT := Lib.hid (S.out.c2.lt)
  have T13 := Lib.hid (T12.out.alloc (.cells #[.int .i64 tn, .int .i64 td] 25))
  have A' := Lib.hid (A.out.alloc (.cells #[.int .i64 tn, .int .i64 td] 25))
  clear A
  have A := Lib.hid A'.out
  clear A'
  have B' := Lib.hid (B.out.alloc (.cells #[.int .i64 tn, .int .i64 td] 25))
  clear B
  have B := Lib.hid B'.out
  clear B'
  have C' := Lib.hid (C.out.alloc (.cells #[.int .i64 tn, .int .i64 td] 25))
  clear C
  have C := Lib.hid C'.out
  clear C'
  have S' := Lib.hid (S.out.alloc (.cells #[.int .i64 tn, .int .i64 td] 25))
  clear S
  have S := Lib.hid S'.out
  clear S'
  have T := Lib.hid (D2.new w12 (.int .i64 tn) (.int .i64 td) 25)
  obtain ⟨cA0, cA1⟩ := A.out.cells
  obtain ⟨cB0, cB1⟩ := B.out.cells
  obtain ⟨cC0, cC1⟩ := C.out.cells
  obtain ⟨cS0, cS1⟩ := S.out.cells
  obtain ⟨cT0, cT1⟩ := T.out.cells
  go_wp2_with fail
  generalize w12.alloc (.cells #[.int .i64 tn, .int .i64 td] 25) = w13 at *
  generalize w12.heap.size = nT at *
  refine (HX.out _).mono ?_
  rintro e w14 ⟨rfl, hb⟩
  have T14 := Lib.hid (T13.out.step hb)
  have A' := Lib.hid (A.out.step hb)
  clear A
  have A := Lib.hid A'.out
  clear A'
  have B' := Lib.hid (B.out.step hb)
  clear B
  have B := Lib.hid B'.out
  clear B'
  have C' := Lib.hid (C.out.step hb)
  clear C
  have C := Lib.hid C'.out
  clear C'
  have S' := Lib.hid (S.out.step hb)
  clear S
  have S := Lib.hid S'.out
  clear S'
  have T' := Lib.hid (T.out.step hb)
  clear T
  have T := Lib.hid T'.out
  clear T'
  clear hb
  clear cA0 cA1 cB0 cB1 cC0 cC1 cS0 cS1 cT0 cT1
  obtain ⟨cA0, cA1⟩ := A.out.cells
  obtain ⟨cB0, cB1⟩ := B.out.cells
  obtain ⟨cC0, cC1⟩ := C.out.cells
  obtain ⟨cS0, cS1⟩ := S.out.cells
  obtain ⟨cT0, cT1⟩ := T.out.cells
  obtain ⟨k0, k1⟩ := S.out.frozen
  have T15 := Lib.hid (Trk.set (n := nS) T14.out HT0.out (by have := lS.out; omega) (.int .i64 xn) (.int .i64 xd))
  have A' := Lib.hid (A.out.set_other (m := nS) (by have := lS.out; omega) (.int .i64 xn) (.int .i64 xd))
  clear A
  have A := Lib.hid A'.out
  clear A'
  have B' := Lib.hid (B.out.set_other (m := nS) (by have := lS.out; omega) (.int .i64 xn) (.int .i64 xd))
  clear B
  have B := Lib.hid B'.out
  clear B'
  have C' := Lib.hid (C.out.set_other (m := nS) (by have := lS.out; omega) (.int .i64 xn) (.int .i64 xd))
  clear C
  have C := Lib.hid C'.out
  clear C'
  have S' := Lib.hid (S.out.set (.int .i64 xn) (.int .i64 xd))
  clear S
  have S := Lib.hid S'.out
  clear S'
  have T' := Lib.hid (T.out.set_other (m := nS) (by have := lT.out; omega) (.int .i64 xn) (.int .i64 xd))
  clear T
  have T := Lib.hid T'.out
  clear T'
  obtain ⟨pA0, pA1⟩ := A.out.cells
  obtain ⟨pB0, pB1⟩ := B.out.cells
  obtain ⟨pC0, pC1⟩ := C.out.cells
  obtain ⟨pS0, pS1⟩ := S.out.cells
  obtain ⟨pT0, pT1⟩ := T.out.cells
  go_wp2_with fail
  clear cA0 cA1 cB0 cB1 cC0 cC1 cS0 cS1 cT0 cT1 k0 k1 pA0 pA1 pB0 pB1 pC0 pC1 pS0 pS1 pT0 pT1
  generalize (w14.setCell ⟨nS, 0, none⟩ (.int .i64 xn)).setCell ⟨nS, 1, none⟩ (.int .i64 xd) = w15 at *
  refine (HY.out _).mono ?_
  rintro e w16 ⟨rfl, hb⟩
  have T16 := Lib.hid (T15.out.step hb)
  have A' := Lib.hid (A.out.step hb)
  clear A
  have A := Lib.hid A'.out
  clear A'
  have B' := Lib.hid (B.out.step hb)
  clear B
  have B := Lib.hid B'.out
  clear B'
  have C' := Lib.hid (C.out.step hb)
  clear C
  have C := Lib.hid C'.out
  clear C'
  have S' := Lib.hid (S.out.step hb)
  clear S
  have S := Lib.hid S'.out
  clear S'
  have T' := Lib.hid (T.out.step hb)
  clear T
  have T := Lib.hid T'.out
  clear T'
  clear hb
  obtain ⟨cA0, cA1⟩ := A.out.cells
  obtain ⟨cB0, cB1⟩ := B.out.cells
  obtain ⟨cC0, cC1⟩ := C.out.cells
  obtain ⟨cS0, cS1⟩ := S.out.cells
  obtain ⟨cT0, cT1⟩ := T.out.cells
  obtain ⟨k0, k1⟩ := T.out.frozen
  have T17 := Lib.hid (Trk.set (n := nT) T16.out HT0.out (by have := lS.out; have := lT.out; omega) (.int .i64 yn) (.int .i64 yd))
  have A' := Lib.hid (A.out.set_other (m := nT) (by have := lS.out; have := lT.out; omega) (.int .i64 yn) (.int .i64 yd))
  clear A
  have A := Lib.hid A'.out
  clear A'
  have B' := Lib.hid (B.out.set_other (m := nT) (by have := lS.out; have := lT.out; omega) (.int .i64 yn) (.int .i64 yd))
  clear B
  have B := Lib.hid B'.out
  clear B'
  have C' := Lib.hid (C.out.set_other (m := nT) (by have := lS.out; have := lT.out; omega) (.int .i64 yn) (.int .i64 yd))
  clear C
  have C := Lib.hid C'.out
  clear C'
  have S' := Lib.hid (S.out.set_other (m := nT) (by have := lT.out; omega) (.int .i64 yn) (.int .i64 yd))
  clear S
  have S := Lib.hid S'.out
  clear S'
  have T' := Lib.hid (T.out.set (.int .i64 yn) (.int .i64 yd))
  clear T
  have T := Lib.hid T'.out
  clear T'
  obtain ⟨pA0, pA1⟩ := A.out.cells
  obtain ⟨pB0, pB1⟩ := B.out.cells
  obtain ⟨pC0, pC1⟩ := C.out.cells
  obtain ⟨pS0, pS1⟩ := S.out.cells
  obtain ⟨pT0, pT1⟩ := T.out.cells
  go_wp2_with fail
  clear cA0 cA1 cB0 cB1 cC0 cC1 cS0 cS1 cT0 cT1 k0 k1 pA0 pA1 pB0 pB1 pC0 pC1 pS0 pS1 pT0 pT1
  generalize (w16.setCell ⟨nT, 0, none⟩ (.int .i64 yn)).setCell ⟨nT, 1, none⟩ (.int .i64 yd) = w17 at *
  go_ret
  exact ⟨by first | rfl | simp, T17.out.bel⟩
set_option maxHeartbeats 2000000 in
set_option maxRecDepth 100000 in
theorem order_122 (an ad bn bd cn cd k sn sd se tn td te xn xd xe yn yd ye : Int) (w : World) (ht : Tabs w)
    (hVa : ∀ w, Calls Tryd.prog 15 #[.agg #[.int .i64 an, .int .i64 ad]] w fun e w' => e = .returned (.bool true) ∧ Below w.heap.size w w')
    (hVb : ∀ w, Calls Tryd.prog 15 #[.agg #[.int .i64 bn, .int .i64 bd]] w fun e w' => e = .returned (.bool true) ∧ Below w.heap.size w w')
    (hVc : ∀ w, Calls Tryd.prog 15 #[.agg #[.int .i64 cn, .int .i64 cd]] w fun e w' => e = .returned (.bool true) ∧ Below w.heap.size w w')
    (hK : ∀ w, Calls Tryd.prog 16 #[.agg #[.int .i64 an, .int .i64 ad], .agg #[.int .i64 bn, .int .i64 bd]] w fun e w' => e = .returned (.int .i64 k) ∧ Below w.heap.size w w')
    (hL : ∀ w, Calls Tryd.prog 16 #[.agg #[.int .i64 bn, .int .i64 bd], .agg #[.int .i64 an, .int .i64 ad]] w fun e w' => e = .returned (.int .i64 (-k)) ∧ Below w.heap.size w w')
    (AB : Bool) (hAB : (an == bn && ad == bd) = AB) (hk1 : -1 ≤ k) (hk2 : k ≤ 1) (hkeq : (k == 0) = AB)
    (hkp : 0 < k)
    (hS : ∀ w, Calls Tryd.prog 17 #[.agg #[.int .i64 an, .int .i64 ad], .agg #[.int .i64 cn, .int .i64 cd]] w (Ret3 w sn sd se))
    (hT : ∀ w, Calls Tryd.prog 17 #[.agg #[.int .i64 bn, .int .i64 bd], .agg #[.int .i64 cn, .int .i64 cd]] w (Ret3 w tn td te))
    (hX : ∀ w, Calls Tryd.prog 18 #[.agg #[.int .i64 an, .int .i64 ad], .agg #[.int .i64 cn, .int .i64 cd]] w (Ret3 w xn xd xe))
    (hY : ∀ w, Calls Tryd.prog 18 #[.agg #[.int .i64 bn, .int .i64 bd], .agg #[.int .i64 cn, .int .i64 cd]] w (Ret3 w yn yd ye))
    (hse : (se == 0) = true) (hte : (te == 0) = false)
    (hcn : 0 < cn) (hxe : (xe != 0) = true) :
    Calls Tryd.prog 4 #[.agg #[.int .i64 an, .int .i64 ad], .agg #[.int .i64 bn, .int .i64 bd], .agg #[.int .i64 cn, .int .i64 cd]] w fun e w' => e = .returned (.bool true) ∧ Below w.heap.size w w' := by
  have hq := fun w => run_eql_ratio w an ad bn bd
  rw [hAB] at hq
  clear hAB
  have HVa := Lib.hid hVa
  clear hVa
  have HVb := Lib.hid hVb
  clear hVb
  have HVc := Lib.hid hVc
  clear hVc
  have HK := Lib.hid hK
  clear hK
  have HL := Lib.hid hL
  clear hL
  have HS := Lib.hid hS
  clear hS
  have HT := Lib.hid hT
  clear hT
  have HX := Lib.hid hX
  clear hX
  have HY := Lib.hid hY
  clear hY
  have HT0 := Lib.hid ht
  have T0 : Hid (Trk w w) := Lib.hid ⟨ht, Below.refl _ _⟩
  clear ht
  have T1 := Lib.hid (T0.out.alloc (.cells #[.int .i64 an, .int .i64 ad] 25))
  have A := Lib.hid (C2.new (w) (.int .i64 an) (.int .i64 ad) 25)
  have T2 := Lib.hid (T1.out.alloc (.cells #[.int .i64 bn, .int .i64 bd] 25))
  have A' := Lib.hid (A.out.alloc (.cells #[.int .i64 bn, .int .i64 bd] 25))
  clear A
  have A := Lib.hid A'.out
  clear A'
  have B := Lib.hid (C2.new ((w).alloc (.cells #[.int .i64 an, .int .i64 ad] 25)) (.int .i64 bn) (.int .i64 bd) 25)
  have T3 := Lib.hid (T2.out.alloc (.cells #[.int .i64 cn, .int .i64 cd] 25))
  have A' := Lib.hid (A.out.alloc (.cells #[.int .i64 cn, .int .i64 cd] 25))
  clear A
  have A := Lib.hid A'.out
  clear A'
  have B' := Lib.hid (B.out.alloc (.cells #[.int .i64 cn, .int .i64 cd] 25))
  clear B
  have B := Lib.hid B'.out
  clear B'
  have C := Lib.hid (C2.new (((w).alloc (.cells #[.int .i64 an, .int .i64 ad] 25)).alloc (.cells #[.int .i64 bn, .int .i64 bd] 25)) (.int .i64 cn) (.int .i64 cd) 25)
  go_enter Tryd.func4, Tryd.ntmps4
  go_wp2_with fail
  have hz : ((w).alloc (.cells #[.int .i64 an, .int .i64 ad] 25)).heap.size = w.heap.size + 1 := by simp
  rw [hz] at B
  clear hz
  have hz : (((w).alloc (.cells #[.int .i64 an, .int .i64 ad] 25)).alloc (.cells #[.int .i64 bn, .int .i64 bd] 25)).heap.size = w.heap.size + 2 := by simp
  rw [hz] at C
  clear hz
  generalize (((w).alloc (.cells #[.int .i64 an, .int .i64 ad] 25)).alloc (.cells #[.int .i64 bn, .int .i64 bd] 25)).alloc (.cells #[.int .i64 cn, .int .i64 cd] 25) = w3 at *
  refine (head01 _ T3.out.tabs).mono ?_
  rintro e w4 ⟨rfl, hb⟩
  have T4 := Lib.hid (T3.out.step hb)
  have A' := Lib.hid (A.out.step hb)
  clear A
  have A := Lib.hid A'.out
  clear A'
  have B' := Lib.hid (B.out.step hb)
  clear B
  have B := Lib.hid B'.out
  clear B'
  have C' := Lib.hid (C.out.step hb)
  clear C
  have C := Lib.hid C'.out
  clear C'
  clear hb
  obtain ⟨cA0, cA1⟩ := A.out.cells
  obtain ⟨cB0, cB1⟩ := B.out.cells
  obtain ⟨cC0, cC1⟩ := C.out.cells
  go_wp2_with fail
  refine (HVa.out _).mono ?_
  rintro e w5 ⟨rfl, hb⟩
  have T5 := Lib.hid (T4.out.step hb)
  have A' := Lib.hid (A.out.step hb)
  clear A
  have A := Lib.hid A'.out
  clear A'
  have B' := Lib.hid (B.out.step hb)
  clear B
  have B := Lib.hid B'.out
  clear B'
  have C' := Lib.hid (C.out.step hb)
  clear C
  have C := Lib.hid C'.out
  clear C'
  clear hb
  clear cA0 cA1 cB0 cB1 cC0 cC1
  obtain ⟨cA0, cA1⟩ := A.out.cells
  obtain ⟨cB0, cB1⟩ := B.out.cells
  obtain ⟨cC0, cC1⟩ := C.out.cells
  go_wp2_with fail
  refine (HVb.out _).mono ?_
  rintro e w6 ⟨rfl, hb⟩
  have T6 := Lib.hid (T5.out.step hb)
  have A' := Lib.hid (A.out.step hb)
  clear A
  have A := Lib.hid A'.out
  clear A'
  have B' := Lib.hid (B.out.step hb)
  clear B
  have B := Lib.hid B'.out
  clear B'
  have C' := Lib.hid (C.out.step hb)
  clear C
  have C := Lib.hid C'.out
  clear C'
  clear hb
  clear cA0 cA1 cB0 cB1 cC0 cC1
  obtain ⟨cA0, cA1⟩ := A.out.cells
  obtain ⟨cB0, cB1⟩ := B.out.cells
  obtain ⟨cC0, cC1⟩ := C.out.cells
  go_wp2_with fail
  refine (HVc.out _).mono ?_
  rintro e w7 ⟨rfl, hb⟩
  have T7 := Lib.hid (T6.out.step hb)
  have A' := Lib.hid (A.out.step hb)
  clear A
  have A := Lib.hid A'.out
  clear A'
  have B' := Lib.hid (B.out.step hb)
  clear B
  have B := Lib.hid B'.out
  clear B'
  have C' := Lib.hid (C.out.step hb)
  clear C
  have C := Lib.hid C'.out
  clear C'
  clear hb
  clear cA0 cA1 cB0 cB1 cC0 cC1
  obtain ⟨cA0, cA1⟩ := A.out.cells
  obtain ⟨cB0, cB1⟩ := B.out.cells
  obtain ⟨cC0, cC1⟩ := C.out.cells
  go_wp2_with fail
  refine (HK.out _).mono ?_
  rintro e w8 ⟨rfl, hb⟩
  have T8 := Lib.hid (T7.out.step hb)
  have A' := Lib.hid (A.out.step hb)
  clear A
  have A := Lib.hid A'.out
  clear A'
  have B' := Lib.hid (B.out.step hb)
  clear B
  have B := Lib.hid B'.out
  clear B'
  have C' := Lib.hid (C.out.step hb)
  clear C
  have C := Lib.hid C'.out
  clear C'
  clear hb
  clear cA0 cA1 cB0 cB1 cC0 cC1
  obtain ⟨cA0, cA1⟩ := A.out.cells
  obtain ⟨cB0, cB1⟩ := B.out.cells
  obtain ⟨cC0, cC1⟩ := C.out.cells
  go_wp2_with fail
  refine (HL.out _).mono ?_
  rintro e w9 ⟨rfl, hb⟩
  have T9 := Lib.hid (T8.out.step hb)
  have A' := Lib.hid (A.out.step hb)
  clear A
  have A := Lib.hid A'.out
  clear A'
  have B' := Lib.hid (B.out.step hb)
  clear B
  have B := Lib.hid B'.out
  clear B'
  have C' := Lib.hid (C.out.step hb)
  clear C
  have C := Lib.hid C'.out
  clear C'
  clear hb
  clear cA0 cA1 cB0 cB1 cC0 cC1
  obtain ⟨cA0, cA1⟩ := A.out.cells
  obtain ⟨cB0, cB1⟩ := B.out.cells
  obtain ⟨cC0, cC1⟩ := C.out.cells
  go_wp2_with fail
  refine (HS.out _).mono ?_
  rintro e w10 ⟨rfl, hb⟩
  have T10 := Lib.hid (T9.out.step hb)
  have A' := Lib.hid (A.out.step hb)
  clear A
  have A := Lib.hid A'.out
  clear A'
  have B' := Lib.hid (B.out.step hb)
  clear B
  have B := Lib.hid B'.out
  clear B'
  have C' := Lib.hid (C.out.step hb)
  clear C
  have C := Lib.hid C'.out
  clear C'
  clear hb
  clear cA0 cA1 cB0 cB1 cC0 cC1
  have lS := Lib.hid (C.out.lt)
  have T11 := Lib.hid (T10.out.alloc (.cells #[.int .i64 sn, .int .i64 sd] 25))
  have A' := Lib.hid (A.out.alloc (.cells #[.int .i64 sn, .int .i64 sd] 25))
  clear A
  have A := Lib.hid A'.out
  clear A'
  have B' := Lib.hid (B.out.alloc (.cells #[.int .i64 sn, .int .i64 sd] 25))
  clear B
  have B := Lib.hid B'.out
  clear B'
  have C' := Lib.hid (C.out.alloc (.cells #[.int .i64 sn, .int .i64 sd] 25))
  clear C
  have C := Lib.hid C'.out
  clear C'
  have S := Lib.hid (D2.new w10 (.int .i64 sn) (.int .i64 sd) 25)
  obtain ⟨cA0, cA1⟩ := A.out.cells
  obtain ⟨cB0, cB1⟩ := B.out.cells
  obtain ⟨cC0, cC1⟩ := C.out.cells
  obtain ⟨cS0, cS1⟩ := S.out.cells
  go_wp2_with fail
  generalize w10.alloc (.cells #[.int .i64 sn, .int .i64 sd] 25) = w11 at *
  generalize w10.heap.size = nS at *
  refine (HT.out _).mono ?_
  rintro e w12 ⟨rfl, hb⟩
  have T12 := Lib.hid (T11.out.step hb)
  have A' := Lib.hid (A.out.step hb)
  clear A
  have A := Lib.hid A'.out
  clear A'
  have B' := Lib.hid (B.out.step hb)
  clear B
  have B := Lib.hid B'.out
  clear B'
  have C' := Lib.hid (C.out.step hb)
  clear C
  have C := Lib.hid C'.out
  clear C'
  have S' := Lib.hid (S.out.step hb)
  clear S
  have S := Lib.hid S'.out
  clear S'
  clear hb
  clear cA0 cA1 cB0 cB1 cC0 cC1 cS0 cS1
  have lT := Lib.hid (S.out.c2.lt)
  have T13 := Lib.hid (T12.out.alloc (.cells #[.int .i64 tn, .int .i64 td] 25))
  have A' := Lib.hid (A.out.alloc (.cells #[.int .i64 tn, .int .i64 td] 25))
  clear A
  have A := Lib.hid A'.out
  clear A'
  have B' := Lib.hid (B.out.alloc (.cells #[.int .i64 tn, .int .i64 td] 25))
  clear B
  have B := Lib.hid B'.out
  clear B'
  have C' := Lib.hid (C.out.alloc (.cells #[.int .i64 tn, .int .i64 td] 25))
  clear C
  have C := Lib.hid C'.out
  clear C'
  have S' := Lib.hid (S.out.alloc (.cells #[.int .i64 tn, .int .i64 td] 25))
  clear S
  have S := Lib.hid S'.out
  clear S'
  have T := Lib.hid (D2.new w12 (.int .i64 tn) (.int .i64 td) 25)
  obtain ⟨cA0, cA1⟩ := A.out.cells
  obtain ⟨cB0, cB1⟩ := B.out.cells
  obtain ⟨cC0, cC1⟩ := C.out.cells
  obtain ⟨cS0, cS1⟩ := S.out.cells
  obtain ⟨cT0, cT1⟩ := T.out.cells
  go_wp2_with fail
  generalize w12.alloc (.cells #[.int .i64 tn, .int .i64 td] 25) = w13 at *
  generalize w12.heap.size = nT at *
  refine (HX.out _).mono ?_
  rintro e w14 ⟨rfl, hb⟩
  have T14 := Lib.hid (T13.out.step hb)
  have A' := Lib.hid (A.out.step hb)
  clear A
  have A := Lib.hid A'.out
  clear A'
  have B' := Lib.hid (B.out.step hb)
  clear B
  have B := Lib.hid B'.out
  clear B'
  have C' := Lib.hid (C.out.step hb)
  clear C
  have C := Lib.hid C'.out
  clear C'
  have S' := Lib.hid (S.out.step hb)
  clear S
  have S := Lib.hid S'.out
  clear S'
  have T' := Lib.hid (T.out.step hb)
  clear T
  have T := Lib.hid T'.out
  clear T'
  clear hb
  clear cA0 cA1 cB0 cB1 cC0 cC1 cS0 cS1 cT0 cT1
  obtain ⟨cA0, cA1⟩ := A.out.cells
  obtain ⟨cB0, cB1⟩ := B.out.cells
  obtain ⟨cC0, cC1⟩ := C.out.cells
  obtain ⟨cS0, cS1⟩ := S.out.cells
  obtain ⟨cT0, cT1⟩ := T.out.cells
  obtain ⟨k0, k1⟩ := S.out.frozen
  have T15 := Lib.hid (Trk.set (n := nS) T14.out HT0.out (by have := lS.out; omega) (.int .i64 xn) (.int .i64 xd))
  have A' := Lib.hid (A.out.set_other (m := nS) (by have := lS.out; omega) (.int .i64 xn) (.int .i64 xd))
  clear A
  have A := Lib.hid A'.out
  clear A'
  have B' := Lib.hid (B.out.set_other (m := nS) (by have := lS.out; omega) (.int .i64 xn) (.int .i64 xd))
  clear B
  have B := Lib.hid B'.out
  clear B'
  have C' := Lib.hid (C.out.set_other (m := nS) (by have := lS.out; omega) (.int .i64 xn) (.int .i64 xd))
  clear C
  have C := Lib.hid C'.out
  clear C'
  have S' := Lib.hid (S.out.set (.int .i64 xn) (.int .i64 xd))
  clear S
  have S := Lib.hid S'.out
  clear S'
  have T' := Lib.hid (T.out.set_other (m := nS) (by have := lT.out; omega) (.int .i64 xn) (.int .i64 xd))
  clear T
  have T := Lib.hid T'.out
  clear T'
  obtain ⟨pA0, pA1⟩ := A.out.cells
  obtain ⟨pB0, pB1⟩ := B.out.cells
  obtain ⟨pC0, pC1⟩ := C.out.cells
  obtain ⟨pS0, pS1⟩ := S.out.cells
  obtain ⟨pT0, pT1⟩ := T.out.cells
  go_wp2_with fail
  clear cA0 cA1 cB0 cB1 cC0 cC1 cS0 cS1 cT0 cT1 k0 k1 pA0 pA1 pB0 pB1 pC0 pC1 pS0 pS1 pT0 pT1
  generalize (w14.setCell ⟨nS, 0, none⟩ (.int .i64 xn)).setCell ⟨nS, 1, none⟩ (.int .i64 xd) = w15 at *
  refine (HY.out _).mono ?_
  rintro e w16 ⟨rfl, hb⟩
  have T16 := Lib.hid (T15.out.step hb)
  have A' := Lib.hid (A.out.step hb)
  clear A
  have A := Lib.hid A'.out
  clear A'
  have B' := Lib.hid (B.out.step hb)
  clear B
  have B := Lib.hid B'.out
  clear B'
  have C' := Lib.hid (C.out.step hb)
  clear C
  have C := Lib.hid C'.out
  clear C'
  have S' := Lib.hid (S.out.step hb)
  clear S
  have S := Lib.hid S'.out
  clear S'
  have T' := Lib.hid (T.out.step hb)
  clear T
  have T := Lib.hid T'.out
  clear T'
  clear hb
  obtain ⟨cA0, cA1⟩ := A.out.cells
  obtain ⟨cB0, cB1⟩ := B.out.cells
  obtain ⟨cC0, cC1⟩ := C.out.cells
  obtain ⟨cS0, cS1⟩ := S.out.cells
  obtain ⟨cT0, cT1⟩ := T.out.cells
  obtain ⟨k0, k1⟩ := T.out.frozen
  have T17 := Lib.hid (Trk.set (n := nT) T16.out HT0.out (by have := lS.out; have := lT.out; omega) (.int .i64 yn) (.int .i64 yd))
  have A' := Lib.hid (A.out.set_other (m := nT) (by have := lS.out; have := lT.out; omega) (.int .i64 yn) (.int .i64 yd))
  clear A
  have A := Lib.hid A'.out
  clear A'
  have B' := Lib.hid (B.out.set_other (m := nT) (by have := lS.out; have := lT.out; omega) (.int .i64 yn) (.int .i64 yd))
  clear B
  have B := Lib.hid B'.out
  clear B'
  have C' := Lib.hid (C.out.set_other (m := nT) (by have := lS.out; have := lT.out; omega) (.int .i64 yn) (.int .i64 yd))
  clear C
  have C := Lib.hid C'.out
  clear C'
  have S' := Lib.hid (S.out.set_other (m := nT) (by have := lT.out; omega) (.int .i64 yn) (.int .i64 yd))
  clear S
  have S := Lib.hid S'.out
  clear S'
  have T' := Lib.hid (T.out.set (.int .i64 yn) (.int .i64 yd))
  clear T
  have T := Lib.hid T'.out
  clear T'
  obtain ⟨pA0, pA1⟩ := A.out.cells
  obtain ⟨pB0, pB1⟩ := B.out.cells
  obtain ⟨pC0, pC1⟩ := C.out.cells
  obtain ⟨pS0, pS1⟩ := S.out.cells
  obtain ⟨pT0, pT1⟩ := T.out.cells
  go_wp2_with fail
  clear cA0 cA1 cB0 cB1 cC0 cC1 cS0 cS1 cT0 cT1 k0 k1 pA0 pA1 pB0 pB1 pC0 pC1 pS0 pS1 pT0 pT1
  generalize (w16.setCell ⟨nT, 0, none⟩ (.int .i64 yn)).setCell ⟨nT, 1, none⟩ (.int .i64 yd) = w17 at *
  go_ret
  exact ⟨by first | rfl | simp, T17.out.bel⟩
set_option maxHeartbeats 2000000 in
set_option maxRecDepth 100000 in
theorem order_123 (an ad bn bd cn cd k sn sd se tn td te xn xd xe yn yd ye : Int) (w : World) (ht : Tabs w)
    (hVa : ∀ w, Calls Tryd.prog 15 #[.agg #[.int .i64 an, .int .i64 ad]] w fun e w' => e = .returned (.bool true) ∧ Below w.heap.size w w')
    (hVb : ∀ w, Calls Tryd.prog 15 #[.agg #[.int .i64 bn, .int .i64 bd]] w fun e w' => e = .returned (.bool true) ∧ Below w.heap.size w w')
    (hVc : ∀ w, Calls Tryd.prog 15 #[.agg #[.int .i64 cn, .int .i64 cd]] w fun e w' => e = .returned (.bool true) ∧ Below w.heap.size w w')
    (hK : ∀ w, Calls Tryd.prog 16 #[.agg #[.int .i64 an, .int .i64 ad], .agg #[.int .i64 bn, .int .i64 bd]] w fun e w' => e = .returned (.int .i64 k) ∧ Below w.heap.size w w')
    (hL : ∀ w, Calls Tryd.prog 16 #[.agg #[.int .i64 bn, .int .i64 bd], .agg #[.int .i64 an, .int .i64 ad]] w fun e w' => e = .returned (.int .i64 (-k)) ∧ Below w.heap.size w w')
    (AB : Bool) (hAB : (an == bn && ad == bd) = AB) (hk1 : -1 ≤ k) (hk2 : k ≤ 1) (hkeq : (k == 0) = AB)
    (hkp : 0 < k)
    (hS : ∀ w, Calls Tryd.prog 17 #[.agg #[.int .i64 an, .int .i64 ad], .agg #[.int .i64 cn, .int .i64 cd]] w (Ret3 w sn sd se))
    (hT : ∀ w, Calls Tryd.prog 17 #[.agg #[.int .i64 bn, .int .i64 bd], .agg #[.int .i64 cn, .int .i64 cd]] w (Ret3 w tn td te))
    (hX : ∀ w, Calls Tryd.prog 18 #[.agg #[.int .i64 an, .int .i64 ad], .agg #[.int .i64 cn, .int .i64 cd]] w (Ret3 w xn xd xe))
    (hY : ∀ w, Calls Tryd.prog 18 #[.agg #[.int .i64 bn, .int .i64 bd], .agg #[.int .i64 cn, .int .i64 cd]] w (Ret3 w yn yd ye))
    (hse : (se == 0) = true) (hte : (te == 0) = false)
    (hcn : 0 < cn) (hxe : (xe != 0) = false) (hye : (ye != 0) = true) :
    Calls Tryd.prog 4 #[.agg #[.int .i64 an, .int .i64 ad], .agg #[.int .i64 bn, .int .i64 bd], .agg #[.int .i64 cn, .int .i64 cd]] w fun e w' => e = .returned (.bool true) ∧ Below w.heap.size w w' := by
  have hq := fun w => run_eql_ratio w an ad bn bd
  rw [hAB] at hq
  clear hAB
  have HVa := Lib.hid hVa
  clear hVa
  have HVb := Lib.hid hVb
  clear hVb
  have HVc := Lib.hid hVc
  clear hVc
  have HK := Lib.hid hK
  clear hK
  have HL := Lib.hid hL
  clear hL
  have HS := Lib.hid hS
  clear hS
  have HT := Lib.hid hT
  clear hT
  have HX := Lib.hid hX
  clear hX
  have HY := Lib.hid hY
  clear hY
  have HT0 := Lib.hid ht
  have T0 : Hid (Trk w w) := Lib.hid ⟨ht, Below.refl _ _⟩
  clear ht
  have T1 := Lib.hid (T0.out.alloc (.cells #[.int .i64 an, .int .i64 ad] 25))
  have A := Lib.hid (C2.new (w) (.int .i64 an) (.int .i64 ad) 25)
  have T2 := Lib.hid (T1.out.alloc (.cells #[.int .i64 bn, .int .i64 bd] 25))
  have A' := Lib.hid (A.out.alloc (.cells #[.int .i64 bn, .int .i64 bd] 25))
  clear A
  have A := Lib.hid A'.out
  clear A'
  have B := Lib.hid (C2.new ((w).alloc (.cells #[.int .i64 an, .int .i64 ad] 25)) (.int .i64 bn) (.int .i64 bd) 25)
  have T3 := Lib.hid (T2.out.alloc (.cells #[.int .i64 cn, .int .i64 cd] 25))
  have A' := Lib.hid (A.out.alloc (.cells #[.int .i64 cn, .int .i64 cd] 25))
  clear A
  have A := Lib.hid A'.out
  clear A'
  have B' := Lib.hid (B.out.alloc (.cells #[.int .i64 cn, .int .i64 cd] 25))
  clear B
  have B := Lib.hid B'.out
  clear B'
  have C := Lib.hid (C2.new (((w).alloc (.cells #[.int .i64 an, .int .i64 ad] 25)).alloc (.cells #[.int .i64 bn, .int .i64 bd] 25)) (.int .i64 cn) (.int .i64 cd) 25)
  go_enter Tryd.func4, Tryd.ntmps4
  go_wp2_with fail
  have hz : ((w).alloc (.cells #[.int .i64 an, .int .i64 ad] 25)).heap.size = w.heap.size + 1 := by simp
  rw [hz] at B
  clear hz
  have hz : (((w).alloc (.cells #[.int .i64 an, .int .i64 ad] 25)).alloc (.cells #[.int .i64 bn, .int .i64 bd] 25)).heap.size = w.heap.size + 2 := by simp
  rw [hz] at C
  clear hz
  generalize (((w).alloc (.cells #[.int .i64 an, .int .i64 ad] 25)).alloc (.cells #[.int .i64 bn, .int .i64 bd] 25)).alloc (.cells #[.int .i64 cn, .int .i64 cd] 25) = w3 at *
  refine (head01 _ T3.out.tabs).mono ?_
  rintro e w4 ⟨rfl, hb⟩
  have T4 := Lib.hid (T3.out.step hb)
  have A' := Lib.hid (A.out.step hb)
  clear A
  have A := Lib.hid A'.out
  clear A'
  have B' := Lib.hid (B.out.step hb)
  clear B
  have B := Lib.hid B'.out
  clear B'
  have C' := Lib.hid (C.out.step hb)
  clear C
  have C := Lib.hid C'.out
  clear C'
  clear hb
  obtain ⟨cA0, cA1⟩ := A.out.cells
  obtain ⟨cB0, cB1⟩ := B.out.cells
  obtain ⟨cC0, cC1⟩ := C.out.cells
  go_wp2_with fail
  refine (HVa.out _).mono ?_
  rintro e w5 ⟨rfl, hb⟩
  have T5 := Lib.hid (T4.out.step hb)
  have A' := Lib.hid (A.out.step hb)
  clear A
  have A := Lib.hid A'.out
  clear A'
  have B' := Lib.hid (B.out.step hb)
  clear B
  have B := Lib.hid B'.out
  clear B'
  have C' := Lib.hid (C.out.step hb)
  clear C
  have C := Lib.hid C'.out
  clear C'
  clear hb
  clear cA0 cA1 cB0 cB1 cC0 cC1
  obtain ⟨cA0, cA1⟩ := A.out.cells
  obtain ⟨cB0, cB1⟩ := B.out.cells
  obtain ⟨cC0, cC1⟩ := C.out.cells
  go_wp2_with fail
  refine (HVb.out _).mono ?_
  rintro e w6 ⟨rfl, hb⟩
  have T6 := Lib.hid (T5.out.step hb)
  have A' := Lib.hid (A.out.step hb)
  clear A
  have A := Lib.hid A'.out
  clear A'
  have B' := Lib.hid (B.out.step hb)
  clear B
  have B := Lib.hid B'.out
  clear B'
  have C' := Lib.hid (C.out.step hb)
  clear C
  have C := Lib.hid C'.out
  clear C'
  clear hb
  clear cA0 cA1 cB0 cB1 cC0 cC1
  obtain ⟨cA0, cA1⟩ := A.out.cells
  obtain ⟨cB0, cB1⟩ := B.out.cells
  obtain ⟨cC0, cC1⟩ := C.out.cells
  go_wp2_with fail
  refine (HVc.out _).mono ?_
  rintro e w7 ⟨rfl, hb⟩
  have T7 := Lib.hid (T6.out.step hb)
  have A' := Lib.hid (A.out.step hb)
  clear A
  have A := Lib.hid A'.out
  clear A'
  have B' := Lib.hid (B.out.step hb)
  clear B
  have B := Lib.hid B'.out
  clear B'
  have C' := Lib.hid (C.out.step hb)
  clear C
  have C := Lib.hid C'.out
  clear C'
  clear hb
  clear cA0 cA1 cB0 cB1 cC0 cC1
  obtain ⟨cA0, cA1⟩ := A.out.cells
  obtain ⟨cB0, cB1⟩ := B.out.cells
  obtain ⟨cC0, cC1⟩ := C.out.cells
  go_wp2_with fail
  refine (HK.out _).mono ?_
  rintro e w8 ⟨rfl, hb⟩
  have T8 := Lib.hid (T7.out.step hb)
  have A' := Lib.hid (A.out.step hb)
  clear A
  have A := Lib.hid A'.out
  clear A'
  have B' := Lib.hid (B.out.step hb)
  clear B
  have B := Lib.hid B'.out
  clear B'
  have C' := Lib.hid (C.out.step hb)
  clear C
  have C := Lib.hid C'.out
  clear C'
  clear hb
  clear cA0 cA1 cB0 cB1 cC0 cC1
  obtain ⟨cA0, cA1⟩ := A.out.cells
  obtain ⟨cB0, cB1⟩ := B.out.cells
  obtain ⟨cC0, cC1⟩ := C.out.cells
  go_wp2_with fail
  refine (HL.out _).mono ?_
  rintro e w9 ⟨rfl, hb⟩
  have T9 := Lib.hid (T8.out.step hb)
  have A' := Lib.hid (A.out.step hb)
  clear A
  have A := Lib.hid A'.out
  clear A'
  have B' := Lib.hid (B.out.step hb)
  clear B
  have B := Lib.hid B'.out
  clear B'
  have C' := Lib.hid (C.out.step hb)
  clear C
  have C := Lib.hid C'.out
  clear C'
  clear hb
  clear cA0 cA1 cB0 cB1 cC0 cC1
  obtain ⟨cA0, cA1⟩ := A.out.cells
  obtain ⟨cB0, cB1⟩ := B.out.cells
  obtain ⟨cC0, cC1⟩ := C.out.cells
  go_wp2_with fail
  refine (HS.out _).mono ?_
  rintro e w10 ⟨rfl, hb⟩
  have T10 := Lib.hid (T9.out.step hb)
  have A' := Lib.hid (A.out.step hb)
  clear A
  have A := Lib.hid A'.out
  clear A'
  have B' := Lib.hid (B.out.step hb)
  clear B
  have B := Lib.hid B'.out
  clear B'
  have C' := Lib.hid (C.out.step hb)
  clear C
  have C := Lib.hid C'.out
  clear C'
  clear hb
  clear cA0 cA1 cB0 cB1 cC0 cC1
  have lS := Lib.hid (C.out.lt)
  have T11 := Lib.hid (T10.out.alloc (.cells #[.int .i64 sn, .int .i64 sd] 25))
  have A' := Lib.hid (A.out.alloc (.cells #[.int .i64 sn, .int .i64 sd] 25))
  clear A
  have A := Lib.hid A'.out
  clear A'
  have B' := Lib.hid (B.out.alloc (.cells #[.int .i64 sn, .int .i64 sd] 25))
  clear B
  have B := Lib.hid B'.out
  clear B'
  have C' := Lib.hid (C.out.alloc (.cells #[.int .i64 sn, .int .i64 sd] 25))
  clear C
  have C := Lib.hid C'.out
  clear C'
  have S := Lib.hid (D2.new w10 (.int .i64 sn) (.int .i64 sd) 25)
  obtain ⟨cA0, cA1⟩ := A.out.cells
  obtain ⟨cB0, cB1⟩ := B.out.cells
  obtain ⟨cC0, cC1⟩ := C.out.cells
  obtain ⟨cS0, cS1⟩ := S.out.cells
  go_wp2_with fail
  generalize w10.alloc (.cells #[.int .i64 sn, .int .i64 sd] 25) = w11 at *
  generalize w10.heap.size = nS at *
  refine (HT.out _).mono ?_
  rintro e w12 ⟨rfl, hb⟩
  have T12 := Lib.hid (T11.out.step hb)
  have A' := Lib.hid (A.out.step hb)
  clear A
  have A := Lib.hid A'.out
  clear A'
  have B' := Lib.hid (B.out.step hb)
  clear B
  have B := Lib.hid B'.out
  clear B'
  have C' := Lib.hid (C.out.step hb)
  clear C
  have C := Lib.hid C'.out
  clear C'
  have S' := Lib.hid (S.out.step hb)
  clear S
  have S := Lib.hid S'.out
  clear S'
  clear hb
  clear cA0 cA1 cB0 cB1 cC0 cC1 cS0 cS1
  have lT := Lib.hid (S.out.c2.lt)
  have T13 := Lib.hid (T12.out.alloc (.cells #[.int .i64 tn, .int .i64 td] 25))
  have A' := Lib.hid (A.out.alloc (.cells #[.int .i64 tn, .int .i64 td] 25))
  clear A
  have A := Lib.hid A'.out
  clear A'
  have B' := Lib.hid (B.out.alloc (.cells #[.int .i64 tn, .int .i64 td] 25))
  clear B
  have B := Lib.hid B'.out
  clear B'
  have C' := Lib.hid (C.out.alloc (.cells #[.int .i64 tn, .int .i64 td] 25))
  clear C
  have C := Lib.hid C'.out
  clear C'
  have S' := Lib.hid (S.out.alloc (.cells #[.int .i64 tn, .int .i64 td] 25))
  clear S
  have S := Lib.hid S'.out
  clear S'
  have T := Lib.hid (D2.new w12 (.int .i64 tn) (.int .i64 td) 25)
  obtain ⟨cA0, cA1⟩ := A.out.cells
  obtain ⟨cB0, cB1⟩ := B.out.cells
  obtain ⟨cC0, cC1⟩ := C.out.cells
  obtain ⟨cS0, cS1⟩ := S.out.cells
  obtain ⟨cT0, cT1⟩ := T.out.cells
  go_wp2_with fail
  generalize w12.alloc (.cells #[.int .i64 tn, .int .i64 td] 25) = w13 at *
  generalize w12.heap.size = nT at *
  refine (HX.out _).mono ?_
  rintro e w14 ⟨rfl, hb⟩
  have T14 := Lib.hid (T13.out.step hb)
  have A' := Lib.hid (A.out.step hb)
  clear A
  have A := Lib.hid A'.out
  clear A'
  have B' := Lib.hid (B.out.step hb)
  clear B
  have B := Lib.hid B'.out
  clear B'
  have C' := Lib.hid (C.out.step hb)
  clear C
  have C := Lib.hid C'.out
  clear C'
  have S' := Lib.hid (S.out.step hb)
  clear S
  have S := Lib.hid S'.out
  clear S'
  have T' := Lib.hid (T.out.step hb)
  clear T
  have T := Lib.hid T'.out
  clear T'
  clear hb
  clear cA0 cA1 cB0 cB1 cC0 cC1 cS0 cS1 cT0 cT1
  obtain ⟨cA0, cA1⟩ := A.out.cells
  obtain ⟨cB0, cB1⟩ := B.out.cells
  obtain ⟨cC0, cC1⟩ := C.out.cells
  obtain ⟨cS0, cS1⟩ := S.out.cells
  obtain ⟨cT0, cT1⟩ := T.out.cells
  obtain ⟨k0, k1⟩ := S.out.frozen
  have T15 := Lib.hid (Trk.set (n := nS) T14.out HT0.out (by have := lS.out; omega) (.int .i64 xn) (.int .i64 xd))
  have A' := Lib.hid (A.out.set_other (m := nS) (by have := lS.out; omega) (.int .i64 xn) (.int .i64 xd))
  clear A
  have A := Lib.hid A'.out
  clear A'
  have B' := Lib.hid (B.out.set_other (m := nS) (by have := lS.out; omega) (.int .i64 xn) (.int .i64 xd))
  clear B
  have B := Lib.hid B'.out
  clear B'
  have C' := Lib.hid (C.out.set_other (m := nS) (by have := lS.out; omega) (.int .i64 xn) (.int .i64 xd))
  clear C
  have C := Lib.hid C'.out
  clear C'
  have S' := Lib.hid (S.out.set (.int .i64 xn) (.int .i64 xd))
  clear S
  have S := Lib.hid S'.out
  clear S'
  have T' := Lib.hid (T.out.set_other (m := nS) (by have := lT.out; omega) (.int .i64 xn) (.int .i64 xd))
  clear T
  have T := Lib.hid T'.out
  clear T'
  obtain ⟨pA0, pA1⟩ := A.out.cells
  obtain ⟨pB0, pB1⟩ := B.out.cells
  obtain ⟨pC0, pC1⟩ := C.out.cells
  obtain ⟨pS0, pS1⟩ := S.out.cells
  obtain ⟨pT0, pT1⟩ := T.out.cells
  go_wp2_with fail
  clear cA0 cA1 cB0 cB1 cC0 cC1 cS0 cS1 cT0 cT1 k0 k1 pA0 pA1 pB0 pB1 pC0 pC1 pS0 pS1 pT0 pT1
  generalize (w14.setCell ⟨nS, 0, none⟩ (.int .i64 xn)).setCell ⟨nS, 1, none⟩ (.int .i64 xd) = w15 at *
  refine (HY.out _).mono ?_
  rintro e w16 ⟨rfl, hb⟩
  have T16 := Lib.hid (T15.out.step hb)
  have A' := Lib.hid (A.out.step hb)
  clear A
  have A := Lib.hid A'.out
  clear A'
  have B' := Lib.hid (B.out.step hb)
  clear B
  have B := Lib.hid B'.out
  clear B'
  have C' := Lib.hid (C.out.step hb)
  clear C
  have C := Lib.hid C'.out
  clear C'
  have S' := Lib.hid (S.out.step hb)
  clear S
  have S := Lib.hid S'.out
  clear S'
  have T' := Lib.hid (T.out.step hb)
  clear T
  have T := Lib.hid T'.out
  clear T'
  clear hb
  obtain ⟨cA0, cA1⟩ := A.out.cells
  obtain ⟨cB0, cB1⟩ := B.out.cells
  obtain ⟨cC0, cC1⟩ := C.out.cells
  obtain ⟨cS0, cS1⟩ := S.out.cells
  obtain ⟨cT0, cT1⟩ := T.out.cells
  obtain ⟨k0, k1⟩ := T.out.frozen
  have T17 := Lib.hid (Trk.set (n := nT) T16.out HT0.out (by have := lS.out; have := lT.out; omega) (.int .i64 yn) (.int .i64 yd))
  have A' := Lib.hid (A.out.set_other (m := nT) (by have := lS.out; have := lT.out; omega) (.int .i64 yn) (.int .i64 yd))
  clear A
  have A := Lib.hid A'.out
  clear A'
  have B' := Lib.hid (B.out.set_other (m := nT) (by have := lS.out; have := lT.out; omega) (.int .i64 yn) (.int .i64 yd))
  clear B
  have B := Lib.hid B'.out
  clear B'
  have C' := Lib.hid (C.out.set_other (m := nT) (by have := lS.out; have := lT.out; omega) (.int .i64 yn) (.int .i64 yd))
  clear C
  have C := Lib.hid C'.out
  clear C'
  have S' := Lib.hid (S.out.set_other (m := nT) (by have := lT.out; omega) (.int .i64 yn) (.int .i64 yd))
  clear S
  have S := Lib.hid S'.out
  clear S'
  have T' := Lib.hid (T.out.set (.int .i64 yn) (.int .i64 yd))
  clear T
  have T := Lib.hid T'.out
  clear T'
  obtain ⟨pA0, pA1⟩ := A.out.cells
  obtain ⟨pB0, pB1⟩ := B.out.cells
  obtain ⟨pC0, pC1⟩ := C.out.cells
  obtain ⟨pS0, pS1⟩ := S.out.cells
  obtain ⟨pT0, pT1⟩ := T.out.cells
  go_wp2_with fail
  clear cA0 cA1 cB0 cB1 cC0 cC1 cS0 cS1 cT0 cT1 k0 k1 pA0 pA1 pB0 pB1 pC0 pC1 pS0 pS1 pT0 pT1
  generalize (w16.setCell ⟨nT, 0, none⟩ (.int .i64 yn)).setCell ⟨nT, 1, none⟩ (.int .i64 yd) = w17 at *
  go_ret
  exact ⟨by first | rfl | simp, T17.out.bel⟩
set_option maxHeartbeats 2000000 in
set_option maxRecDepth 100000 in
theorem order_124 (an ad bn bd cn cd k sn sd se tn td te xn xd xe yn yd ye : Int) (w : World) (ht : Tabs w)
    (hVa : ∀ w, Calls Tryd.prog 15 #[.agg #[.int .i64 an, .int .i64 ad]] w fun e w' => e = .returned (.bool true) ∧ Below w.heap.size w w')
    (hVb : ∀ w, Calls Tryd.prog 15 #[.agg #[.int .i64 bn, .int .i64 bd]] w fun e w' => e = .returned (.bool true) ∧ Below w.heap.size w w')
    (hVc : ∀ w, Calls Tryd.prog 15 #[.agg #[.int .i64 cn, .int .i64 cd]] w fun e w' => e = .returned (.bool true) ∧ Below w.heap.size w w')
    (hK : ∀ w, Calls Tryd.prog 16 #[.agg #[.int .i64 an, .int .i64 ad], .agg #[.int .i64 bn, .int .i64 bd]] w fun e w' => e = .returned (.int .i64 k) ∧ Below w.heap.size w w')
    (hL : ∀ w, Calls Tryd.prog 16 #[.agg #[.int .i64 bn, .int .i64 bd], .agg #[.int .i64 an, .int .i64 ad]] w fun e w' => e = .returned (.int .i64 (-k)) ∧ Below w.heap.size w w')
    (AB : Bool) (hAB : (an == bn && ad == bd) = AB) (hk1 : -1 ≤ k) (hk2 : k ≤ 1) (hkeq : (k == 0) = AB)
    (hkp : 0 < k)
    (hS : ∀ w, Calls Tryd.prog 17 #[.agg #[.int .i64 an, .int .i64 ad], .agg #[.int .i64 cn, .int .i64 cd]] w (Ret3 w sn sd se))
    (hT : ∀ w, Calls Tryd.prog 17 #[.agg #[.int .i64 bn, .int .i64 bd], .agg #[.int .i64 cn, .int .i64 cd]] w (Ret3 w tn td te))
    (hX : ∀ w, Calls Tryd.prog 18 #[.agg #[.int .i64 an, .int .i64 ad], .agg #[.int .i64 cn, .int .i64 cd]] w (Ret3 w xn xd xe))
    (hY : ∀ w, Calls Tryd.prog 18 #[.agg #[.int .i64 bn, .int .i64 bd], .agg #[.int .i64 cn, .int .i64 cd]] w (Ret3 w yn yd ye))
    (hse : (se == 0) = true) (hte : (te == 0) = false)
    (hcn : 0 < cn) (hxe : (xe != 0) = false) (hye : (ye != 0) = false)
    (hZ : ∀ w, Calls Tryd.prog 16 #[.agg #[.int .i64 xn, .int .i64 xd], .agg #[.int .i64 yn, .int .i64 yd]] w fun e w' => e = .returned (.int .i64 k) ∧ Below w.heap.size w w') :
    Calls Tryd.prog 4 #[.agg #[.int .i64 an, .int .i64 ad], .agg #[.int .i64 bn, .int .i64 bd], .agg #[.int .i64 cn, .int .i64 cd]] w fun e w' => e = .returned (.bool true) ∧ Below w.heap.size w w' := by
  have hq := fun w => run_eql_ratio w an ad bn bd
  rw [hAB] at hq
  clear hAB
  have HVa := Lib.hid hVa
  clear hVa
  have HVb := Lib.hid hVb
  clear hVb
  have HVc := Lib.hid hVc
  clear hVc
  have HK := Lib.hid hK
  clear hK
  have HL := Lib.hid hL
  clear hL
  have HS := Lib.hid hS
  clear hS
  have HT := Lib.hid hT
  clear hT
  have HX := Lib.hid hX
  clear hX
  have HY := Lib.hid hY
  clear hY
  have HZ := Lib.hid hZ
  clear hZ
  have HT0 := Lib.hid ht
  have T0 : Hid (Trk w w) := Lib.hid ⟨ht, Below.refl _ _⟩
  clear ht
  have T1 := Lib.hid (T0.out.alloc (.cells #[.int .i64 an, .int .i64 ad] 25))
  have A := Lib.hid (C2.new (w) (.int .i64 an) (.int .i64 ad) 25)
  have T2 := Lib.hid (T1.out.alloc (.cells #[.int .i64 bn, .int .i64 bd] 25))
  have A' := Lib.hid (A.out.alloc (.cells #[.int .i64 bn, .int .i64 bd] 25))
  clear A
  have A := Lib.hid A'.out
  clear A'
  have B := Lib.hid (C2.new ((w).alloc (.cells #[.int .i64 an, .int .i64 ad] 25)) (.int .i64 bn) (.int .i64 bd) 25)
  have T3 := Lib.hid (T2.out.alloc (.cells #[.int .i64 cn, .int .i64 cd] 25))
  have A' := Lib.hid (A.out.alloc (.cells #[.int .i64 cn, .int .i64 cd] 25))
  clear A
  have A := Lib.hid A'.out
  clear A'
  have B' := Lib.hid (B.out.alloc (.cells #[.int .i64 cn, .int .i64 cd] 25))
  clear B
  have B := Lib.hid B'.out
  clear B'
  have C := Lib.hid (C2.new (((w).alloc (.cells #[.int .i64 an, .int .i64 ad] 25)).alloc (.cells #[.int .i64 bn, .int .i64 bd] 25)) (.int .i64 cn) (.int .i64 cd) 25)
  go_enter Tryd.func4, Tryd.ntmps4
  go_wp2_with fail
  have hz : ((w).alloc (.cells #[.int .i64 an, .int .i64 ad] 25)).heap.size = w.heap.size + 1 := by simp
  rw [hz] at B
  clear hz
  have hz : (((w).alloc (.cells #[.int .i64 an, .int .i64 ad] 25)).alloc (.cells #[.int .i64 bn, .int .i64 bd] 25)).heap.size = w.heap.size + 2 := by simp
  rw [hz] at C
  clear hz
  generalize (((w).alloc (.cells #[.int .i64 an, .int .i64 ad] 25)).alloc (.cells #[.int .i64 bn, .int .i64 bd] 25)).alloc (.cells #[.int .i64 cn, .int .i64 cd] 25) = w3 at *
  refine (head01 _ T3.out.tabs).mono ?_
  rintro e w4 ⟨rfl, hb⟩
  have T4 := Lib.hid (T3.out.step hb)
  have A' := Lib.hid (A.out.step hb)
  clear A
  have A := Lib.hid A'.out
  clear A'
  have B' := Lib.hid (B.out.step hb)
  clear B
  have B := Lib.hid B'.out
  clear B'
  have C' := Lib.hid (C.out.step hb)
  clear C
  have C := Lib.hid C'.out
  clear C'
  clear hb
  obtain ⟨cA0, cA1⟩ := A.out.cells
  obtain ⟨cB0, cB1⟩ := B.out.cells
  obtain ⟨cC0, cC1⟩ := C.out.cells
  go_wp2_with fail
  refine (HVa.out _).mono ?_
  rintro e w5 ⟨rfl, hb⟩
  have T5 := Lib.hid (T4.out.step hb)
  have A' := Lib.hid (A.out.step hb)
  clear A
  have A := Lib.hid A'.out
  clear A'
  have B' := Lib.hid (B.out.step hb)
  clear B
  have B := Lib.hid B'.out
  clear B'
  have C' := Lib.hid (C.out.step hb)
  clear C
  have C := Lib.hid C'.out
  clear C'
  clear hb
  clear cA0 cA1 cB0 cB1 cC0 cC1
  obtain ⟨cA0, cA1⟩ := A.out.cells
  obtain ⟨cB0, cB1⟩ := B.out.cells
  obtain ⟨cC0, cC1⟩ := C.out.cells
  go_wp2_with fail
  refine (HVb.out _).mono ?_
  rintro e w6 ⟨rfl, hb⟩
  have T6 := Lib.hid (T5.out.step hb)
  have A' := Lib.hid (A.out.step hb)
  clear A
  have A := Lib.hid A'.out
  clear A'
  have B' := Lib.hid (B.out.step hb)
  clear B
  have B := Lib.hid B'.out
  clear B'
  have C' := Lib.hid (C.out.step hb)
  clear C
  have C := Lib.hid C'.out
  clear C'
  clear hb
  clear cA0 cA1 cB0 cB1 cC0 cC1
  obtain ⟨cA0, cA1⟩ := A.out.cells
  obtain ⟨cB0, cB1⟩ := B.out.cells
  obtain ⟨cC0, cC1⟩ := C.out.cells
  go_wp2_with fail
  refine (HVc.out _).mono ?_
  rintro e w7 ⟨rfl, hb⟩
  have T7 := Lib.hid (T6.out.step hb)
  have A' := Lib.hid (A.out.step hb)
  clear A
  have A := Lib.hid A'.out
  clear A'
  have B' := Lib.hid (B.out.step hb)
  clear B
  have B := Lib.hid B'.out
  clear B'
  have C' := Lib.hid (C.out.step hb)
  clear C
  have C := Lib.hid C'.out
  clear C'
  clear hb
  clear cA0 cA1 cB0 cB1 cC0 cC1
  obtain ⟨cA0, cA1⟩ := A.out.cells
  obtain ⟨cB0, cB1⟩ := B.out.cells
  obtain ⟨cC0, cC1⟩ := C.out.cells
  go_wp2_with fail
  refine (HK.out _).mono ?_
  rintro e w8 ⟨rfl, hb⟩
  have T8 := Lib.hid (T7.out.step hb)
  have A' := Lib.hid (A.out.step hb)
  clear A
  have A := Lib.hid A'.out
  clear A'
  have B' := Lib.hid (B.out.step hb)
  clear B
  have B := Lib.hid B'.out
  clear B'
  have C' := Lib.hid (C.out.step hb)
  clear C
  have C := Lib.hid C'.out
  clear C'
  clear hb
  clear cA0 cA1 cB0 cB1 cC0 cC1
  obtain ⟨cA0, cA1⟩ := A.out.cells
  obtain ⟨cB0, cB1⟩ := B.out.cells
  obtain ⟨cC0, cC1⟩ := C.out.cells
  go_wp2_with fail
  refine (HL.out _).mono ?_
  rintro e w9 ⟨rfl, hb⟩
  have T9 := Lib.hid (T8.out.step hb)
  have A' := Lib.hid (A.out.step hb)
  clear A
  have A := Lib.hid A'.out
  clear A'
  have B' := Lib.hid (B.out.step hb)
  clear B
  have B := Lib.hid B'.out
  clear B'
  have C' := Lib.hid (C.out.step hb)
  clear C
  have C := Lib.hid C'.out
  clear C'
  clear hb
  clear cA0 cA1 cB0 cB1 cC0 cC1
  obtain ⟨cA0, cA1⟩ := A.out.cells
  obtain ⟨cB0, cB1⟩ := B.out.cells
  obtain ⟨cC0, cC1⟩ := C.out.cells
  go_wp2_with fail
  refine (HS.out _).mono ?_
  rintro e w10 ⟨rfl, hb⟩
  have T10 := Lib.hid (T9.out.step hb)
  have A' := Lib.hid (A.out.step hb)
  clear A
  have A := Lib.hid A'.out
  clear A'
  have B' := Lib.hid (B.out.step hb)
  clear B
  have B := Lib.hid B'.out
  clear B'
  have C' := Lib.hid (C.out.step hb)
  clear C
  have C := Lib.hid C'.out
  clear C'
  clear hb
  clear cA0 cA1 cB0 cB1 cC0 cC1
  have lS := Lib.hid (C.out.lt)
  have T11 := Lib.hid (T10.out.alloc (.cells #[.int .i64 sn, .int .i64 sd] 25))
  have A' := Lib.hid (A.out.alloc (.cells #[.int .i64 sn, .int .i64 sd] 25))
  clear A
  have A := Lib.hid A'.out
  clear A'
  have B' := Lib.hid (B.out.alloc (.cells #[.int .i64 sn, .int .i64 sd] 25))
  clear B
  have B := Lib.hid B'.out
  clear B'
  have C' := Lib.hid (C.out.alloc (.cells #[.int .i64 sn, .int .i64 sd] 25))
  clear C
  have C := Lib.hid C'.out
  clear C'
  have S := Lib.hid (D2.new w10 (.int .i64 sn) (.int .i64 sd) 25)
  obtain ⟨cA0, cA1⟩ := A.out.cells
  obtain ⟨cB0, cB1⟩ := B.out.cells
  obtain ⟨cC0, cC1⟩ := C.out.cells
  obtain ⟨cS0, cS1⟩ := S.out.cells
  go_wp2_with fail
  generalize w10.alloc (.cells #[.int .i64 sn, .int .i64 sd] 25) = w11 at *
  generalize w10.heap.size = nS at *
  refine (HT.out _).mono ?_
  rintro e w12 ⟨rfl, hb⟩
  have T12 := Lib.hid (T11.out.step hb)
  have A' := Lib.hid (A.out.step hb)
  clear A
  have A := Lib.hid A'.out
  clear A'
  have B' := Lib.hid (B.out.step hb)
  clear B
  have B := Lib.hid B'.out
  clear B'
  have C' := Lib.hid (C.out.step hb)
  clear C
  have C := Lib.hid C'.out
  clear C'
  have S' := Lib.hid (S.out.step hb)
  clear S
  have S := Lib.hid S'.out
  clear S'
  clear hb
  clear cA0 cA1 cB0 cB1 cC0 cC1 cS0 cS1
  have lT := Lib.hid (S.out.c2.lt)
  have T13 := Lib.hid (T12.out.alloc (.cells #[.int .i64 tn, .int .i64 td] 25))
  have A' := Lib.hid (A.out.alloc (.cells #[.int .i64 tn, .int .i64 td] 25))
  clear A
  have A := Lib.hid A'.out
  clear A'
  have B' := Lib.hid (B.out.alloc (.cells #[.int .i64 tn, .int .i64 td] 25))
  clear B
  have B := Lib.hid B'.out
  clear B'
  have C' := Lib.hid (C.out.alloc (.cells #[.int .i64 tn, .int .i64 td] 25))
  clear C
  have C := Lib.hid C'.out
  clear C'
  have S' := Lib.hid (S.out.alloc (.cells #[.int .i64 tn, .int .i64 td] 25))
  clear S
  have S := Lib.hid S'.out
  clear S'
  have T := Lib.hid (D2.new w12 (.int .i64 tn) (.int .i64 td) 25)
  obtain ⟨cA0, cA1⟩ := A.out.cells
  obtain ⟨cB0, cB1⟩ := B.out.cells
  obtain ⟨cC0, cC1⟩ := C.out.cells
  obtain ⟨cS0, cS1⟩ := S.out.cells
  obtain ⟨cT0, cT1⟩ := T.out.cells
  go_wp2_with fail
  generalize w12.alloc (.cells #[.int .i64 tn, .int .i64 td] 25) = w13 at *
  generalize w12.heap.size = nT at *
  refine (HX.out _).mono ?_
  rintro e w14 ⟨rfl, hb⟩
  have T14 := Lib.hid (T13.out.step hb)
  have A' := Lib.hid (A.out.step hb)
  clear A
  have A := Lib.hid A'.out
  clear A'
  have B' := Lib.hid (B.out.step hb)
  clear B
  have B := Lib.hid B'.out
  clear B'
  have C' := Lib.hid (C.out.step hb)
  clear C
  have C := Lib.hid C'.out
  clear C'
  have S' := Lib.hid (S.out.step hb)
  clear S
  have S := Lib.hid S'.out
  clear S'
  have T' := Lib.hid (T.out.step hb)
  clear T
  have T := Lib.hid T'.out
  clear T'
  clear hb
  clear cA0 cA1 cB0 cB1 cC0 cC1 cS0 cS1 cT0 cT1
  obtain ⟨cA0, cA1⟩ := A.out.cells
  obtain ⟨cB0, cB1⟩ := B.out.cells
  obtain ⟨cC0, cC1⟩ := C.out.cells
  obtain ⟨cS0, cS1⟩ := S.out.cells
  obtain ⟨cT0, cT1⟩ := T.out.cells
  obtain ⟨k0, k1⟩ := S.out.frozen
  have T15 := Lib.hid (Trk.set (n := nS) T14.out HT0.out (by have := lS.out; omega) (.int .i64 xn) (.int .i64 xd))
  have A' := Lib.hid (A.out.set_other (m := nS) (by have := lS.out; omega) (.int .i64 xn) (.int .i64 xd))
  clear A
  have A := Lib.hid A'.out
  clear A'
  have B' := Lib.hid (B.out.set_other (m := nS) (by have := lS.out; omega) (.int .i64 xn) (.int .i64 xd))
  clear B
  have B := Lib.hid B'.out
  clear B'
  have C' := Lib.hid (C.out.set_other (m := nS) (by have := lS.out; omega) (.int .i64 xn) (.int .i64 xd))
  clear C
  have C := Lib.hid C'.out
  clear C'
  have S' := Lib.hid (S.out.set (.int .i64 xn) (.int .i64 xd))
  clear S
  have S := Lib.hid S'.out
  clear S'
  have T' := Lib.hid (T.out.set_other (m := nS) (by have := lT.out; omega) (.int .i64 xn) (.int .i64 xd))
  clear T
  have T := Lib.hid T'.out
  clear T'
  obtain ⟨pA0, pA1⟩ := A.out.cells
  obtain ⟨pB0, pB1⟩ := B.out.cells
  obtain ⟨pC0, pC1⟩ := C.out.cells
  obtain ⟨pS0, pS1⟩ := S.out.cells
  obtain ⟨pT0, pT1⟩ := T.out.cells
  go_wp2_with fail
  clear cA0 cA1 cB0 cB1 cC0 cC1 cS0 cS1 cT0 cT1 k0 k1 pA0 pA1 pB0 pB1 pC0 pC1 pS0 pS1 pT0 pT1
  generalize (w14.setCell ⟨nS, 0, none⟩ (.int .i64 xn)).setCell ⟨nS, 1, none⟩ (.int .i64 xd) = w15 at *
  refine (HY.out _).mono ?_
  rintro e w16 ⟨rfl, hb⟩
  have T16 := Lib.hid (T15.out.step hb)
  have A' := Lib.hid (A.out.step hb)
  clear A
  have A := Lib.hid A'.out
  clear A'
  have B' := Lib.hid (B.out.step hb)
  clear B
  have B := Lib.hid B'.out
  clear B'
  have C' := Lib.hid (C.out.step hb)
  clear C
  have C := Lib.hid C'.out
  clear C'
  have S' := Lib.hid (S.out.step hb)
  clear S
  have S := Lib.hid S'.out
  clear S'
  have T' := Lib.hid (T.out.step hb)
  clear T
  have T := Lib.hid T'.out
  clear T'
  clear hb
  obtain ⟨cA0, cA1⟩ := A.out.cells
  obtain ⟨cB0, cB1⟩ := B.out.cells
  obtain ⟨cC0, cC1⟩ := C.out.cells
  obtain ⟨cS0, cS1⟩ := S.out.cells
  obtain ⟨cT0, cT1⟩ := T.out.cells
  obtain ⟨k0, k1⟩ := T.out.frozen
  have T17 := Lib.hid (Trk.set (n := nT) T16.out HT0.out (by have := lS.out; have := lT.out; omega) (.int .i64 yn) (.int .i64 yd))
  have A' := Lib.hid (A.out.set_other (m := nT) (by have := lS.out; have := lT.out; omega) (.int .i64 yn) (.int .i64 yd))
  clear A
  have A := Lib.hid A'.out
  clear A'
  have B' := Lib.hid (B.out.set_other (m := nT) (by have := lS.out; have := lT.out; omega) (.int .i64 yn) (.int .i64 yd))
  clear B
  have B := Lib.hid B'.out
  clear B'
  have C' := Lib.hid (C.out.set_other (m := nT) (by have := lS.out; have := lT.out; omega) (.int .i64 yn) (.int .i64 yd))
  clear C
  have C := Lib.hid C'.out
  clear C'
  have S' := Lib.hid (S.out.set_other (m := nT) (by have := lT.out; omega) (.int .i64 yn) (.int .i64 yd))
  clear S
  have S := Lib.hid S'.out
  clear S'
  have T' := Lib.hid (T.out.set (.int .i64 yn) (.int .i64 yd))
  clear T
  have T := Lib.hid T'.out
  clear T'
  obtain ⟨pA0, pA1⟩ := A.out.cells
  obtain ⟨pB0, pB1⟩ := B.out.cells
  obtain ⟨pC0, pC1⟩ := C.out.cells
  obtain ⟨pS0, pS1⟩ := S.out.cells
  obtain ⟨pT0, pT1⟩ := T.out.cells
  go_wp2_with fail
  clear cA0 cA1 cB0 cB1 cC0 cC1 cS0 cS1 cT0 cT1 k0 k1 pA0 pA1 pB0 pB1 pC0 pC1 pS0 pS1 pT0 pT1
  generalize (w16.setCell ⟨nT, 0, none⟩ (.int .i64 yn)).setCell ⟨nT, 1, none⟩ (.int .i64 yd) = w17 at *
  refine (HZ.out _).mono ?_
  rintro e w18 ⟨rfl, hb⟩
  have T18 := Lib.hid (T17.out.step hb)
  have A' := Lib.hid (A.out.step hb)
  clear A
  have A := Lib.hid A'.out
  clear A'
  have B' := Lib.hid (B.out.step hb)
  clear B
  have B := Lib.hid B'.out
  clear B'
  have C' := Lib.hid (C.out.step hb)
  clear C
  have C := Lib.hid C'.out
  clear C'
  have S' := Lib.hid (S.out.step hb)
  clear S
  have S := Lib.hid S'.out
  clear S'
  have T' := Lib.hid (T.out.step hb)
  clear T
  have T := Lib.hid T'.out
  clear T'
  clear hb
  obtain ⟨cA0, cA1⟩ := A.out.cells
  obtain ⟨cB0, cB1⟩ := B.out.cells
  obtain ⟨cC0, cC1⟩ := C.out.cells
  obtain ⟨cS0, cS1⟩ := S.out.cells
  obtain ⟨cT0, cT1⟩ := T.out.cells
  go_wp2_with fail
  go_ret
  exact ⟨by first | rfl | simp, T18.out.bel⟩
set_option maxHeartbeats 2000000 in
set_option maxRecDepth 100000 in
theorem order_131 (an ad bn bd cn cd k sn sd se tn td te xn xd xe yn yd ye : Int) (w : World) (ht : Tabs w)
    (hVa : ∀ w, Calls Tryd.prog 15 #[.agg #[.int .i64 an, .int .i64 ad]] w fun e w' => e = .returned (.bool true) ∧ Below w.heap.size w w')
    (hVb : ∀ w, Calls Tryd.prog 15 #[.agg #[.int .i64 bn, .int .i64 bd]] w fun e w' => e = .returned (.bool true) ∧ Below w.heap.size w w')
    (hVc : ∀ w, Calls Tryd.prog 15 #[.agg #[.int .i64 cn, .int .i64 cd]] w fun e w' => e = .returned (.bool true) ∧ Below w.heap.size w w')
    (hK : ∀ w, Calls Tryd.prog 16 #[.agg #[.int .i64 an, .int .i64 ad], .agg #[.int .i64 bn, .int .i64 bd]] w fun e w' => e = .returned (.int .i64 k) ∧ Below w.heap.size w w')
    (hL : ∀ w, Calls Tryd.prog 16 #[.agg #[.int .i64 bn, .int .i64 bd], .agg #[.int .i64 an, .int .i64 ad]] w fun e w' => e = .returned (.int .i64 (-k)) ∧ Below w.heap.size w w')
    (AB : Bool) (hAB : (an == bn && ad == bd) = AB) (hk1 : -1 ≤ k) (hk2 : k ≤ 1) (hkeq : (k == 0) = AB)
    (hkp : 0 < k)
    (hS : ∀ w, Calls Tryd.prog 17 #[.agg #[.int .i64 an, .int .i64 ad], .agg #[.int .i64 cn, .int .i64 cd]] w (Ret3 w sn sd se))
    (hT : ∀ w, Calls Tryd.prog 17 #[.agg #[.int .i64 bn, .int .i64 bd], .agg #[.int .i64 cn, .int .i64 cd]] w (Ret3 w tn td te))
    (hX : ∀ w, Calls Tryd.prog 18 #[.agg #[.int .i64 an, .int .i64 ad], .agg #[.int .i64 cn, .int .i64 cd]] w (Ret3 w xn xd xe))
    (hY : ∀ w, Calls Tryd.prog 18 #[.agg #[.int .i64 bn, .int .i64 bd], .agg #[.int .i64 cn, .int .i64 cd]] w (Ret3 w yn yd ye))
    (hse : (se == 0) = true) (hte : (te == 0) = true)
    (hG : ∀ w, Calls Tryd.prog 16 #[.agg #[.int .i64 sn, .int .i64 sd], .agg #[.int .i64 tn, .int .i64 td]] w fun e w' => e = .returned (.int .i64 k) ∧ Below w.heap.size w w')
    (hcn : cn ≤ 0) :
    Calls Tryd.prog 4 #[.agg #[.int .i64 an, .int .i64 ad], .agg #[.int .i64 bn, .int .i64 bd], .agg #[.int .i64 cn, .int .i64 cd]] w fun e w' => e = .returned (.bool true) ∧ Below w.heap.size w w' := by
  have hq := fun w => run_eql_ratio w an ad bn bd
  rw [hAB] at hq
  clear hAB
  have HVa := Lib.hid hVa
  clear hVa
  have HVb := Lib.hid hVb
  clear hVb
  have HVc := Lib.hid hVc
  clear hVc
  have HK := Lib.hid hK
  clear hK
  have HL := Lib.hid hL
  clear hL
  have HS := Lib.hid hS
  clear hS
  have HT := Lib.hid hT
  clear hT
  have HX := Lib.hid hX
  clear hX
  have HY := Lib.hid hY
  clear hY
  have HG := Lib.hid hG
  clear hG
  have HT0 := Lib.hid ht
  have T0 : Hid (Trk w w) := Lib.hid ⟨ht, Below.refl _ _⟩
  clear ht
  have T1 := Lib.hid (T0.out.alloc (.cells #[.int .i64 an, .int .i64 ad] 25))
  have A := Lib.hid (C2.new (w) (.int .i64 an) (.int .i64 ad) 25)
  have T2 := Lib.hid (T1.out.alloc (.cells #[.int .i64 bn, .int .i64 bd] 25))
  have A' := Lib.hid (A.out.alloc (.cells #[.int .i64 bn, .int .i64 bd] 25))
  clear A
  have A := Lib.hid A'.out
  clear A'
  have B := Lib.hid (C2.new ((w).alloc (.cells #[.int .i64 an, .int .i64 ad] 25)) (.int .i64 bn) (.int .i64 bd) 25)
  have T3 := Lib.hid (T2.out.alloc (.cells #[.int .i64 cn, .int .i64 cd] 25))
  have A' := Lib.hid (A.out.alloc (.cells #[.int .i64 cn, .int .i64 cd] 25))
  clear A
  have A := Lib.hid A'.out
  clear A'
  have B' := Lib.hid (B.out.alloc (.cells #[.int .i64 cn, .int .i64 cd] 25))
  clear B
  have B := Lib.hid B'.out
  clear B'
  have C := Lib.hid (C2.new (((w).alloc (.cells #[.int .i64 an, .int .i64 ad] 25)).alloc (.cells #[.int .i64 bn, .int .i64 bd] 25)) (.int .i64 cn) (.int .i64 cd) 25)
  go_enter Tryd.func4, Tryd.ntmps4
  go_wp2_with fail
  have hz : ((w).alloc (.cells #[.int .i64 an, .int .i64 ad] 25)).heap.size = w.heap.size + 1 := by simp
  rw [hz] at B
  clear hz
  have hz : (((w).alloc (.cells #[.int .i64 an, .int .i64 ad] 25)).alloc (.cells #[.int .i64 bn, .int .i64 bd] 25)).heap.size = w.heap.size + 2 := by simp
  rw [hz] at C
  clear hz
  generalize (((w).alloc (.cells #[.int .i64 an, .int .i64 ad] 25)).alloc (.cells #[.int .i64 bn, .int .i64 bd] 25)).alloc (.cells #[.int .i64 cn, .int .i64 cd] 25) = w3 at *
  refine (head01 _ T3.out.tabs).mono ?_
  rintro e w4 ⟨rfl, hb⟩
  have T4 := Lib.hid (T3.out.step hb)
  have A' := Lib.hid (A.out.step hb)
  clear A
  have A := Lib.hid A'.out
  clear A'
  have B' := Lib.hid (B.out.step hb)
  clear B
  have B := Lib.hid B'.out
  clear B'
  have C' := Lib.hid (C.out.step hb)
  clear C
  have C := Lib.hid C'.out
  clear C'
  clear hb
  obtain ⟨cA0, cA1⟩ := A.out.cells
  obtain ⟨cB0, cB1⟩ := B.out.cells
  obtain ⟨cC0, cC1⟩ := C.out.cells
  go_wp2_with fail
  refine (HVa.out _).mono ?_
  rintro e w5 ⟨rfl, hb⟩
  have T5 := Lib.hid (T4.out.step hb)
  have A' := Lib.hid (A.out.step hb)
  clear A
  have A := Lib.hid A'.out
  clear A'
  have B' := Lib.hid (B.out.step hb)
  clear B
  have B := Lib.hid B'.out
  clear B'
  have C' := Lib.hid (C.out.step hb)
  clear C
  have C := Lib.hid C'.out
  clear C'
  clear hb
  clear cA0 cA1 cB0 cB1 cC0 cC1
  obtain ⟨cA0, cA1⟩ := A.out.cells
  obtain ⟨cB0, cB1⟩ := B.out.cells
  obtain ⟨cC0, cC1⟩ := C.out.cells
  go_wp2_with fail
  refine (HVb.out _).mono ?_
  rintro e w6 ⟨rfl, hb⟩
  have T6 := Lib.hid (T5.out.step hb)
  have A' := Lib.hid (A.out.step hb)
  clear A
  have A := Lib.hid A'.out
  clear A'
  have B' := Lib.hid (B.out.step hb)
  clear B
  have B := Lib.hid B'.out
  clear B'
  have C' := Lib.hid (C.out.step hb)
  clear C
  have C := Lib.hid C'.out
  clear C'
  clear hb
  clear cA0 cA1 cB0 cB1 cC0 cC1
  obtain ⟨cA0, cA1⟩ := A.out.cells
  obtain ⟨cB0, cB1⟩ := B.out.cells
  obtain ⟨cC0, cC1⟩ := C.out.cells
  go_wp2_with fail
  refine (HVc.out _).mono ?_
  rintro e w7 ⟨rfl, hb⟩
  have T7 := Lib.hid (T6.out.step hb)
  have A' := Lib.hid (A.out.step hb)
  clear A
  have A := Lib.hid A'.out
  clear A'
  have B' := Lib.hid (B.out.step hb)
  clear B
  have B := Lib.hid B'.out
  clear B'
  have C' := Lib.hid (C.out.step hb)
  clear C
  have C := Lib.hid C'.out
  clear C'
  clear hb
  clear cA0 cA1 cB0 cB1 cC0 cC1
  obtain ⟨cA0, cA1⟩ := A.out.cells
  obtain ⟨cB0, cB1⟩ := B.out.cells
  obtain ⟨cC0, cC1⟩ := C.out.cells
  go_wp2_with fail
  refine (HK.out _).mono ?_
  rintro e w8 ⟨rfl, hb⟩
  have T8 := Lib.hid (T7.out.step hb)
  have A' := Lib.hid (A.out.step hb)
  clear A
  have A := Lib.hid A'.out
  clear A'
  have B' := Lib.hid (B.out.step hb)
  clear B
  have B := Lib.hid B'.out
  clear B'
  have C' := Lib.hid (C.out.step hb)
  clear C
  have C := Lib.hid C'.out
  clear C'
  clear hb
  clear cA0 cA1 cB0 cB1 cC0 cC1
  obtain ⟨cA0, cA1⟩ := A.out.cells
  obtain ⟨cB0, cB1⟩ := B.out.cells
  obtain ⟨cC0, cC1⟩ := C.out.cells
  go_wp2_with fail
  refine (HL.out _).mono ?_
  rintro e w9 ⟨rfl, hb⟩
  have T9 := Lib.hid (T8.out.step hb)
  have A' := Lib.hid (A.out.step hb)
  clear A
  have A := Lib.hid A'.out
  clear A'
  have B' := Lib.hid (B.out.step hb)
  clear B
  have B := Lib.hid B'.out
  clear B'
  have C' := Lib.hid (C.out.step hb)
  clear C
  have C := Lib.hid C'.out
  clear C'
  clear hb
  clear cA0 cA1 cB0 cB1 cC0 cC1
  obtain ⟨cA0, cA1⟩ := A.out.cells
  obtain ⟨cB0, cB1⟩ := B.out.cells
  obtain ⟨cC0, cC1⟩ := C.out.cells
  go_wp2_with fail
  refine (HS.out _).mono ?_
  rintro e w10 ⟨rfl, hb⟩
  have T10 := Lib.hid (T9.out.step hb)
  have A' := Lib.hid (A.out.step hb)
  clear A
  have A := Lib.hid A'.out
  clear A'
  have B' := Lib.hid (B.out.step hb)
  clear B
  have B := Lib.hid B'.out
  clear B'
  have C' := Lib.hid (C.out.step hb)
  clear C
  have C := Lib.hid C'.out
  clear C'
  clear hb
  clear cA0 cA1 cB0 cB1 cC0 cC1
  have lS := Lib.hid (C.out.lt)
  have T11 := Lib.hid (T10.out.alloc (.cells #[.int .i64 sn, .int .i64 sd] 25))
  have A' := Lib.hid (A.out.alloc (.cells #[.int .i64 sn, .int .i64 sd] 25))
  clear A
  have A := Lib.hid A'.out
  clear A'
  have B' := Lib.hid (B.out.alloc (.cells #[.int .i64 sn, .int .i64 sd] 25))
  clear B
  have B := Lib.hid B'.out
  clear B'
  have C' := Lib.hid (C.out.alloc (.cells #[.int .i64 sn, .int .i64 sd] 25))
  clear C
  have C := Lib.hid C'.out
  clear C'
  have S := Lib.hid (D2.new w10 (.int .i64 sn) (.int .i64 sd) 25)
  obtain ⟨cA0, cA1⟩ := A.out.cells
  obtain ⟨cB0, cB1⟩ := B.out.cells
  obtain ⟨cC0, cC1⟩ := C.out.cells
  obtain ⟨cS0, cS1⟩ := S.out.cells
  go_wp2_with fail
  generalize w10.alloc (.cells #[.int .i64 sn, .int .i64 sd] 25) = w11 at *
  generalize w10.heap.size = nS at *
  refine (HT.out _).mono ?_
  rintro e w12 ⟨rfl, hb⟩
  have T12 := Lib.hid (T11.out.step hb)
  have A' := Lib.hid (A.out.step hb)
  clear A
  have A := Lib.hid A'.out
  clear A'
  have B' := Lib.hid (B.out.step hb)
  clear B
  have B := Lib.hid B'.out
  clear B'
  have C' := Lib.hid (C.out.step hb)
  clear C
  have C := Lib.hid C'.out
  clear C'
  have S' := Lib.hid (S.out.step hb)
  clear S
  have S := Lib.hid S'.out
  clear S'
  clear hb
  clear cA0 cA1 cB0 cB1 cC0 cC1 cS0 cS1
  have lT := Lib.hid (S.out.c2.lt)
  have T13 := Lib.hid (T12.out.alloc (.cells #[.int .i64 tn, .int .i64 td] 25))
  have A' := Lib.hid (A.out.alloc (.cells #[.int .i64 tn, .int .i64 td] 25))
  clear A
  have A := Lib.hid A'.out
  clear A'
  have B' := Lib.hid (B.out.alloc (.cells #[.int .i64 tn, .int .i64 td] 25))
  clear B
  have B := Lib.hid B'.out
  clear B'
  have C' := Lib.hid (C.out.alloc (.cells #[.int .i64 tn, .int .i64 td] 25))
  clear C
  have C := Lib.hid C'.out
  clear C'
  have S' := Lib.hid (S.out.alloc (.cells #[.int .i64 tn, .int .i64 td] 25))
  clear S
  have S := Lib.hid S'.out
  clear S'
  have T := Lib.hid (D2.new w12 (.int .i64 tn) (.int .i64 td) 25)
  obtain ⟨cA0, cA1⟩ := A.out.cells
  obtain ⟨cB0, cB1⟩ := B.out.cells
  obtain ⟨cC0, cC1⟩ := C.out.cells
  obtain ⟨cS0, cS1⟩ := S.out.cells
  obtain ⟨cT0, cT1⟩ := T.out.cells
  go_wp2_with fail
  generalize w12.alloc (.cells #[.int .i64 tn, .int .i64 td] 25) = w13 at *
  generalize w12.heap.size = nT at *
  refine (HG.out _).mono ?_
  rintro e w14 ⟨rfl, hb⟩
  have T14 := Lib.hid (T13.out.step hb)
  have A' := Lib.hid (A.out.step hb)
  clear A
  have A := Lib.hid A'.out
  clear A'
  have B' := Lib.hid (B.out.step hb)
  clear B
  have B := Lib.hid B'.out
  clear B'
  have C' := Lib.hid (C.out.step hb)
  clear C
  have C := Lib.hid C'.out
  clear C'
  have S' := Lib.hid (S.out.step hb)
  clear S
  have S := Lib.hid S'.out
  clear S'
  have T' := Lib.hid (T.out.step hb)
  clear T
  have T := Lib.hid T'.out
  clear T'
  clear hb
  clear cA0 cA1 cB0 cB1 cC0 cC1 cS0 cS1 cT0 cT1
  obtain ⟨cA0, cA1⟩ := A.out.cells
  obtain ⟨cB0, cB1⟩ := B.out.cells
  obtain ⟨cC0, cC1⟩ := C.out.cells
  obtain ⟨cS0, cS1⟩ := S.out.cells
  obtain ⟨cT0, cT1⟩ := T.out.cells
  go_wp2_with fail
  refine (HX.out _).mono ?_
  rintro e w15 ⟨rfl, hb⟩
  have T15 := Lib.hid (T14.out.step hb)
  have A' := Lib.hid (A.out.step hb)
  clear A
  have A := Lib.hid A'.out
  clear A'
  have B' := Lib.hid (B.out.step hb)
  clear B
  have B := Lib.hid B'.out
  clear B'
  have C' := Lib.hid (C.out.step hb)
  clear C
  have C := Lib.hid C'.out
  clear C'
  have S' := Lib.hid (S.out.step hb)
  clear S
  have S := Lib.hid S'.out
  clear S'
  have T' := Lib.hid (T.out.step hb)
  clear T
  have T := Lib.hid T'.out
  clear T'
  clear hb
  clear cA0 cA1 cB0 cB1 cC0 cC1 cS0 cS1 cT0 cT1
  obtain ⟨cA0, cA1⟩ := A.out.cells
  obtain ⟨cB0, cB1⟩ := B.out.cells
  obtain ⟨cC0, cC1⟩ := C.out.cells
  obtain ⟨cS0, cS1⟩ := S.out.cells
  obtain ⟨cT0, cT1⟩ := T.out.cells
  obtain ⟨k0, k1⟩ := S.out.frozen
  have T16 := Lib.hid (Trk.set (n := nS) T15.out HT0.out (by have := lS.out; omega) (.int .i64 xn) (.int .i64 xd))
  have A' := Lib.hid (A.out.set_other (m := nS) (by have := lS.out; omega) (.int .i64 xn) (.int .i64 xd))
  clear A
  have A := Lib.hid A'.out
  clear A'
  have B' := Lib.hid (B.out.set_other (m := nS) (by have := lS.out; omega) (.int .i64 xn) (.int .i64 xd))
  clear B
  have B := Lib.hid B'.out
  clear B'
  have C' := Lib.hid (C.out.set_other (m := nS) (by have := lS.out; omega) (.int .i64 xn) (.int .i64 xd))
  clear C
  have C := Lib.hid C'.out
  clear C'
  have S' := Lib.hid (S.out.set (.int .i64 xn) (.int .i64 xd))
  clear S
  have S := Lib.hid S'.out
  clear S'
  have T' := Lib.hid (T.out.set_other (m := nS) (by have := lT.out; omega) (.int .i64 xn) (.int .i64 xd))
  clear T
  have T := Lib.hid T'.out
  clear T'
  obtain ⟨pA0, pA1⟩ := A.out.cells
  obtain ⟨pB0, pB1⟩ := B.out.cells
  obtain ⟨pC0, pC1⟩ := C.out.cells
  obtain ⟨pS0, pS1⟩ := S.out.cells
  obtain ⟨pT0, pT1⟩ := T.out.cells
  go_wp2_with fail
  clear cA0 cA1 cB0 cB1 cC0 cC1 cS0 cS1 cT0 cT1 k0 k1 pA0 pA1 pB0 pB1 pC0 pC1 pS0 pS1 pT0 pT1
  generalize (w15.setCell ⟨nS, 0, none⟩ (.int .i64 xn)).setCell ⟨nS, 1, none⟩ (.int .i64 xd) = w16 at *
  refine (HY.out _).mono ?_
  rintro e w17 ⟨rfl, hb⟩
  have T17 := Lib.hid (T16.out.step hb)
  have A' := Lib.hid (A.out.step hb)
  clear A
  have A := Lib.hid A'.out
  clear A'
  have B' := Lib.hid (B.out.step hb)
  clear B
  have B := Lib.hid B'.out
  clear B'
  have C' := Lib.hid (C.out.step hb)
  clear C
  have C := Lib.hid C'.out
  clear C'
  have S' := Lib.hid (S.out.step hb)
  clear S
  have S := Lib.hid S'.out
  clear S'
  have T' := Lib.hid (T.out.step hb)
  clear T
  have T := Lib.hid T'.out
  clear T'
  clear hb
  obtain ⟨cA0, cA1⟩ := A.out.cells
  obtain ⟨cB0, cB1⟩ := B.out.cells
  obtain ⟨cC0, cC1⟩ := C.out.cells
  obtain ⟨cS0, cS1⟩ := S.out.cells
  obtain ⟨cT0, cT1⟩ := T.out.cells
  obtain ⟨k0, k1⟩ := T.out.frozen
  have T18 := Lib.hid (Trk.set (n := nT) T17.out HT0.out (by have := lS.out; have := lT.out; omega) (.int .i64 yn) (.int .i64 yd))
  have A' := Lib.hid (A.out.set_other (m := nT) (by have := lS.out; have := lT.out; omega) (.int .i64 yn) (.int .i64 yd))
  clear A
  have A := Lib.hid A'.out
  clear A'
  have B' := Lib.hid (B.out.set_other (m := nT) (by have := lS.out; have := lT.out; omega) (.int .i64 yn) (.int .i64 yd))
  clear B
  have B := Lib.hid B'.out
  clear B'
  have C' := Lib.hid (C.out.set_other (m := nT) (by have := lS.out; have := lT.out; omega) (.int .i64 yn) (.int .i64 yd))
  clear C
  have C := Lib.hid C'.out
  clear C'
  have S' := Lib.hid (S.out.set_other (m := nT) (by have := lT.out; omega) (.int .i64 yn) (.int .i64 yd))
  clear S
  have S := Lib.hid S'.out
  clear S'
  have T' := Lib.hid (T.out.set (.int .i64 yn) (.int .i64 yd))
  clear T
  have T := Lib.hid T'.out
  clear T'
  obtain ⟨pA0, pA1⟩ := A.out.cells
  obtain ⟨pB0, pB1⟩ := B.out.cells
  obtain ⟨pC0, pC1⟩ := C.out.cells
  obtain ⟨pS0, pS1⟩ := S.out.cells
  obtain ⟨pT0, pT1⟩ := T.out.cells
  go_wp2_with fail
  clear cA0 cA1 cB0 cB1 cC0 cC1 cS0 cS1 cT0 cT1 k0 k1 pA0 pA1 pB0 pB1 pC0 pC1 pS0 pS1 pT0 pT1
  generalize (w17.setCell ⟨nT, 0, none⟩ (.int .i64 yn)).setCell ⟨nT, 1, none⟩ (.int .i64 yd) = w18 at *
  go_ret
  exact ⟨by first | rfl | simp, T18.out.bel⟩
set_option maxHeartbeats 2000000 in
set_option maxRecDepth 100000 in
theorem order_132 (an ad bn bd cn cd k sn sd se tn td te xn xd xe yn yd ye : Int) (w : World) (ht : Tabs w)
    (hVa : ∀ w, Calls Tryd.prog 15 #[.agg #[.int .i64 an, .int .i64 ad]] w fun e w' => e = .returned (.bool true) ∧ Below w.heap.size w w')
    (hVb : ∀ w, Calls Tryd.prog 15 #[.agg #[.int .i64 bn, .int .i64 bd]] w fun e w' => e = .returned (.bool true) ∧ Below w.heap.size w w')
    (hVc : ∀ w, Calls Tryd.prog 15 #[.agg #[.int .i64 cn, .int .i64 cd]] w fun e w' => e = .returned (.bool true) ∧ Below w.heap.size w w')
    (hK : ∀ w, Calls Tryd.prog 16 #[.agg #[.int .i64 an, .int .i64 ad], .agg #[.int .i64 bn, .int .i64 bd]] w fun e w' => e = .returned (.int .i64 k) ∧ Below w.heap.size w w')
    (hL : ∀ w, Calls Tryd.prog 16 #[.agg #[.int .i64 bn, .int .i64 bd], .agg #[.int .i64 an, .int .i64 ad]] w fun e w' => e = .returned (.int .i64 (-k)) ∧ Below w.heap.size w w')
    (AB : Bool) (hAB : (an == bn && ad == bd) = AB) (hk1 : -1 ≤ k) (hk2 : k ≤ 1) (hkeq : (k == 0) = AB)
    (hkp : 0 < k)
    (hS : ∀ w, Calls Tryd.prog 17 #[.agg #[.int .i64 an, .int .i64 ad], .agg #[.int .i64 cn, .int .i64 cd]] w (Ret3 w sn sd se))
    (hT : ∀ w, Calls Tryd.prog 17 #[.agg #[.int .i64 bn, .int .i64 bd], .agg #[.int .i64 cn, .int .i64 cd]] w (Ret3 w tn td te))
    (hX : ∀ w, Calls Tryd.prog 18 #[.agg #[.int .i64 an, .int .i64 ad], .agg #[.int .i64 cn, .int .i64 cd]] w (Ret3 w xn xd xe))
    (hY : ∀ w, Calls Tryd.prog 18 #[.agg #[.int .i64 bn, .int .i64 bd], .agg #[.int .i64 cn, .int .i64 cd]] w (Ret3 w yn yd ye))
    (hse : (se == 0) = true) (hte : (te == 0) = true)
    (hG : ∀ w, Calls Tryd.prog 16 #[.agg #[.int .i64 sn, .int .i64 sd], .agg #[.int .i64 tn, .int .i64 td]] w fun e w' => e = .returned (.int .i64 k) ∧ Below w.heap.size w w')
    (hcn : 0 < cn) (hxe : (xe != 0) = true) :
    Calls Tryd.prog 4 #[.agg #[.int .i64 an, .int .i64 ad], .agg #[.int .i64 bn, .int .i64 bd], .agg #[.int .i64 cn, .int .i64 cd]] w fun e w' => e = .returned (.bool true) ∧ Below w.heap.size w w' := by
  have hq := fun w => run_eql_ratio w an ad bn bd
  rw [hAB] at hq
  clear hAB
  have HVa := Lib.hid hVa
  clear hVa
  have HVb := Lib.hid hVb
  clear hVb
  have HVc := Lib.hid hVc
  clear hVc
  have HK := Lib.hid hK
  clear hK
  have HL := Lib.hid hL
  clear hL
  have HS := Lib.hid hS
  clear hS
  have HT := Lib.hid hT
  clear hT
  have HX := Lib.hid hX
  clear hX
  have HY := Lib.hid hY
  clear hY
  have HG := Lib.hid hG
  clear hG
  have HT0 := Lib.hid ht
  have T0 : Hid (Trk w w) := Lib.hid ⟨ht, Below.refl _ _⟩
  clear ht
  have T1 := Lib.hid (T0.out.alloc (.cells #[.int .i64 an, .int .i64 ad] 25))
  have A := Lib.hid (C2.new (w) (.int .i64 an) (.int .i64 ad) 25)
  have T2 := Lib.hid (T1.out.alloc (.cells #[.int .i64 bn, .int .i64 bd] 25))
  have A' := Lib.hid (A.out.alloc (.cells #[.int .i64 bn, .int .i64 bd] 25))
  clear A
  have A := Lib.hid A'.out
  clear A'
  have B := Lib.hid (C2.new ((w).alloc (.cells #[.int .i64 an, .int .i64 ad] 25)) (.int .i64 bn) (.int .i64 bd) 25)
  have T3 := Lib.hid (T2.out.alloc (.cells #[.int .i64 cn, .int .i64 cd] 25))
  have A' := Lib.hid (A.out.alloc (.cells #[.int .i64 cn, .int .i64 cd] 25))
  clear A
  have A := Lib.hid A'.out
  clear A'
  have B' := Lib.hid (B.out.alloc (.cells #[.int .i64 cn, .int .i64 cd] 25))
  clear B
  have B := Lib.hid B'.out
  clear B'
  have C := Lib.hid (C2.new (((w).alloc (.cells #[.int .i64 an, .int .i64 ad] 25)).alloc (.cells #[.int .i64 bn, .int .i64 bd] 25)) (.int .i64 cn) (.int .i64 cd) 25)
  go_enter Tryd.func4, Tryd.ntmps4
  go_wp2_with fail
  have hz : ((w).alloc (.cells #[.int .i64 an, .int .i64 ad] 25)).heap.size = w.heap.size + 1 := by simp
  rw [hz] at B
  clear hz
  have hz : (((w).alloc (.cells #[.int .i64 an, .int .i64 ad] 25)).alloc (.cells #[.int .i64 bn, .int .i64 bd] 25)).heap.size = w.heap.size + 2 := by simp
  rw [hz] at C
  clear hz
  generalize (((w).alloc (.cells #[.int .i64 an, .int .i64 ad] 25)).alloc (.cells #[.int .i64 bn, .int .i64 bd] 25)).alloc (.cells #[.int .i64 cn, .int .i64 cd] 25) = w3 at *
  refine (head01 _ T3.out.tabs).mono ?_
  rintro e w4 ⟨rfl, hb⟩
  have T4 := Lib.hid (T3.out.step hb)
  have A' := Lib.hid (A.out.step hb)
  clear A
  have A := Lib.hid A'.out
  clear A'
  have B' := Lib.hid (B.out.step hb)
  clear B
  have B := Lib.hid B'.out
  clear B'
  have C' := Lib.hid (C.out.step hb)
  clear C
  have C := Lib.hid C'.out
  clear C'
  clear hb
  obtain ⟨cA0, cA1⟩ := A.out.cells
  obtain ⟨cB0, cB1⟩ := B.out.cells
  obtain ⟨cC0, cC1⟩ := C.out.cells
  go_wp2_with fail
  refine (HVa.out _).mono ?_
  rintro e w5 ⟨rfl, hb⟩
  have T5 := Lib.hid (T4.out.step hb)
  have A' := Lib.hid (A.out.step hb)
  clear A
  have A := Lib.hid A'.out
  clear A'
  have B' := Lib.hid (B.out.step hb)
  clear B
  have B := Lib.hid B'.out
  clear B'
  have C' := Lib.hid (C.out.step hb)
  clear C
  have C := Lib.hid C'.out
  clear C'
  clear hb
  clear cA0 cA1 cB0 cB1 cC0 cC1
  obtain ⟨cA0, cA1⟩ := A.out.cells
  obtain ⟨cB0, cB1⟩ := B.out.cells
  obtain ⟨cC0, cC1⟩ := C.out.cells
  go_wp2_with fail
  refine (HVb.out _).mono ?_
  rintro e w6 ⟨rfl, hb⟩
  have T6 := Lib.hid (T5.out.step hb)
  have A' := Lib.hid (A.out.step hb)
  clear A
  have A := Lib.hid A'.out
  clear A'
  have B' := Lib.hid (B.out.step hb)
  clear B
  have B := Lib.hid B'.out
  clear B'
  have C' := Lib.hid (C.out.step hb)
  clear C
  have C := Lib.hid C'.out
  clear C'
  clear hb
  clear cA0 cA1 cB0 cB1 cC0 cC1
  obtain ⟨cA0, cA1⟩ := A.out.cells
  obtain ⟨cB0, cB1⟩ := B.out.cells
  obtain ⟨cC0, cC1⟩ := C.out.cells
  go_wp2_with fail
  refine (HVc.out _).mono ?_
  rintro e w7 ⟨rfl, hb⟩
  have T7 := Lib.hid (T6.out.step hb)
  have A' := Lib.hid (A.out.step hb)
  clear A
  have A := Lib.hid A'.out
  clear A'
  have B' := Lib.hid (B.out.step hb)
  clear B
  have B := Lib.hid B'.out
  clear B'
  have C' := Lib.hid (C.out.step hb)
  clear C
  have C := Lib.hid C'.out
  clear C'
  clear hb
  clear cA0 cA1 cB0 cB1 cC0 cC1
  obtain ⟨cA0, cA1⟩ := A.out.cells
  obtain ⟨cB0, cB1⟩ := B.out.cells
  obtain ⟨cC0, cC1⟩ := C.out.cells
  go_wp2_with fail
  refine (HK.out _).mono ?_
  rintro e w8 ⟨rfl, hb⟩
  have T8 := Lib.hid (T7.out.step hb)
  have A' := Lib.hid (A.out.step hb)
  clear A
  have A := Lib.hid A'.out
  clear A'
  have B' := Lib.hid (B.out.step hb)
  clear B
  have B := Lib.hid B'.out
  clear B'
  have C' := Lib.hid (C.out.step hb)
  clear C
  have C := Lib.hid C'.out
  clear C'
  clear hb
  clear cA0 cA1 cB0 cB1 cC0 cC1
  obtain ⟨cA0, cA1⟩ := A.out.cells
  obtain ⟨cB0, cB1⟩ := B.out.cells
  obtain ⟨cC0, cC1⟩ := C.out.cells
  go_wp2_with fail
  refine (HL.out _).mono ?_
  rintro e w9 ⟨rfl, hb⟩
  have T9 := Lib.hid (T8.out.step hb)
  have A' := Lib.hid (A.out.step hb)
  clear A
  have A := Lib.hid A'.out
  clear A'
  have B' := Lib.hid (B.out.step hb)
  clear B
  have B := Lib.hid B'.out
  clear B'
  have C' := Lib.hid (C.out.step hb)
  clear C
  have C := Lib.hid C'.out
  clear C'
  clear hb
  clear cA0 cA1 cB0 cB1 cC0 cC1
  obtain ⟨cA0, cA1⟩ := A.out.cells
  obtain ⟨cB0, cB1⟩ := B.out.cells
  obtain ⟨cC0, cC1⟩ := C.out.cells
  go_wp2_with fail
  refine (HS.out _).mono ?_
  rintro e w10 ⟨rfl, hb⟩
  have T10 := Lib.hid (T9.out.step hb)
  have A' := Lib.hid (A.out.step hb)
  clear A
  have A := Lib.hid A'.out
  clear A'
  have B' := Lib.hid (B.out.step hb)
  clear B
  have B := Lib.hid B'.out
  clear B'
  have C' := Lib.hid (C.out.step hb)
  clear C
  have C := Lib.hid C'.out
  clear C'
  clear hb
  clear cA0 cA1 cB0 cB1 cC0 cC1
  have lS := Lib.hid (C.out.lt)
  have T11 := Lib.hid (T10.out.alloc (.cells #[.int .i64 sn, .int .i64 sd] 25))
  have A' := Lib.hid (A.out.alloc (.cells #[.int .i64 sn, .int .i64 sd] 25))
  clear A
  have A := Lib.hid A'.out
  clear A'
  have B' := Lib.hid (B.out.alloc (.cells #[.int .i64 sn, .int .i64 sd] 25))
  clear B
  have B := Lib.hid B'.out
  clear B'
  have C' := Lib.hid (C.out.alloc (.cells #[.int .i64 sn, .int .i64 sd] 25))
  clear C
  have C := Lib.hid C'.out
  clear C'
  have S := Lib.hid (D2.new w10 (.int .i64 sn) (.int .i64 sd) 25)
  obtain ⟨cA0, cA1⟩ := A.out.cells
  obtain ⟨cB0, cB1⟩ := B.out.cells
  obtain ⟨cC0, cC1⟩ := C.out.cells
  obtain ⟨cS0, cS1⟩ := S.out.cells
  go_wp2_with fail
  generalize w10.alloc (.cells #[.int .i64 sn, .int .i64 sd] 25) = w11 at *
  generalize w10.heap.size = nS at *
  refine (HT.out _).mono ?_
  rintro e w12 ⟨rfl, hb⟩
  have T12 := Lib.hid (T11.out.step hb)
  have A' := Lib.hid (A.out.step hb)
  clear A
  have A := Lib.hid A'.out
  clear A'
  have B' := Lib.hid (B.out.step hb)
  clear B
  have B := Lib.hid B'.out
  clear B'
  have C' := Lib.hid (C.out.step hb)
  clear C
  have C := Lib.hid C'.out
  clear C'
  have S' := Lib.hid (S.out.step hb)
  clear S
  have S := Lib.hid S'.out
  clear S'
  clear hb
  clear cA0 cA1 cB0 cB1 cC0 cC1 cS0 cS1
  have lT := Lib.hid (S.out.c2.lt)
  have T13 := Lib.hid (T12.out.alloc (.cells #[.int .i64 tn, .int .i64 td] 25))
  have A' := Lib.hid (A.out.alloc (.cells #[.int .i64 tn, .int .i64 td] 25))
  clear A
  have A := Lib.hid A'.out
  clear A'
  have B' := Lib.hid (B.out.alloc (.cells #[.int .i64 tn, .int .i64 td] 25))
  clear B
  have B := Lib.hid B'.out
  clear B'
  have C' := Lib.hid (C.out.alloc (.cells #[.int .i64 tn, .int .i64 td] 25))
  clear C
  have C := Lib.hid C'.out
  clear C'
  have S' := Lib.hid (S.out.alloc (.cells #[.int .i64 tn, .int .i64 td] 25))
  clear S
  have S := Lib.hid S'.out
  clear S'
  have T := Lib.hid (D2.new w12 (.int .i64 tn) (.int .i64 td) 25)
  obtain ⟨cA0, cA1⟩ := A.out.cells
  obtain ⟨cB0, cB1⟩ := B.out.cells
  obtain ⟨cC0, cC1⟩ := C.out.cells
  obtain ⟨cS0, cS1⟩ := S.out.cells
  obtain ⟨cT0, cT1⟩ := T.out.cells
  go_wp2_with fail
  generalize w12.alloc (.cells #[.int .i64 tn, .int .i64 td] 25) = w13 at *
  generalize w12.heap.size = nT at *
  refine (HG.out _).mono ?_
  rintro e w14 ⟨rfl, hb⟩
  have T14 := Lib.hid (T13.out.step hb)
  have A' := Lib.hid (A.out.step hb)
  clear A
  have A := Lib.hid A'.out
  clear A'
  have B' := Lib.hid (B.out.step hb)
  clear B
  have B := Lib.hid B'.out
  clear B'
  have C' := Lib.hid (C.out.step hb)
  clear C
  have C := Lib.hid C'.out
  clear C'
  have S' := Lib.hid (S.out.step hb)
  clear S
  have S := Lib.hid S'.out
  clear S'
  have T' := Lib.hid (T.out.step hb)
  clear T
  have T := Lib.hid T'.out
  clear T'
  clear hb
  clear cA0 cA1 cB0 cB1 cC0 cC1 cS0 cS1 cT0 cT1
  obtain ⟨cA0, cA1⟩ := A.out.cells
  obtain ⟨cB0, cB1⟩ := B.out.cells
  obtain ⟨cC0, cC1⟩ := C.out.cells
  obtain ⟨cS0, cS1⟩ := S.out.cells
  obtain ⟨cT0, cT1⟩ := T.out.cells
  go_wp2_with fail
  refine (HX.out _).mono ?_
  rintro e w15 ⟨rfl, hb⟩
  have T15 := Lib.hid (T14.out.step hb)
  have A' := Lib.hid (A.out.step hb)
  clear A
  have A := Lib.hid A'.out
  clear A'
  have B' := Lib.hid (B.out.step hb)
  clear B
  have B := Lib.hid B'.out
  clear B'
  have C' := Lib.hid (C.out.step hb)
  clear C
  have C := Lib.hid C'.out
  clear C'
  have S' := Lib.hid (S.out.step hb)
  clear S
  have S := Lib.hid S'.out
  clear S'
  have T' := Lib.hid (T.out.step hb)
  clear T
  have T := Lib.hid T'.out
  clear T'
  clear hb
  clear cA0 cA1 cB0 cB1 cC0 cC1 cS0 cS1 cT0 cT1
  obtain ⟨cA0, cA1⟩ := A.out.cells
  obtain ⟨cB0, cB1⟩ := B.out.cells
  obtain ⟨cC0, cC1⟩ := C.out.cells
  obtain ⟨cS0, cS1⟩ := S.out.cells
  obtain ⟨cT0, cT1⟩ := T.out.cells
  obtain ⟨k0, k1⟩ := S.out.frozen
  have T16 := Lib.hid (Trk.set (n := nS) T15.out HT0.out (by have := lS.out; omega) (.int .i64 xn) (.int .i64 xd))
  have A' := Lib.hid (A.out.set_other (m := nS) (by have := lS.out; omega) (.int .i64 xn) (.int .i64 xd))
  clear A
  have A := Lib.hid A'.out
  clear A'
  have B' := Lib.hid (B.out.set_other (m := nS) (by have := lS.out; omega) (.int .i64 xn) (.int .i64 xd))
  clear B
  have B := Lib.hid B'.out
  clear B'
  have C' := Lib.hid (C.out.set_other (m := nS) (by have := lS.out; omega) (.int .i64 xn) (.int .i64 xd))
  clear C
  have C := Lib.hid C'.out
  clear C'
  have S' := Lib.hid (S.out.set (.int .i64 xn) (.int .i64 xd))
  clear S
  have S := Lib.hid S'.out
  clear S'
  have T' := Lib.hid (T.out.set_other (m := nS) (by have := lT.out; omega) (.int .i64 xn) (.int .i64 xd))
  clear T
  have T := Lib.hid T'.out
  clear T'
  obtain ⟨pA0, pA1⟩ := A.out.cells
  obtain ⟨pB0, pB1⟩ := B.out.cells
  obtain ⟨pC0, pC1⟩ := C.out.cells
  obtain ⟨pS0, pS1⟩ := S.out.cells
  obtain ⟨pT0, pT1⟩ := T.out.cells
  go_wp2_with fail
  clear cA0 cA1 cB0 cB1 cC0 cC1 cS0 cS1 cT0 cT1 k0 k1 pA0 pA1 pB0 pB1 pC0 pC1 pS0 pS1 pT0 pT1
  generalize (w15.setCell ⟨nS, 0, none⟩ (.int .i64 xn)).setCell ⟨nS, 1, none⟩ (.int .i64 xd) = w16 at *
  refine (HY.out _).mono ?_
  rintro e w17 ⟨rfl, hb⟩
  have T17 := Lib.hid (T16.out.step hb)
  have A' := Lib.hid (A.out.step hb)
  clear A
  have A := Lib.hid A'.out
  clear A'
  have B' := Lib.hid (B.out.step hb)
  clear B
  have B := Lib.hid B'.out
  clear B'
  have C' := Lib.hid (C.out.step hb)
  clear C
  have C := Lib.hid C'.out
  clear C'
  have S' := Lib.hid (S.out.step hb)
  clear S
  have S := Lib.hid S'.out
  clear S'
  have T' := Lib.hid (T.out.step hb)
  clear T
  have T := Lib.hid T'.out
  clear T'
  clear hb
  obtain ⟨cA0, cA1⟩ := A.out.cells
  obtain ⟨cB0, cB1⟩ := B.out.cells
  obtain ⟨cC0, cC1⟩ := C.out.cells
  obtain ⟨cS0, cS1⟩ := S.out.cells
  obtain ⟨cT0, cT1⟩ := T.out.cells
  obtain ⟨k0, k1⟩ := T.out.frozen
  have T18 := Lib.hid (Trk.set (n := nT) T17.out HT0.out (by have := lS.out; have := lT.out; omega) (.int .i64 yn) (.int .i64 yd))
  have A' := Lib.hid (A.out.set_other (m := nT) (by have := lS.out; have := lT.out; omega) (.int .i64 yn) (.int .i64 yd))
  clear A
  have A := Lib.hid A'.out
  clear A'
  have B' := Lib.hid (B.out.set_other (m := nT) (by have := lS.out; have := lT.out; omega) (.int .i64 yn) (.int .i64 yd))
  clear B
  have B := Lib.hid B'.out
  clear B'
  have C' := Lib.hid (C.out.set_other (m := nT) (by have := lS.out; have := lT.out; omega) (.int .i64 yn) (.int .i64 yd))
  clear C
  have C := Lib.hid C'.out
  clear C'
  have S' := Lib.hid (S.out.set_other (m := nT) (by have := lT.out; omega) (.int .i64 yn) (.int .i64 yd))
  clear S
  have S := Lib.hid S'.out
  clear S'
  have T' := Lib.hid (T.out.set (.int .i64 yn) (.int .i64 yd))
  clear T
  have T := Lib.hid T'.out
  clear T'
  obtain ⟨pA0, pA1⟩ := A.out.cells
  obtain ⟨pB0, pB1⟩ := B.out.cells
  obtain ⟨pC0, pC1⟩ := C.out.cells
  obtain ⟨pS0, pS1⟩ := S.out.cells
  obtain ⟨pT0, pT1⟩ := T.out.cells
  go_wp2_with fail
  clear cA0 cA1 cB0 cB1 cC0 cC1 cS0 cS1 cT0 cT1 k0 k1 pA0 pA1 pB0 pB1 pC0 pC1 pS0 pS1 pT0 pT1
  generalize (w17.setCell ⟨nT, 0, none⟩ (.int .i64 yn)).setCell ⟨nT, 1, none⟩ (.int .i64 yd) = w18 at *
  go_ret
  exact ⟨by first | rfl | simp, T18.out.bel⟩
set_option maxHeartbeats 2000000 in
set_option maxRecDepth 100000 in
theorem order_133 (an ad bn bd cn cd k sn sd se tn td te xn xd xe yn yd ye : Int) (w : World) (ht : Tabs w)
    (hVa : ∀ w, Calls Tryd.prog 15 #[.agg #[.int .i64 an, .int .i64 ad]] w fun e w' => e = .returned (.bool true) ∧ Below w.heap.size w w')
    (hVb : ∀ w, Calls Tryd.prog 15 #[.agg #[.int .i64 bn, .int .i64 bd]] w fun e w' => e = .returned (.bool true) ∧ Below w.heap.size w w')
    (hVc : ∀ w, Calls Tryd.prog 15 #[.agg #[.int .i64 cn, .int .i64 cd]] w fun e w' => e = .returned (.bool true) ∧ Below w.heap.size w w')
    (hK : ∀ w, Calls Tryd.prog 16 #[.agg #[.int .i64 an, .int .i64 ad], .agg #[.int .i64 bn, .int .i64 bd]] w fun e w' => e = .returned (.int .i64 k) ∧ Below w.heap.size w w')
    (hL : ∀ w, Calls Tryd.prog 16 #[.agg #[.int .i64 bn, .int .i64 bd], .agg #[.int .i64 an, .int .i64 ad]] w fun e w' => e = .returned (.int .i64 (-k)) ∧ Below w.heap.size w w')
    (AB : Bool) (hAB : (an == bn && ad == bd) = AB) (hk1 : -1 ≤ k) (hk2 : k ≤ 1) (hkeq : (k == 0) = AB)
    (hkp : 0 < k)
    (hS : ∀ w, Calls Tryd.prog 17 #[.agg #[.int .i64 an, .int .i64 ad], .agg #[.int .i64 cn, .int .i64 cd]] w (Ret3 w sn sd se))
    (hT : ∀ w, Calls Tryd.prog 17 #[.agg #[.int .i64 bn, .int .i64 bd], .agg #[.int .i64 cn, .int .i64 cd]] w (Ret3 w tn td te))
    (hX : ∀ w, Calls Tryd.prog 18 #[.agg #[.int .i64 an, .int .i64 ad], .agg #[.int .i64 cn, .int .i64 cd]] w (Ret3 w xn xd xe))
    (hY : ∀ w, Calls Tryd.prog 18 #[.agg #[.int .i64 bn, .int .i64 bd], .agg #[.int .i64 cn, .int .i64 cd]] w (Ret3 w yn yd ye))
    (hse : (se == 0) = true) (hte : (te == 0) = true)
    (hG : ∀ w, Calls Tryd.prog 16 #[.agg #[.int .i64 sn, .int .i64 sd], .agg #[.int .i64 tn, .int .i64 td]] w fun e w' => e = .returned (.int .i64 k) ∧ Below w.heap.size w w')
    (hcn : 0 < cn) (hxe : (xe != 0) = false) (hye : (ye != 0) = true) :
    Calls Tryd.prog 4 #[.agg #[.int .i64 an, .int .i64 ad], .agg #[.int .i64 bn, .int .i64 bd], .agg #[.int .i64 cn, .int .i64 cd]] w fun e w' => e = .returned (.bool true) ∧ Below w.heap.size w w' := by
  have hq := fun w => run_eql_ratio w an ad bn bd
  rw [hAB] at hq
  clear hAB
  have HVa := Lib.hid hVa
  clear hVa
  have HVb := Lib.hid hVb
  clear hVb
  have HVc := Lib.hid hVc
  clear hVc
  have HK := Lib.hid hK
  clear hK
  have HL := Lib.hid hL
  clear hL
  have HS := Lib.hid hS
  clear hS
  have HT := Lib.hid hT
  clear hT
  have HX := Lib.hid hX
  clear hX
  have HY := Lib.hid hY
  clear hY
  have HG := Lib.hid hG
  clear hG
  have HT0 := Lib.hid ht
  have T0 : Hid (Trk w w) := Lib.hid ⟨ht, Below.refl _ _⟩
  clear ht
  have T1 := Lib.hid (T0.out.alloc (.cells #[.int .i64 an, .int .i64 ad] 25))
  have A := Lib.hid (C2.new (w) (.int .i64 an) (.int .i64 ad) 25)
  have T2 := Lib.hid (T1.out.alloc (.cells #[.int .i64 bn, .int .i64 bd] 25))
  have A' := Lib.hid (A.out.alloc (.cells #[.int .i64 bn, .int .i64 bd] 25))
  clear A
  have A := Lib.hid A'.out
  clear A'
  have B := Lib.hid (C2.new ((w).alloc (.cells #[.int .i64 an, .int .i64 ad] 25)) (.int .i64 bn) (.int .i64 bd) 25)
  have T3 := Lib.hid (T2.out.alloc (.cells #[.int .i64 cn, .int .i64 cd] 25))
  have A' := Lib.hid (A.out.alloc (.cells #[.int .i64 cn, .int .i64 cd] 25))
  clear A
  have A := Lib.hid A'.out
  clear A'
  have B' := Lib.hid (B.out.alloc (.cells #[.int .i64 cn, .int .i64 cd] 25))
  clear B
  have B := Lib.hid B'.out
  clear B'
  have C := Lib.hid (C2.new (((w).alloc (.cells #[.int .i64 an, .int .i64 ad] 25)).alloc (.cells #[.int .i64 bn, .int .i64 bd] 25)) (.int .i64 cn) (.int .i64 cd) 25)
  go_enter Tryd.func4, Tryd.ntmps4
  go_wp2_with fail
  have hz : ((w).alloc (.cells #[.int .i64 an, .int .i64 ad] 25)).heap.size = w.heap.size + 1 := by simp
  rw [hz] at B
  clear hz
  have hz : (((w).alloc (.cells #[.int .i64 an, .int .i64 ad] 25)).alloc (.cells #[.int .i64 bn, .int .i64 bd] 25)).heap.size = w.heap.size + 2 := by simp
  rw [hz] at C
  clear hz
  generalize (((w).alloc (.cells #[.int .i64 an, .int .i64 ad] 25)).alloc (.cells #[.int .i64 bn, .int .i64 bd] 25)).alloc (.cells #[.int .i64 cn, .int .i64 cd] 25) = w3 at *
  refine (head01 _ T3.out.tabs).mono ?_
  rintro e w4 ⟨rfl, hb⟩
  have T4 := Lib.hid (T3.out.step hb)
  have A' := Lib.hid (A.out.step hb)
  clear A
  have A := Lib.hid A'.out
  clear A'
  have B' := Lib.hid (B.out.step hb)
  clear B
  have B := Lib.hid B'.out
  clear B'
  have C' := Lib.hid (C.out.step hb)
  clear C
  have C := Lib.hid C'.out
  clear C'
  clear hb
  obtain ⟨cA0, cA1⟩ := A.out.cells
  obtain ⟨cB0, cB1⟩ := B.out.cells
  obtain ⟨cC0, cC1⟩ := C.out.cells
  go_wp2_with fail
  refine (HVa.out _).mono ?_
  rintro e w5 ⟨rfl, hb⟩
  have T5 := Lib.hid (T4.out.step hb)
  have A' := Lib.hid (A.out.step hb)
  clear A
  have A := Lib.hid A'.out
  clear A'
  have B' := Lib.hid (B.out.step hb)
  clear B
  have B := Lib.hid B'.out
  clear B'
  have C' := Lib.hid (C.out.step hb)
  clear C
  have C := Lib.hid C'.out
  clear C'
  clear hb
  clear cA0 cA1 cB0 cB1 cC0 cC1
  obtain ⟨cA0, cA1⟩ := A.out.cells
  obtain ⟨cB0, cB1⟩ := B.out.cells
  obtain ⟨cC0, cC1⟩ := C.out.cells
  go_wp2_with fail
  refine (HVb.out _).mono ?_
  rintro e w6 ⟨rfl, hb⟩
  have T6 := Lib.hid (T5.out.step hb)
  have A' := Lib.hid (A.out.step hb)
  clear A
  have A := Lib.hid A'.out
  clear A'
  have B' := Lib.hid (B.out.step hb)
  clear B
  have B := Lib.hid B'.out
  clear B'
  have C' := Lib.hid (C.out.step hb)
  clear C
  have C := Lib.hid C'.out
  clear C'
  clear hb
  clear cA0 cA1 cB0 cB1 cC0 cC1
  obtain ⟨cA0, cA1⟩ := A.out.cells
  obtain ⟨cB0, cB1⟩ := B.out.cells
  obtain ⟨cC0, cC1⟩ := C.out.cells
  go_wp2_with fail
  refine (HVc.out _).mono ?_
  rintro e w7 ⟨rfl, hb⟩
  have T7 := Lib.hid (T6.out.step hb)
  have A' := Lib.hid (A.out.step hb)
  clear A
  have A := Lib.hid A'.out
  clear A'
  have B' := Lib.hid (B.out.step hb)
  clear B
  have B := Lib.hid B'.out
  clear B'
  have C' := Lib.hid (C.out.step hb)
  clear C
  have C := Lib.hid C'.out
  clear C'
  clear hb
  clear cA0 cA1 cB0 cB1 cC0 cC1
  obtain ⟨cA0, cA1⟩ := A.out.cells
  obtain ⟨cB0, cB1⟩ := B.out.cells
  obtain ⟨cC0, cC1⟩ := C.out.cells
  go_wp2_with fail
  refine (HK.out _).mono ?_
  rintro e w8 ⟨rfl, hb⟩
  have T8 := Lib.hid (T7.out.step hb)
  have A' := Lib.hid (A.out.step hb)
  clear A
  have A := Lib.hid A'.out
  clear A'
  have B' := Lib.hid (B.out.step hb)
  clear B
  have B := Lib.hid B'.out
  clear B'
  have C' := Lib.hid (C.out.step hb)
  clear C
  have C := Lib.hid C'.out
  clear C'
  clear hb
  clear cA0 cA1 cB0 cB1 cC0 cC1
  obtain ⟨cA0, cA1⟩ := A.out.cells
  obtain ⟨cB0, cB1⟩ := B.out.cells
  obtain ⟨cC0, cC1⟩ := C.out.cells
  go_wp2_with fail
  refine (HL.out _).mono ?_
  rintro e w9 ⟨rfl, hb⟩
  have T9 := Lib.hid (T8.out.step hb)
  have A' := Lib.hid (A.out.step hb)
  clear A
  have A := Lib.hid A'.out
  clear A'
  have B' := Lib.hid (B.out.step hb)
  clear B
  have B := Lib.hid B'.out
  clear B'
  have C' := Lib.hid (C.out.step hb)
  clear C
  have C := Lib.hid C'.out
  clear C'
  clear hb
  clear cA0 cA1 cB0 cB1 cC0 cC1
  obtain ⟨cA0, cA1⟩ := A.out.cells
  obtain ⟨cB0, cB1⟩ := B.out.cells
  obtain ⟨cC0, cC1⟩ := C.out.cells
  go_wp2_with fail
  refine (HS.out _).mono ?_
  rintro e w10 ⟨rfl, hb⟩
  have T10 := Lib.hid (T9.out.step hb)
  have A' := Lib.hid (A.out.step hb)
  clear A
  have A := Lib.hid A'.out
  clear A'
  have B' := Lib.hid (B.out.step hb)
  clear B
  have B := Lib.hid B'.out
  clear B'
  have C' := Lib.hid (C.out.step hb)
  clear C
  have C := Lib.hid C'.out
  clear C'
  clear hb
  clear cA0 cA1 cB0 cB1 cC0 cC1
  have lS := Lib.hid (C.out.lt)
  have T11 := Lib.hid (T10.out.alloc (.cells #[.int .i64 sn, .int .i64 sd] 25))
  have A' := Lib.hid (A.out.alloc (.cells #[.int .i64 sn, .int .i64 sd] 25))
  clear A
  have A := Lib.hid A'.out
  clear A'
  have B' := Lib.hid (B.out.alloc (.cells #[.int .i64 sn, .int .i64 sd] 25))
  clear B
  have B := Lib.hid B'.out
  clear B'
  have C' := Lib.hid (C.out.alloc (.cells #[.int .i64 sn, .int .i64 sd] 25))
  clear C
  have C := Lib.hid C'.out
  clear C'
  have S := Lib.hid (D2.new w10 (.int .i64 sn) (.int .i64 sd) 25)
  obtain ⟨cA0, cA1⟩ := A.out.cells
  obtain ⟨cB0, cB1⟩ := B.out.cells
  obtain ⟨cC0, cC1⟩ := C.out.cells
  obtain ⟨cS0, cS1⟩ := S.out.cells
  go_wp2_with fail
  generalize w10.alloc (.cells #[.int .i64 sn, .int .i64 sd] 25) = w11 at *
  generalize w10.heap.size = nS at *
  refine (HT.out _).mono ?_
  rintro e w12 ⟨rfl, hb⟩
  have T12 := Lib.hid (T11.out.step hb)
  have A' := Lib.hid (A.out.step hb)
  clear A
  have A := Lib.hid A'.out
  clear A'
  have B' := Lib.hid (B.out.step hb)
  clear B
  have B := Lib.hid B'.out
  clear B'
  have C' := Lib.hid (C.out.step hb)
  clear C
  have C := Lib.hid C'.out
  clear C'
  have S' := Lib.hid (S.out.step hb)
  clear S
  have S := Lib.hid S'.out
  clear S'
  clear hb
  clear cA0 cA1 cB0 cB1 cC0 cC1 cS0 cS1
  have lT := Lib.hid (S.out.c2.lt)
  have T13 := Lib.hid (T12.out.alloc (.cells #[.int .i64 tn, .int .i64 td] 25))
  have A' := Lib.hid (A.out.alloc (.cells #[.int .i64 tn, .int .i64 td] 25))
  clear A
  have A := Lib.hid A'.out
  clear A'
  have B' := Lib.hid (B.out.alloc (.cells #[.int .i64 tn, .int .i64 td] 25))
  clear B
  have B := Lib.hid B'.out
  clear B'
  have C' := Lib.hid (C.out.alloc (.cells #[.int .i64 tn, .int .i64 td] 25))
  clear C
  have C := Lib.hid C'.out
  clear C'
  have S' := Lib.hid (S.out.alloc (.cells #[.int .i64 tn, .int .i64 td] 25))
  clear S
  have S := Lib.hid S'.out
  clear S'
  have T := Lib.hid (D2.new w12 (.int .i64 tn) (.int .i64 td) 25)
  obtain ⟨cA0, cA1⟩ := A.out.cells
  obtain ⟨cB0, cB1⟩ := B.out.cells
  obtain ⟨cC0, cC1⟩ := C.out.cells
  obtain ⟨cS0, cS1⟩ := S.out.cells
  obtain ⟨cT0, cT1⟩ := T.out.cells
  go_wp2_with fail
  generalize w12.alloc (.cells #[.int .i64 tn, .int .i64 td] 25) = w13 at *
  generalize w12.heap.size = nT at *
  refine (HG.out _).mono ?_
  rintro e w14 ⟨rfl, hb⟩
  have T14 := Lib.hid (T13.out.step hb)
  have A' := Lib.hid (A.out.step hb)
  clear A
  have A := Lib.hid A'.out
  clear A'
  have B' := Lib.hid (B.out.step hb)
  clear B
  have B := Lib.hid B'.out
  clear B'
  have C' := Lib.hid (C.out.step hb)
  clear C
  have C := Lib.hid C'.out
  clear C'
  have S' := Lib.hid (S.out.step hb)
  clear S
  have S := Lib.hid S'.out
  clear S'
  have T' := Lib.hid (T.out.step hb)
  clear T
  have T := Lib.hid T'.out
  clear T'
  clear hb
  clear cA0 cA1 cB0 cB1 cC0 cC1 cS0 cS1 cT0 cT1
  obtain ⟨cA0, cA1⟩ := A.out.cells
  obtain ⟨cB0, cB1⟩ := B.out.cells
  obtain ⟨cC0, cC1⟩ := C.out.cells
  obtain ⟨cS0, cS1⟩ := S.out.cells
  obtain ⟨cT0, cT1⟩ := T.out.cells
  go_wp2_with fail
  refine (HX.out _).mono ?_
  rintro e w15 ⟨rfl, hb⟩
  have T15 := Lib.hid (T14.out.step hb)
  have A' := Lib.hid (A.out.step hb)
  clear A
  have A := Lib.hid A'.out
  clear A'
  have B' := Lib.hid (B.out.step hb)
  clear B
  have B := Lib.hid B'.out
  clear B'
  have C' := Lib.hid (C.out.step hb)
  clear C
  have C := Lib.hid C'.out
  clear C'
  have S' := Lib.hid (S.out.step hb)
  clear S
  have S := Lib.hid S'.out
  clear S'
  have T' := Lib.hid (T.out.step hb)
  clear T
  have T := Lib.hid T'.out
  clear T'
  clear hb
  clear cA0 cA1 cB0 cB1 cC0 cC1 cS0 cS1 cT0 cT1
  obtain ⟨cA0, cA1⟩ := A.out.cells
  obtain ⟨cB0, cB1⟩ := B.out.cells
  obtain ⟨cC0, cC1⟩ := C.out.cells
  obtain ⟨cS0, cS1⟩ := S.out.cells
  obtain ⟨cT0, cT1⟩ := T.out.cells
  obtain ⟨k0, k1⟩ := S.out.frozen
  have T16 := Lib.hid (Trk.set (n := nS) T15.out HT0.out (by have := lS.out; omega) (.int .i64 xn) (.int .i64 xd))
  have A' := Lib.hid (A.out.set_other (m := nS) (by have := lS.out; omega) (.int .i64 xn) (.int .i64 xd))
  clear A
  have A := Lib.hid A'.out
  clear A'
  have B' := Lib.hid (B.out.set_other (m := nS) (by have := lS.out; omega) (.int .i64 xn) (.int .i64 xd))
  clear B
  have B := Lib.hid B'.out
  clear B'
  have C' := Lib.hid (C.out.set_other (m := nS) (by have := lS.out; omega) (.int .i64 xn) (.int .i64 xd))
  clear C
  have C := Lib.hid C'.out
  clear C'
  have S' := Lib.hid (S.out.set (.int .i64 xn) (.int .i64 xd))
  clear S
  have S := Lib.hid S'.out
  clear S'
  have T' := Lib.hid (T.out.set_other (m := nS) (by have := lT.out; omega) (.int .i64 xn) (.int .i64 xd))
  clear T
  have T := Lib.hid T'.out
  clear T'
  obtain ⟨pA0, pA1⟩ := A.out.cells
  obtain ⟨pB0, pB1⟩ := B.out.cells
  obtain ⟨pC0, pC1⟩ := C.out.cells
  obtain ⟨pS0, pS1⟩ := S.out.cells
  obtain ⟨pT0, pT1⟩ := T.out.cells
  go_wp2_with fail
  clear cA0 cA1 cB0 cB1 cC0 cC1 cS0 cS1 cT0 cT1 k0 k1 pA0 pA1 pB0 pB1 pC0 pC1 pS0 pS1 pT0 pT1
  generalize (w15.setCell ⟨nS, 0, none⟩ (.int .i64 xn)).setCell ⟨nS, 1, none⟩ (.int .i64 xd) = w16 at *
  refine (HY.out _).mono ?_
  rintro e w17 ⟨rfl, hb⟩
  have T17 := Lib.hid (T16.out.step hb)
  have A' := Lib.hid (A.out.step hb)
  clear A
  have A := Lib.hid A'.out
  clear A'
  have B' := Lib.hid (B.out.step hb)
  clear B
  have B := Lib.hid B'.out
  clear B'
  have C' := Lib.hid (C.out.step hb)
  clear C
  have C := Lib.hid C'.out
  clear C'
  have S' := Lib.hid (S.out.step hb)
  clear S
  have S := Lib.hid S'.out
  clear S'
  have T' := Lib.hid (T.out.step hb)
  clear T
  have T := Lib.hid T'.out
  clear T'
  clear hb
  obtain ⟨cA0, cA1⟩ := A.out.cells
  obtain ⟨cB0, cB1⟩ := B.out.cells
  obtain ⟨cC0, cC1⟩ := C.out.cells
  obtain ⟨cS0, cS1⟩ := S.out.cells
  obtain ⟨cT0, cT1⟩ := T.out.cells
  obtain ⟨k0, k1⟩ := T.out.frozen
  have T18 := Lib.hid (Trk.set (n := nT) T17.out HT0.out (by have := lS.out; have := lT.out; omega) (.int .i64 yn) (.int .i64 yd))
  have A' := Lib.hid (A.out.set_other (m := nT) (by have := lS.out; have := lT.out; omega) (.int .i64 yn) (.int .i64 yd))
  clear A
  have A := Lib.hid A'.out
  clear A'
  have B' := Lib.hid (B.out.set_other (m := nT) (by have := lS.out; have := lT.out; omega) (.int .i64 yn) (.int .i64 yd))
  clear B
  have B := Lib.hid B'.out
  clear B'
  have C' := Lib.hid (C.out.set_other (m := nT) (by have := lS.out; have := lT.out; omega) (.int .i64 yn) (.int .i64 yd))
  clear C
  have C := Lib.hid C'.out
  clear C'
  have S' := Lib.hid (S.out.set_other (m := nT) (by have := lT.out; omega) (.int .i64 yn) (.int .i64 yd))
  clear S
  have S := Lib.hid S'.out
  clear S'
  have T' := Lib.hid (T.out.set (.int .i64 yn) (.int .i64 yd))
  clear T
  have T := Lib.hid T'.out
  clear T'
  obtain ⟨pA0, pA1⟩ := A.out.cells
  obtain ⟨pB0, pB1⟩ := B.out.cells
  obtain ⟨pC0, pC1⟩ := C.out.cells
  obtain ⟨pS0, pS1⟩ := S.out.cells
  obtain ⟨pT0, pT1⟩ := T.out.cells
  go_wp2_with fail
  clear cA0 cA1 cB0 cB1 cC0 cC1 cS0 cS1 cT0 cT1 k0 k1 pA0 pA1 pB0 pB1 pC0 pC1 pS0 pS1 pT0 pT1
  generalize (w17.setCell ⟨nT, 0, none⟩ (.int .i64 yn)).setCell ⟨nT, 1, none⟩ (.int .i64 yd) = w18 at *
  go_ret
  exact ⟨by first | rfl | simp, T18.out.bel⟩
set_option maxHeartbeats 2000000 in
set_option maxRecDepth 100000 in
theorem order_134 (an ad bn bd cn cd k sn sd se tn td te xn xd xe yn yd ye : Int) (w : World) (ht : Tabs w)
    (hVa : ∀ w, Calls Tryd.prog 15 #[.agg #[.int .i64 an, .int .i64 ad]] w fun e w' => e = .returned (.bool true) ∧ Below w.heap.size w w')
    (hVb : ∀ w, Calls Tryd.prog 15 #[.agg #[.int .i64 bn, .int .i64 bd]] w fun e w' => e = .returned (.bool true) ∧ Below w.heap.size w w')
    (hVc : ∀ w, Calls Tryd.prog 15 #[.agg #[.int .i64 cn, .int .i64 cd]] w fun e w' => e = .returned (.bool true) ∧ Below w.heap.size w w')
    (hK : ∀ w, Calls Tryd.prog 16 #[.agg #[.int .i64 an, .int .i64 ad], .agg #[.int .i64 bn, .int .i64 bd]] w fun e w' => e = .returned (.int .i64 k) ∧ Below w.heap.size w w')
    (hL : ∀ w, Calls Tryd.prog 16 #[.agg #[.int .i64 bn, .int .i64 bd], .agg #[.int .i64 an, .int .i64 ad]] w fun e w' => e = .returned (.int .i64 (-k)) ∧ Below w.heap.size w w')
    (AB : Bool) (hAB : (an == bn && ad == bd) = AB) (hk1 : -1 ≤ k) (hk2 : k ≤ 1) (hkeq : (k == 0) = AB)
    (hkp : 0 < k)
    (hS : ∀ w, Calls Tryd.prog 17 #[.agg #[.int .i64 an, .int .i64 ad], .agg #[.int .i64 cn, .int .i64 cd]] w (Ret3 w sn sd se))
    (hT : ∀ w, Calls Tryd.prog 17 #[.agg #[.int .i64 bn, .int .i64 bd], .agg #[.int .i64 cn, .int .i64 cd]] w (Ret3 w tn td te))
    (hX : ∀ w, Calls Tryd.prog 18 #[.agg #[.int .i64 an, .int .i64 ad], .agg #[.int .i64 cn, .int .i64 cd]] w (Ret3 w xn xd xe))
    (hY : ∀ w, Calls Tryd.prog 18 #[.agg #[.int .i64 bn, .int .i64 bd], .agg #[.int .i64 cn, .int .i64 cd]] w (Ret3 w yn yd ye))
    (hse : (se == 0) = true) (hte : (te == 0) = true)
    (hG : ∀ w, Calls Tryd.prog 16 #[.agg #[.int .i64 sn, .int .i64 sd], .agg #[.int .i64 tn, .int .i64 td]] w fun e w' => e = .returned (.int .i64 k) ∧ Below w.heap.size w w')
    (hcn : 0 < cn) (hxe : (xe != 0) = false) (hye : (ye != 0) = false)
    (hZ : ∀ w, Calls Tryd.prog 16 #[.agg #[.int .i64 xn, .int .i64 xd], .agg #[.int .i64 yn, .int .i64 yd]] w fun e w' => e = .returned (.int .i64 k) ∧ Below w.heap.size w w') :
    Calls Tryd.prog 4 #[.agg #[.int .i64 an, .int .i64 ad], .agg #[.int .i64 bn, .int .i64 bd], .agg #[.int .i64 cn, .int .i64 cd]] w fun e w' => e = .returned (.bool true) ∧ Below w.heap.size w w' := by
  have hq := fun w => run_eql_ratio w an ad bn bd
  rw [hAB] at hq
  clear hAB
  have HVa := Lib.hid hVa
  clear hVa
  have HVb := Lib.hid hVb
  clear hVb
  have HVc := Lib.hid hVc
  clear hVc
  have HK := Lib.hid hK
  clear hK
  have HL := Lib.hid hL
  clear hL
  have HS := Lib.hid hS
  clear hS
  have HT := Lib.hid hT
  clear hT
  have HX := Lib.hid hX
  clear hX
  have HY := Lib.hid hY
  clear hY
  have HG := Lib.hid hG
  clear hG
  have HZ := Lib.hid hZ
  clear hZ
  have HT0 := Lib.hid ht
  have T0 : Hid (Trk w w) := Lib.hid ⟨ht, Below.refl _ _⟩
  clear ht
  have T1 := Lib.hid (T0.out.alloc (.cells #[.int .i64 an, .int .i64 ad] 25))
  have A := Lib.hid (C2.new (w) (.int .i64 an) (.int .i64 ad) 25)
  have T2 := Lib.hid (T1.out.alloc (.cells #[.int .i64 bn, .int .i64 bd] 25))
  have A' := Lib.hid (A.out.alloc (.cells #[.int .i64 bn, .int .i64 bd] 25))
  clear A
  have A := Lib.hid A'.out
  clear A'
  have B := Lib.hid (C2.new ((w).alloc (.cells #[.int .i64 an, .int .i64 ad] 25)) (.int .i64 bn) (.int .i64 bd) 25)
  have T3 := Lib.hid (T2.out.alloc (.cells #[.int .i64 cn, .int .i64 cd] 25))
  have A' := Lib.hid (A.out.alloc (.cells #[.int .i64 cn, .int .i64 cd] 25))
  clear A
  have A := Lib.hid A'.out
  clear A'
  have B' := Lib.hid (B.out.alloc (.cells #[.int .i64 cn, .int .i64 cd] 25))
  clear B
  have B := Lib.hid B'.out
  clear B'
  have C := Lib.hid (C2.new (((w).alloc (.cells #[.int .i64 an, .int .i64 ad] 25)).alloc (.cells #[.int .i64 bn, .int .i64 bd] 25)) (.int .i64 cn) (.int .i64 cd) 25)
  go_enter Tryd.func4, Tryd.ntmps4
  go_wp2_with fail
  have hz : ((w).alloc (.cells #[.int .i64 an, .int .i64 ad] 25)).heap.size = w.heap.size + 1 := by simp
  rw [hz] at B
  clear hz
  have hz : (((w).alloc (.cells #[.int .i64 an, .int .i64 ad] 25)).alloc (.cells #[.int .i64 bn, .int .i64 bd] 25)).heap.size = w.heap.size + 2 := by simp
  rw [hz] at C
  clear hz
  generalize (((w).alloc (.cells #[.int .i64 an, .int .i64 ad] 25)).alloc (.cells #[.int .i64 bn, .int .i64 bd] 25)).alloc (.cells #[.int .i64 cn, .int .i64 cd] 25) = w3 at *
  refine (head01 _ T3.out.tabs).mono ?_
  rintro e w4 ⟨rfl, hb⟩
  have T4 := Lib.hid (T3.out.step hb)
  have A' := Lib.hid (A.out.step hb)
  clear A
  have A := Lib.hid A'.out
  clear A'
  have B' := Lib.hid (B.out.step hb)
  clear B
  have B := Lib.hid B'.out
  clear B'
  have C' := Lib.hid (C.out.step hb)
  clear C
  have C := Lib.hid C'.out
  clear C'
  clear hb
  obtain ⟨cA0, cA1⟩ := A.out.cells
  obtain ⟨cB0, cB1⟩ := B.out.cells
  obtain ⟨cC0, cC1⟩ := C.out.cells
  go_wp2_with fail
  refine (HVa.out _).mono ?_
  rintro e w5 ⟨rfl, hb⟩
  have T5 := Lib.hid (T4.out.step hb)
  have A' := Lib.hid (A.out.step hb)
  clear A
  have A := Lib.hid A'.out
  clear A'
  have B' := Lib.hid (B.out.step hb)
  clear B
  have B := Lib.hid B'.out
  clear B'
  have C' := Lib.hid (C.out.step hb)
  clear C
  have C := Lib.hid C'.out
  clear C'
  clear hb
  clear cA0 cA1 cB0 cB1 cC0 cC1
  obtain ⟨cA0, cA1⟩ := A.out.cells
  obtain ⟨cB0, cB1⟩ := B.out.cells
  obtain ⟨cC0, cC1⟩ := C.out.cells
  go_wp2_with fail
  refine (HVb.out _).mono ?_
  rintro e w6 ⟨rfl, hb⟩
  have T6 := Lib.hid (T5.out.step hb)
  have A' := Lib.hid (A.out.step hb)
  clear A
  have A := Lib.hid A'.out
  clear A'
  have B' := Lib.hid (B.out.step hb)
  clear B
  have B := Lib.hid B'.out
  clear B'
  have C' := Lib.hid (C.out.step hb)
  clear C
  have C := Lib.hid C'.out
  clear C'
  clear hb
  clear cA0 cA1 cB0 cB1 cC0 cC1
  obtain ⟨cA0, cA1⟩ := A.out.cells
  obtain ⟨cB0, cB1⟩ := B.out.cells
  obtain ⟨cC0, cC1⟩ := C.out.cells
  go_wp2_with fail
  refine (HVc.out _).mono ?_
  rintro e w7 ⟨rfl, hb⟩
  have T7 := Lib.hid (T6.out.step hb)
  have A' := Lib.hid (A.out.step hb)
  clear A
  have A := Lib.hid A'.out
  clear A'
  have B' := Lib.hid (B.out.step hb)
  clear B
  have B := Lib.hid B'.out
  clear B'
  have C' := Lib.hid (C.out.step hb)
  clear C
  have C := Lib.hid C'.out
  clear C'
  clear hb
  clear cA0 cA1 cB0 cB1 cC0 cC1
  obtain ⟨cA0, cA1⟩ := A.out.cells
  obtain ⟨cB0, cB1⟩ := B.out.cells
  obtain ⟨cC0, cC1⟩ := C.out.cells
  go_wp2_with fail
  refine (HK.out _).mono ?_
  rintro e w8 ⟨rfl, hb⟩
  have T8 := Lib.hid (T7.out.step hb)
  have A' := Lib.hid (A.out.step hb)
  clear A
  have A := Lib.hid A'.out
  clear A'
  have B' := Lib.hid (B.out.step hb)
  clear B
  have B := Lib.hid B'.out
  clear B'
  have C' := Lib.hid (C.out.step hb)
  clear C
  have C := Lib.hid C'.out
  clear C'
  clear hb
  clear cA0 cA1 cB0 cB1 cC0 cC1
  obtain ⟨cA0, cA1⟩ := A.out.cells
  obtain ⟨cB0, cB1⟩ := B.out.cells
  obtain ⟨cC0, cC1⟩ := C.out.cells
  go_wp2_with fail
  refine (HL.out _).mono ?_
  rintro e w9 ⟨rfl, hb⟩
  have T9 := Lib.hid (T8.out.step hb)
  have A' := Lib.hid (A.out.step hb)
  clear A
  have A := Lib.hid A'.out
  clear A'
  have B' := Lib.hid (B.out.step hb)
  clear B
  have B := Lib.hid B'.out
  clear B'
  have C' := Lib.hid (C.out.step hb)
  clear C
  have C := Lib.hid C'.out
  clear C'
  clear hb
  clear cA0 cA1 cB0 cB1 cC0 cC1
  obtain ⟨cA0, cA1⟩ := A.out.cells
  obtain ⟨cB0, cB1⟩ := B.out.cells
  obtain ⟨cC0, cC1⟩ := C.out.cells
  go_wp2_with fail
  refine (HS.out _).mono ?_
  rintro e w10 ⟨rfl, hb⟩
  have T10 := Lib.hid (T9.out.step hb)
  have A' := Lib.hid (A.out.step hb)
  clear A
  have A := Lib.hid A'.out
  clear A'
  have B' := Lib.hid (B.out.step hb)
  clear B
  have B := Lib.hid B'.out
  clear B'
  have C' := Lib.hid (C.out.step hb)
  clear C
  have C := Lib.hid C'.out
  clear C'
  clear hb
  clear cA0 cA1 cB0 cB1 cC0 cC1
  have lS := Lib.hid (C.out.lt)
  have T11 := Lib.hid (T10.out.alloc (.cells #[.int .i64 sn, .int .i64 sd] 25))
  have A' := Lib.hid (A.out.alloc (.cells #[.int .i64 sn, .int .i64 sd] 25))
  clear A
  have A := Lib.hid A'.out
  clear A'
  have B' := Lib.hid (B.out.alloc (.cells #[.int .i64 sn, .int .i64 sd] 25))
  clear B
  have B := Lib.hid B'.out
  clear B'
  have C' := Lib.hid (C.out.alloc (.cells #[.int .i64 sn, .int .i64 sd] 25))
  clear C
  have C := Lib.hid C'.out
  clear C'
  have S := Lib.hid (D2.new w10 (.int .i64 sn) (.int .i64 sd) 25)
  obtain ⟨cA0, cA1⟩ := A.out.cells
  obtain ⟨cB0, cB1⟩ := B.out.cells
  obtain ⟨cC0, cC1⟩ := C.out.cells
  obtain ⟨cS0, cS1⟩ := S.out.cells
  go_wp2_with fail
  generalize w10.alloc (.cells #[.int .i64 sn, .int .i64 sd] 25) = w11 at *
  generalize w10.heap.size = nS at *
  refine (HT.out _).mono ?_
  rintro e w12 ⟨rfl, hb⟩
  have T12 := Lib.hid (T11.out.step hb)
  have A' := Lib.hid (A.out.step hb)
  clear A
  have A := Lib.hid A'.out
  clear A'
  have B' := Lib.hid (B.out.step hb)
  clear B
  have B := Lib.hid B'.out
  clear B'
  have C' := Lib.hid (C.out.step hb)
  clear C
  have C := Lib.hid C'.out
  clear C'
  have S' := Lib.hid (S.out.step hb)
  clear S
  have S := Lib.hid S'.out
  clear S'
  clear hb
  clear cA0 cA1 cB0 cB1 cC0 cC1 cS0 cS1
  have lT := Lib.hid (S.out.c2.lt)
  have T13 := Lib.hid (T12.out.alloc (.cells #[.int .i64 tn, .int .i64 td] 25))
  have A' := Lib.hid (A.out.alloc (.cells #[.int .i64 tn, .int .i64 td] 25))
  clear A
  have A := Lib.hid A'.out
  clear A'
  have B' := Lib.hid (B.out.alloc (.cells #[.int .i64 tn, .int .i64 td] 25))
  clear B
  have B := Lib.hid B'.out
  clear B'
  have C' := Lib.hid (C.out.alloc (.cells #[.int .i64 tn, .int .i64 td] 25))
  clear C
  have C := Lib.hid C'.out
  clear C'
  have S' := Lib.hid (S.out.alloc (.cells #[.int .i64 tn, .int .i64 td] 25))
  clear S
  have S := Lib.hid S'.out
  clear S'
  have T := Lib.hid (D2.new w12 (.int .i64 tn) (.int .i64 td) 25)
  obtain ⟨cA0, cA1⟩ := A.out.cells
  obtain ⟨cB0, cB1⟩ := B.out.cells
  obtain ⟨cC0, cC1⟩ := C.out.cells
  obtain ⟨cS0, cS1⟩ := S.out.cells
  obtain ⟨cT0, cT1⟩ := T.out.cells
  go_wp2_with fail
  generalize w12.alloc (.cells #[.int .i64 tn, .int .i64 td] 25) = w13 at *
  generalize w12.heap.size = nT at *
  refine (HG.out _).mono ?_
  rintro e w14 ⟨rfl, hb⟩
  have T14 := Lib.hid (T13.out.step hb)
  have A' := Lib.hid (A.out.step hb)
  clear A
  have A := Lib.hid A'.out
  clear A'
  have B' := Lib.hid (B.out.step hb)
  clear B
  have B := Lib.hid B'.out
  clear B'
  have C' := Lib.hid (C.out.step hb)
  clear C
  have C := Lib.hid C'.out
  clear C'
  have S' := Lib.hid (S.out.step hb)
  clear S
  have S := Lib.hid S'.out
  clear S'
  have T' := Lib.hid (T.out.step hb)
  clear T
  have T := Lib.hid T'.out
  clear T'
  clear hb
  clear cA0 cA1 cB0 cB1 cC0 cC1 cS0 cS1 cT0 cT1
  obtain ⟨cA0, cA1⟩ := A.out.cells
  obtain ⟨cB0, cB1⟩ := B.out.cells
  obtain ⟨cC0, cC1⟩ := C.out.cells
  obtain ⟨cS0, cS1⟩ := S.out.cells
  obtain ⟨cT0, cT1⟩ := T.out.cells
  go_wp2_with fail
  refine (HX.out _).mono ?_
  rintro e w15 ⟨rfl, hb⟩
  have T15 := Lib.hid (T14.out.step hb)
  have A' := Lib.hid (A.out.step hb)
  clear A
  have A := Lib.hid A'.out
  clear A'
  have B' := Lib.hid (B.out.step hb)
  clear B
  have B := Lib.hid B'.out
  clear B'
  have C' := Lib.hid (C.out.step hb)
  clear C
  have C := Lib.hid C'.out
  clear C'
  have S' := Lib.hid (S.out.step hb)
  clear S
  have S := Lib.hid S'.out
  clear S'
  have T' := Lib.hid (T.out.step hb)
  clear T
  have T := Lib.hid T'.out
  clear T'
  clear hb
  clear cA0 cA1 cB0 cB1 cC0 cC1 cS0 cS1 cT0 cT1
  obtain ⟨cA0, cA1⟩ := A.out.cells
  obtain ⟨cB0, cB1⟩ := B.out.cells
  obtain ⟨cC0, cC1⟩ := C.out.cells
  obtain ⟨cS0, cS1⟩ := S.out.cells
  obtain ⟨cT0, cT1⟩ := T.out.cells
  obtain ⟨k0, k1⟩ := S.out.frozen
  have T16 := Lib.hid (Trk.set (n := nS) T15.out HT0.out (by have := lS.out; omega) (.int .i64 xn) (.int .i64 xd))
  have A' := Lib.hid (A.out.set_other (m := nS) (by have := lS.out; omega) (.int .i64 xn) (.int .i64 xd))
  clear A
  have A := Lib.hid A'.out
  clear A'
  have B' := Lib.hid (B.out.set_other (m := nS) (by have := lS.out; omega) (.int .i64 xn) (.int .i64 xd))
  clear B
  have B := Lib.hid B'.out
  clear B'
  have C' := Lib.hid (C.out.set_other (m := nS) (by have := lS.out; omega) (.int .i64 xn) (.int .i64 xd))
  clear C
  have C := Lib.hid C'.out
  clear C'
  have S' := Lib.hid (S.out.set (.int .i64 xn) (.int .i64 xd))
  clear S
  have S := Lib.hid S'.out
  clear S'
  have T' := Lib.hid (T.out.set_other (m := nS) (by have := lT.out; omega) (.int .i64 xn) (.int .i64 xd))
  clear T
  have T := Lib.hid T'.out
  clear T'
  obtain ⟨pA0, pA1⟩ := A.out.cells
  obtain ⟨pB0, pB1⟩ := B.out.cells
  obtain ⟨pC0, pC1⟩ := C.out.cells
  obtain ⟨pS0, pS1⟩ := S.out.cells
  obtain ⟨pT0, pT1⟩ := T.out.cells
  go_wp2_with fail
  clear cA0 cA1 cB0 cB1 cC0 cC1 cS0 cS1 cT0 cT1 k0 k1 pA0 pA1 pB0 pB1 pC0 pC1 pS0 pS1 pT0 pT1
  generalize (w15.setCell ⟨nS, 0, none⟩ (.int .i64 xn)).setCell ⟨nS, 1, none⟩ (.int .i64 xd) = w16 at *
  refine (HY.out _).mono ?_
  rintro e w17 ⟨rfl, hb⟩
  have T17 := Lib.hid (T16.out.step hb)
  have A' := Lib.hid (A.out.step hb)
  clear A
  have A := Lib.hid A'.out
  clear A'
  have B' := Lib.hid (B.out.step hb)
  clear B
  have B := Lib.hid B'.out
  clear B'
  have C' := Lib.hid (C.out.step hb)
  clear C
  have C := Lib.hid C'.out
  clear C'
  have S' := Lib.hid (S.out.step hb)
  clear S
  have S := Lib.hid S'.out
  clear S'
  have T' := Lib.hid (T.out.step hb)
  clear T
  have T := Lib.hid T'.out
  clear T'
  clear hb
  obtain ⟨cA0, cA1⟩ := A.out.cells
  obtain ⟨cB0, cB1⟩ := B.out.cells
  obtain ⟨cC0, cC1⟩ := C.out.cells
  obtain ⟨cS0, cS1⟩ := S.out.cells
  obtain ⟨cT0, cT1⟩ := T.out.cells
  obtain ⟨k0, k1⟩ := T.out.frozen
  have T18 := Lib.hid (Trk.set (n := nT) T17.out HT0.out (by have := lS.out; have := lT.out; omega) (.int .i64 yn) (.int .i64 yd))
  have A' := Lib.hid (A.out.set_other (m := nT) (by have := lS.out; have := lT.out; omega) (.int .i64 yn) (.int .i64 yd))
  clear A
  have A := Lib.hid A'.out
  clear A'
  have B' := Lib.hid (B.out.set_other (m := nT) (by have := lS.out; have := lT.out; omega) (.int .i64 yn) (.int .i64 yd))
  clear B
  have B := Lib.hid B'.out
  clear B'
  have C' := Lib.hid (C.out.set_other (m := nT) (by have := lS.out; have := lT.out; omega) (.int .i64 yn) (.int .i64 yd))
  clear C
  have C := Lib.hid C'.out
  clear C'
  have S' := Lib.hid (S.out.set_other (m := nT) (by have := lT.out; omega) (.int .i64 yn) (.int .i64 yd))
  clear S
  have S := Lib.hid S'.out
  clear S'
  have T' := Lib.hid (T.out.set (.int .i64 yn) (.int .i64 yd))
  clear T
  have T := Lib.hid T'.out
  clear T'
  obtain ⟨pA0, pA1⟩ := A.out.cells
  obtain ⟨pB0, pB1⟩ := B.out.cells
  obtain ⟨pC0, pC1⟩ := C.out.cells
  obtain ⟨pS0, pS1⟩ := S.out.cells
  obtain ⟨pT0, pT1⟩ := T.out.cells
  go_wp2_with fail
  clear cA0 cA1 cB0 cB1 cC0 cC1 cS0 cS1 cT0 cT1 k0 k1 pA0 pA1 pB0 pB1 pC0 pC1 pS0 pS1 pT0 pT1
  generalize (w17.setCell ⟨nT, 0, none⟩ (.int .i64 yn)).setCell ⟨nT, 1, none⟩ (.int .i64 yd) = w18 at *
  refine (HZ.out _).mono ?_
  rintro e w19 ⟨rfl, hb⟩
  have T19 := Lib.hid (T18.out.step hb)
  have A' := Lib.hid (A.out.step hb)
  clear A
  have A := Lib.hid A'.out
  clear A'
  have B' := Lib.hid (B.out.step hb)
  clear B
  have B := Lib.hid B'.out
  clear B'
  have C' := Lib.hid (C.out.step hb)
  clear C
  have C := Lib.hid C'.out
  clear C'
  have S' := Lib.hid (S.out.step hb)
  clear S
  have S := Lib.hid S'.out
  clear S'
  have T' := Lib.hid (T.out.step hb)
  clear T
  have T := Lib.hid T'.out
  clear T'
  clear hb
  obtain ⟨cA0, cA1⟩ := A.out.cells
  obtain ⟨cB0, cB1⟩ := B.out.cells
  obtain ⟨cC0, cC1⟩ := C.out.cells
  obtain ⟨cS0, cS1⟩ := S.out.cells
  obtain ⟨cT0, cT1⟩ := T.out.cells
  go_wp2_with fail
  go_ret
  exact ⟨by first | rfl | simp, T19.out.bel⟩
end Go.Proofs.YtfcdoifijgbjeaaDoor
