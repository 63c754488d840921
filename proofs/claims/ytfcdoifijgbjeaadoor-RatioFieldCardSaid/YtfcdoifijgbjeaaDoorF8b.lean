/- RatioField: the walks: some ways. -/
import Derived.Test.YtfcdoifijgbjeaaDoorF6
namespace Go.Proofs.YtfcdoifijgbjeaaDoor
open Go.RowKit

set_option maxHeartbeats 4000000 in
set_option maxRecDepth 100000 in
theorem field_00122 (an ad bn bd cn cd un ud vn vd ve qn qd qe : Int) (w : World) (ht : Tabs w)
    (hVa : ∀ w, Calls Tryd.prog 15 #[.agg #[.int .i64 an, .int .i64 ad]] w fun e w' => e = .returned (.bool true) ∧ Below w.heap.size w w')
    (hVb : ∀ w, Calls Tryd.prog 15 #[.agg #[.int .i64 bn, .int .i64 bd]] w fun e w' => e = .returned (.bool true) ∧ Below w.heap.size w w')
    (hVc : ∀ w, Calls Tryd.prog 15 #[.agg #[.int .i64 cn, .int .i64 cd]] w fun e w' => e = .returned (.bool true) ∧ Below w.heap.size w w')
    (hSab : ∀ w, Calls Tryd.prog 17 #[.agg #[.int .i64 an, .int .i64 ad], .agg #[.int .i64 bn, .int .i64 bd]] w (Ret3 w 0 0 2))
    (hSba : ∀ w, Calls Tryd.prog 17 #[.agg #[.int .i64 bn, .int .i64 bd], .agg #[.int .i64 an, .int .i64 ad]] w (Ret3 w 0 0 2))
    (hPab : ∀ w, Calls Tryd.prog 18 #[.agg #[.int .i64 an, .int .i64 ad], .agg #[.int .i64 bn, .int .i64 bd]] w (Ret3 w 0 0 2))
    (hPba : ∀ w, Calls Tryd.prog 18 #[.agg #[.int .i64 bn, .int .i64 bd], .agg #[.int .i64 an, .int .i64 ad]] w (Ret3 w 0 0 2))
    (hU : ∀ w, Calls Tryd.prog 17 #[.agg #[.int .i64 bn, .int .i64 bd], .agg #[.int .i64 cn, .int .i64 cd]] w (Ret3 w un ud 0))
    (hV : ∀ w, Calls Tryd.prog 18 #[.agg #[.int .i64 bn, .int .i64 bd], .agg #[.int .i64 cn, .int .i64 cd]] w (Ret3 w vn vd ve))
    (hQ : ∀ w, Calls Tryd.prog 18 #[.agg #[.int .i64 an, .int .i64 ad], .agg #[.int .i64 cn, .int .i64 cd]] w (Ret3 w qn qd qe)) :
    Calls Tryd.prog 9 #[.agg #[.int .i64 an, .int .i64 ad], .agg #[.int .i64 bn, .int .i64 bd], .agg #[.int .i64 cn, .int .i64 cd]] w fun e w' => e = .returned (.bool true) ∧ Below w.heap.size w w' := by
  have HVa := Lib.hid hVa
  clear hVa
  have HVb := Lib.hid hVb
  clear hVb
  have HVc := Lib.hid hVc
  clear hVc
  have HSab := Lib.hid hSab
  clear hSab
  have HSba := Lib.hid hSba
  clear hSba
  have HPab := Lib.hid hPab
  clear hPab
  have HPba := Lib.hid hPba
  clear hPba
  have HU := Lib.hid hU
  clear hU
  have HV := Lib.hid hV
  clear hV
  have HQ := Lib.hid hQ
  clear hQ
  have T0 : Hid (Trk w w) := Lib.hid ⟨ht, Below.refl _ _⟩
  clear ht
  have T1 := Lib.hid (T0.out.alloc (.cells #[.int .i64 an, .int .i64 ad] 25))
  have A := Lib.hid (C2.new (w) (.int .i64 an) (.int .i64 ad) 25)
  have T2 := Lib.hid (T1.out.alloc (.cells #[.int .i64 bn, .int .i64 bd] 25))
  replace A := Lib.hid (A.out.alloc (.cells #[.int .i64 bn, .int .i64 bd] 25))
  have B := Lib.hid (C2.new ((w).alloc (.cells #[.int .i64 an, .int .i64 ad] 25)) (.int .i64 bn) (.int .i64 bd) 25)
  have T3 := Lib.hid (T2.out.alloc (.cells #[.int .i64 cn, .int .i64 cd] 25))
  replace A := Lib.hid (A.out.alloc (.cells #[.int .i64 cn, .int .i64 cd] 25))
  replace B := Lib.hid (B.out.alloc (.cells #[.int .i64 cn, .int .i64 cd] 25))
  have C := Lib.hid (C2.new (((w).alloc (.cells #[.int .i64 an, .int .i64 ad] 25)).alloc (.cells #[.int .i64 bn, .int .i64 bd] 25)) (.int .i64 cn) (.int .i64 cd) 25)
  go_enter Tryd.func9, Tryd.ntmps9
  go_wp2_with fail
  have hz : ((w).alloc (.cells #[.int .i64 an, .int .i64 ad] 25)).heap.size = w.heap.size + 1 := by simp
  rw [hz] at B
  clear hz
  have hz : (((w).alloc (.cells #[.int .i64 an, .int .i64 ad] 25)).alloc (.cells #[.int .i64 bn, .int .i64 bd] 25)).heap.size = w.heap.size + 2 := by simp
  rw [hz] at C
  clear hz
  generalize (((w).alloc (.cells #[.int .i64 an, .int .i64 ad] 25)).alloc (.cells #[.int .i64 bn, .int .i64 bd] 25)).alloc (.cells #[.int .i64 cn, .int .i64 cd] 25) = w3 at *
  refine (head01 _ T3.out.tabs).mono ?_
  rintro e w4 ⟨rfl, hb⟩
  have T4 := Lib.hid (T3.out.step hb)
  replace A := Lib.hid (A.out.step hb)
  replace B := Lib.hid (B.out.step hb)
  replace C := Lib.hid (C.out.step hb)
  clear hb
  obtain ⟨cA0, cA1⟩ := A.out.cells
  obtain ⟨cB0, cB1⟩ := B.out.cells
  obtain ⟨cC0, cC1⟩ := C.out.cells
  go_wp2_with fail
  refine (HVa.out _).mono ?_
  rintro e w5 ⟨rfl, hb⟩
  have T5 := Lib.hid (T4.out.step hb)
  replace A := Lib.hid (A.out.step hb)
  replace B := Lib.hid (B.out.step hb)
  replace C := Lib.hid (C.out.step hb)
  clear hb
  clear cA0 cA1 cB0 cB1 cC0 cC1
  obtain ⟨cA0, cA1⟩ := A.out.cells
  obtain ⟨cB0, cB1⟩ := B.out.cells
  obtain ⟨cC0, cC1⟩ := C.out.cells
  go_wp2_with fail
  refine (HVb.out _).mono ?_
  rintro e w6 ⟨rfl, hb⟩
  have T6 := Lib.hid (T5.out.step hb)
  replace A := Lib.hid (A.out.step hb)
  replace B := Lib.hid (B.out.step hb)
  replace C := Lib.hid (C.out.step hb)
  clear hb
  clear cA0 cA1 cB0 cB1 cC0 cC1
  obtain ⟨cA0, cA1⟩ := A.out.cells
  obtain ⟨cB0, cB1⟩ := B.out.cells
  obtain ⟨cC0, cC1⟩ := C.out.cells
  go_wp2_with fail
  refine (HVc.out _).mono ?_
  rintro e w7 ⟨rfl, hb⟩
  have T7 := Lib.hid (T6.out.step hb)
  replace A := Lib.hid (A.out.step hb)
  replace B := Lib.hid (B.out.step hb)
  replace C := Lib.hid (C.out.step hb)
  clear hb
  clear cA0 cA1 cB0 cB1 cC0 cC1
  obtain ⟨cA0, cA1⟩ := A.out.cells
  obtain ⟨cB0, cB1⟩ := B.out.cells
  obtain ⟨cC0, cC1⟩ := C.out.cells
  go_wp2_with fail
  refine (HSab.out _).mono ?_
  rintro e w8 ⟨rfl, hb⟩
  have T8 := Lib.hid (T7.out.step hb)
  replace A := Lib.hid (A.out.step hb)
  replace B := Lib.hid (B.out.step hb)
  replace C := Lib.hid (C.out.step hb)
  clear hb
  clear cA0 cA1 cB0 cB1 cC0 cC1
  have T9 := Lib.hid (T8.out.alloc (.cells #[.int .i64 0, .int .i64 0] 25))
  replace A := Lib.hid (A.out.alloc (.cells #[.int .i64 0, .int .i64 0] 25))
  replace B := Lib.hid (B.out.alloc (.cells #[.int .i64 0, .int .i64 0] 25))
  replace C := Lib.hid (C.out.alloc (.cells #[.int .i64 0, .int .i64 0] 25))
  have S1 := Lib.hid (C2.new w8 (.int .i64 0) (.int .i64 0) 25)
  obtain ⟨cA0, cA1⟩ := A.out.cells
  obtain ⟨cB0, cB1⟩ := B.out.cells
  obtain ⟨cC0, cC1⟩ := C.out.cells
  obtain ⟨cS10, cS11⟩ := S1.out.cells
  go_wp2_with fail
  generalize w8.alloc (.cells #[.int .i64 0, .int .i64 0] 25) = w9 at *
  generalize w8.heap.size = nS1 at *
  refine (HSba.out _).mono ?_
  rintro e w10 ⟨rfl, hb⟩
  have T10 := Lib.hid (T9.out.step hb)
  replace A := Lib.hid (A.out.step hb)
  replace B := Lib.hid (B.out.step hb)
  replace C := Lib.hid (C.out.step hb)
  replace S1 := Lib.hid (S1.out.step hb)
  clear hb
  clear cA0 cA1 cB0 cB1 cC0 cC1 cS10 cS11
  have T11 := Lib.hid (T10.out.alloc (.cells #[.int .i64 0, .int .i64 0] 25))
  replace A := Lib.hid (A.out.alloc (.cells #[.int .i64 0, .int .i64 0] 25))
  replace B := Lib.hid (B.out.alloc (.cells #[.int .i64 0, .int .i64 0] 25))
  replace C := Lib.hid (C.out.alloc (.cells #[.int .i64 0, .int .i64 0] 25))
  replace S1 := Lib.hid (S1.out.alloc (.cells #[.int .i64 0, .int .i64 0] 25))
  have S2 := Lib.hid (C2.new w10 (.int .i64 0) (.int .i64 0) 25)
  obtain ⟨cA0, cA1⟩ := A.out.cells
  obtain ⟨cB0, cB1⟩ := B.out.cells
  obtain ⟨cC0, cC1⟩ := C.out.cells
  obtain ⟨cS10, cS11⟩ := S1.out.cells
  obtain ⟨cS20, cS21⟩ := S2.out.cells
  go_wp2_with fail
  generalize w10.alloc (.cells #[.int .i64 0, .int .i64 0] 25) = w11 at *
  generalize w10.heap.size = nS2 at *
  refine (HPab.out _).mono ?_
  rintro e w12 ⟨rfl, hb⟩
  have T12 := Lib.hid (T11.out.step hb)
  replace A := Lib.hid (A.out.step hb)
  replace B := Lib.hid (B.out.step hb)
  replace C := Lib.hid (C.out.step hb)
  replace S1 := Lib.hid (S1.out.step hb)
  replace S2 := Lib.hid (S2.out.step hb)
  clear hb
  clear cA0 cA1 cB0 cB1 cC0 cC1 cS10 cS11 cS20 cS21
  have T13 := Lib.hid (T12.out.alloc (.cells #[.int .i64 0, .int .i64 0] 25))
  replace A := Lib.hid (A.out.alloc (.cells #[.int .i64 0, .int .i64 0] 25))
  replace B := Lib.hid (B.out.alloc (.cells #[.int .i64 0, .int .i64 0] 25))
  replace C := Lib.hid (C.out.alloc (.cells #[.int .i64 0, .int .i64 0] 25))
  replace S1 := Lib.hid (S1.out.alloc (.cells #[.int .i64 0, .int .i64 0] 25))
  replace S2 := Lib.hid (S2.out.alloc (.cells #[.int .i64 0, .int .i64 0] 25))
  have P1 := Lib.hid (C2.new w12 (.int .i64 0) (.int .i64 0) 25)
  obtain ⟨cA0, cA1⟩ := A.out.cells
  obtain ⟨cB0, cB1⟩ := B.out.cells
  obtain ⟨cC0, cC1⟩ := C.out.cells
  obtain ⟨cS10, cS11⟩ := S1.out.cells
  obtain ⟨cS20, cS21⟩ := S2.out.cells
  obtain ⟨cP10, cP11⟩ := P1.out.cells
  go_wp2_with fail
  generalize w12.alloc (.cells #[.int .i64 0, .int .i64 0] 25) = w13 at *
  generalize w12.heap.size = nP1 at *
  refine (HPba.out _).mono ?_
  rintro e w14 ⟨rfl, hb⟩
  have T14 := Lib.hid (T13.out.step hb)
  replace A := Lib.hid (A.out.step hb)
  replace B := Lib.hid (B.out.step hb)
  replace C := Lib.hid (C.out.step hb)
  replace S1 := Lib.hid (S1.out.step hb)
  replace S2 := Lib.hid (S2.out.step hb)
  replace P1 := Lib.hid (P1.out.step hb)
  clear hb
  clear cA0 cA1 cB0 cB1 cC0 cC1 cS10 cS11 cS20 cS21 cP10 cP11
  have T15 := Lib.hid (T14.out.alloc (.cells #[.int .i64 0, .int .i64 0] 25))
  replace A := Lib.hid (A.out.alloc (.cells #[.int .i64 0, .int .i64 0] 25))
  replace B := Lib.hid (B.out.alloc (.cells #[.int .i64 0, .int .i64 0] 25))
  replace C := Lib.hid (C.out.alloc (.cells #[.int .i64 0, .int .i64 0] 25))
  replace S1 := Lib.hid (S1.out.alloc (.cells #[.int .i64 0, .int .i64 0] 25))
  replace S2 := Lib.hid (S2.out.alloc (.cells #[.int .i64 0, .int .i64 0] 25))
  replace P1 := Lib.hid (P1.out.alloc (.cells #[.int .i64 0, .int .i64 0] 25))
  have P2 := Lib.hid (C2.new w14 (.int .i64 0) (.int .i64 0) 25)
  obtain ⟨cA0, cA1⟩ := A.out.cells
  obtain ⟨cB0, cB1⟩ := B.out.cells
  obtain ⟨cC0, cC1⟩ := C.out.cells
  obtain ⟨cS10, cS11⟩ := S1.out.cells
  obtain ⟨cS20, cS21⟩ := S2.out.cells
  obtain ⟨cP10, cP11⟩ := P1.out.cells
  obtain ⟨cP20, cP21⟩ := P2.out.cells
  go_wp2_with fail
  generalize w14.alloc (.cells #[.int .i64 0, .int .i64 0] 25) = w15 at *
  generalize w14.heap.size = nP2 at *
  clear cS20
  clear cS21
  clear cP20
  clear cP21
  clear S2 P2
  refine (HU.out _).mono ?_
  rintro e w16 ⟨rfl, hb⟩
  have T16 := Lib.hid (T15.out.step hb)
  replace A := Lib.hid (A.out.step hb)
  replace B := Lib.hid (B.out.step hb)
  replace C := Lib.hid (C.out.step hb)
  replace S1 := Lib.hid (S1.out.step hb)
  replace P1 := Lib.hid (P1.out.step hb)
  clear hb
  clear cA0 cA1 cB0 cB1 cC0 cC1 cS10 cS11 cP10 cP11
  have T17 := Lib.hid (T16.out.alloc (.cells #[.int .i64 un, .int .i64 ud] 25))
  replace A := Lib.hid (A.out.alloc (.cells #[.int .i64 un, .int .i64 ud] 25))
  replace B := Lib.hid (B.out.alloc (.cells #[.int .i64 un, .int .i64 ud] 25))
  replace C := Lib.hid (C.out.alloc (.cells #[.int .i64 un, .int .i64 ud] 25))
  replace S1 := Lib.hid (S1.out.alloc (.cells #[.int .i64 un, .int .i64 ud] 25))
  replace P1 := Lib.hid (P1.out.alloc (.cells #[.int .i64 un, .int .i64 ud] 25))
  have U1 := Lib.hid (C2.new w16 (.int .i64 un) (.int .i64 ud) 25)
  obtain ⟨cA0, cA1⟩ := A.out.cells
  obtain ⟨cB0, cB1⟩ := B.out.cells
  obtain ⟨cC0, cC1⟩ := C.out.cells
  obtain ⟨cS10, cS11⟩ := S1.out.cells
  obtain ⟨cP10, cP11⟩ := P1.out.cells
  obtain ⟨cU10, cU11⟩ := U1.out.cells
  go_wp2_with fail
  generalize w16.alloc (.cells #[.int .i64 un, .int .i64 ud] 25) = w17 at *
  generalize w16.heap.size = nU1 at *
  refine (HV.out _).mono ?_
  rintro e w18 ⟨rfl, hb⟩
  have T18 := Lib.hid (T17.out.step hb)
  replace A := Lib.hid (A.out.step hb)
  replace B := Lib.hid (B.out.step hb)
  replace C := Lib.hid (C.out.step hb)
  replace S1 := Lib.hid (S1.out.step hb)
  replace P1 := Lib.hid (P1.out.step hb)
  replace U1 := Lib.hid (U1.out.step hb)
  clear hb
  clear cA0 cA1 cB0 cB1 cC0 cC1 cS10 cS11 cP10 cP11 cU10 cU11
  have T19 := Lib.hid (T18.out.alloc (.cells #[.int .i64 vn, .int .i64 vd] 25))
  replace A := Lib.hid (A.out.alloc (.cells #[.int .i64 vn, .int .i64 vd] 25))
  replace B := Lib.hid (B.out.alloc (.cells #[.int .i64 vn, .int .i64 vd] 25))
  replace C := Lib.hid (C.out.alloc (.cells #[.int .i64 vn, .int .i64 vd] 25))
  replace S1 := Lib.hid (S1.out.alloc (.cells #[.int .i64 vn, .int .i64 vd] 25))
  replace P1 := Lib.hid (P1.out.alloc (.cells #[.int .i64 vn, .int .i64 vd] 25))
  replace U1 := Lib.hid (U1.out.alloc (.cells #[.int .i64 vn, .int .i64 vd] 25))
  have V1 := Lib.hid (C2.new w18 (.int .i64 vn) (.int .i64 vd) 25)
  obtain ⟨cA0, cA1⟩ := A.out.cells
  obtain ⟨cB0, cB1⟩ := B.out.cells
  obtain ⟨cC0, cC1⟩ := C.out.cells
  obtain ⟨cS10, cS11⟩ := S1.out.cells
  obtain ⟨cP10, cP11⟩ := P1.out.cells
  obtain ⟨cU10, cU11⟩ := U1.out.cells
  obtain ⟨cV10, cV11⟩ := V1.out.cells
  go_wp2_with fail
  generalize w18.alloc (.cells #[.int .i64 vn, .int .i64 vd] 25) = w19 at *
  generalize w18.heap.size = nV1 at *
  refine (HQ.out _).mono ?_
  rintro e w20 ⟨rfl, hb⟩
  have T20 := Lib.hid (T19.out.step hb)
  replace A := Lib.hid (A.out.step hb)
  replace B := Lib.hid (B.out.step hb)
  replace C := Lib.hid (C.out.step hb)
  replace S1 := Lib.hid (S1.out.step hb)
  replace P1 := Lib.hid (P1.out.step hb)
  replace U1 := Lib.hid (U1.out.step hb)
  replace V1 := Lib.hid (V1.out.step hb)
  clear hb
  clear cA0 cA1 cB0 cB1 cC0 cC1 cS10 cS11 cP10 cP11 cU10 cU11 cV10 cV11
  have T21 := Lib.hid (T20.out.alloc (.cells #[.int .i64 qn, .int .i64 qd] 25))
  replace A := Lib.hid (A.out.alloc (.cells #[.int .i64 qn, .int .i64 qd] 25))
  replace B := Lib.hid (B.out.alloc (.cells #[.int .i64 qn, .int .i64 qd] 25))
  replace C := Lib.hid (C.out.alloc (.cells #[.int .i64 qn, .int .i64 qd] 25))
  replace S1 := Lib.hid (S1.out.alloc (.cells #[.int .i64 qn, .int .i64 qd] 25))
  replace P1 := Lib.hid (P1.out.alloc (.cells #[.int .i64 qn, .int .i64 qd] 25))
  replace U1 := Lib.hid (U1.out.alloc (.cells #[.int .i64 qn, .int .i64 qd] 25))
  replace V1 := Lib.hid (V1.out.alloc (.cells #[.int .i64 qn, .int .i64 qd] 25))
  have Q1 := Lib.hid (C2.new w20 (.int .i64 qn) (.int .i64 qd) 25)
  obtain ⟨cA0, cA1⟩ := A.out.cells
  obtain ⟨cB0, cB1⟩ := B.out.cells
  obtain ⟨cC0, cC1⟩ := C.out.cells
  obtain ⟨cS10, cS11⟩ := S1.out.cells
  obtain ⟨cP10, cP11⟩ := P1.out.cells
  obtain ⟨cU10, cU11⟩ := U1.out.cells
  obtain ⟨cV10, cV11⟩ := V1.out.cells
  obtain ⟨cQ10, cQ11⟩ := Q1.out.cells
  go_wp2_with fail
  generalize w20.alloc (.cells #[.int .i64 qn, .int .i64 qd] 25) = w21 at *
  generalize w20.heap.size = nQ1 at *
  go_ret
  exact ⟨by first | rfl | simp, T21.out.bel⟩
set_option maxHeartbeats 4000000 in
set_option maxRecDepth 100000 in
theorem field_01012 (an ad bn bd cn cd pn pd vn vd qn qd qe yn yd ye : Int) (w : World) (ht : Tabs w)
    (hVa : ∀ w, Calls Tryd.prog 15 #[.agg #[.int .i64 an, .int .i64 ad]] w fun e w' => e = .returned (.bool true) ∧ Below w.heap.size w w')
    (hVb : ∀ w, Calls Tryd.prog 15 #[.agg #[.int .i64 bn, .int .i64 bd]] w fun e w' => e = .returned (.bool true) ∧ Below w.heap.size w w')
    (hVc : ∀ w, Calls Tryd.prog 15 #[.agg #[.int .i64 cn, .int .i64 cd]] w fun e w' => e = .returned (.bool true) ∧ Below w.heap.size w w')
    (hSab : ∀ w, Calls Tryd.prog 17 #[.agg #[.int .i64 an, .int .i64 ad], .agg #[.int .i64 bn, .int .i64 bd]] w (Ret3 w 0 0 2))
    (hSba : ∀ w, Calls Tryd.prog 17 #[.agg #[.int .i64 bn, .int .i64 bd], .agg #[.int .i64 an, .int .i64 ad]] w (Ret3 w 0 0 2))
    (hPab : ∀ w, Calls Tryd.prog 18 #[.agg #[.int .i64 an, .int .i64 ad], .agg #[.int .i64 bn, .int .i64 bd]] w (Ret3 w pn pd 0))
    (hPba : ∀ w, Calls Tryd.prog 18 #[.agg #[.int .i64 bn, .int .i64 bd], .agg #[.int .i64 an, .int .i64 ad]] w (Ret3 w pn pd 0))
    (hb0 : (bn != 0) = false)
    (hU : ∀ w, Calls Tryd.prog 17 #[.agg #[.int .i64 bn, .int .i64 bd], .agg #[.int .i64 cn, .int .i64 cd]] w (Ret3 w 0 0 2))
    (hV : ∀ w, Calls Tryd.prog 18 #[.agg #[.int .i64 bn, .int .i64 bd], .agg #[.int .i64 cn, .int .i64 cd]] w (Ret3 w vn vd 0))
    (hQ : ∀ w, Calls Tryd.prog 18 #[.agg #[.int .i64 an, .int .i64 ad], .agg #[.int .i64 cn, .int .i64 cd]] w (Ret3 w qn qd qe))
    (hY1 : ∀ w, Calls Tryd.prog 18 #[.agg #[.int .i64 pn, .int .i64 pd], .agg #[.int .i64 cn, .int .i64 cd]] w (Ret3 w yn yd ye))
    (hY2 : ∀ w, Calls Tryd.prog 18 #[.agg #[.int .i64 an, .int .i64 ad], .agg #[.int .i64 vn, .int .i64 vd]] w (Ret3 w yn yd ye)) :
    Calls Tryd.prog 9 #[.agg #[.int .i64 an, .int .i64 ad], .agg #[.int .i64 bn, .int .i64 bd], .agg #[.int .i64 cn, .int .i64 cd]] w fun e w' => e = .returned (.bool true) ∧ Below w.heap.size w w' := by
  have HVa := Lib.hid hVa
  clear hVa
  have HVb := Lib.hid hVb
  clear hVb
  have HVc := Lib.hid hVc
  clear hVc
  have HSab := Lib.hid hSab
  clear hSab
  have HSba := Lib.hid hSba
  clear hSba
  have HPab := Lib.hid hPab
  clear hPab
  have HPba := Lib.hid hPba
  clear hPba
  have HU := Lib.hid hU
  clear hU
  have HV := Lib.hid hV
  clear hV
  have HQ := Lib.hid hQ
  clear hQ
  have HY1 := Lib.hid hY1
  clear hY1
  have HY2 := Lib.hid hY2
  clear hY2
  have T0 : Hid (Trk w w) := Lib.hid ⟨ht, Below.refl _ _⟩
  clear ht
  have T1 := Lib.hid (T0.out.alloc (.cells #[.int .i64 an, .int .i64 ad] 25))
  have A := Lib.hid (C2.new (w) (.int .i64 an) (.int .i64 ad) 25)
  have T2 := Lib.hid (T1.out.alloc (.cells #[.int .i64 bn, .int .i64 bd] 25))
  replace A := Lib.hid (A.out.alloc (.cells #[.int .i64 bn, .int .i64 bd] 25))
  have B := Lib.hid (C2.new ((w).alloc (.cells #[.int .i64 an, .int .i64 ad] 25)) (.int .i64 bn) (.int .i64 bd) 25)
  have T3 := Lib.hid (T2.out.alloc (.cells #[.int .i64 cn, .int .i64 cd] 25))
  replace A := Lib.hid (A.out.alloc (.cells #[.int .i64 cn, .int .i64 cd] 25))
  replace B := Lib.hid (B.out.alloc (.cells #[.int .i64 cn, .int .i64 cd] 25))
  have C := Lib.hid (C2.new (((w).alloc (.cells #[.int .i64 an, .int .i64 ad] 25)).alloc (.cells #[.int .i64 bn, .int .i64 bd] 25)) (.int .i64 cn) (.int .i64 cd) 25)
  go_enter Tryd.func9, Tryd.ntmps9
  go_wp2_with fail
  have hz : ((w).alloc (.cells #[.int .i64 an, .int .i64 ad] 25)).heap.size = w.heap.size + 1 := by simp
  rw [hz] at B
  clear hz
  have hz : (((w).alloc (.cells #[.int .i64 an, .int .i64 ad] 25)).alloc (.cells #[.int .i64 bn, .int .i64 bd] 25)).heap.size = w.heap.size + 2 := by simp
  rw [hz] at C
  clear hz
  generalize (((w).alloc (.cells #[.int .i64 an, .int .i64 ad] 25)).alloc (.cells #[.int .i64 bn, .int .i64 bd] 25)).alloc (.cells #[.int .i64 cn, .int .i64 cd] 25) = w3 at *
  refine (head01 _ T3.out.tabs).mono ?_
  rintro e w4 ⟨rfl, hb⟩
  have T4 := Lib.hid (T3.out.step hb)
  replace A := Lib.hid (A.out.step hb)
  replace B := Lib.hid (B.out.step hb)
  replace C := Lib.hid (C.out.step hb)
  clear hb
  obtain ⟨cA0, cA1⟩ := A.out.cells
  obtain ⟨cB0, cB1⟩ := B.out.cells
  obtain ⟨cC0, cC1⟩ := C.out.cells
  go_wp2_with fail
  refine (HVa.out _).mono ?_
  rintro e w5 ⟨rfl, hb⟩
  have T5 := Lib.hid (T4.out.step hb)
  replace A := Lib.hid (A.out.step hb)
  replace B := Lib.hid (B.out.step hb)
  replace C := Lib.hid (C.out.step hb)
  clear hb
  clear cA0 cA1 cB0 cB1 cC0 cC1
  obtain ⟨cA0, cA1⟩ := A.out.cells
  obtain ⟨cB0, cB1⟩ := B.out.cells
  obtain ⟨cC0, cC1⟩ := C.out.cells
  go_wp2_with fail
  refine (HVb.out _).mono ?_
  rintro e w6 ⟨rfl, hb⟩
  have T6 := Lib.hid (T5.out.step hb)
  replace A := Lib.hid (A.out.step hb)
  replace B := Lib.hid (B.out.step hb)
  replace C := Lib.hid (C.out.step hb)
  clear hb
  clear cA0 cA1 cB0 cB1 cC0 cC1
  obtain ⟨cA0, cA1⟩ := A.out.cells
  obtain ⟨cB0, cB1⟩ := B.out.cells
  obtain ⟨cC0, cC1⟩ := C.out.cells
  go_wp2_with fail
  refine (HVc.out _).mono ?_
  rintro e w7 ⟨rfl, hb⟩
  have T7 := Lib.hid (T6.out.step hb)
  replace A := Lib.hid (A.out.step hb)
  replace B := Lib.hid (B.out.step hb)
  replace C := Lib.hid (C.out.step hb)
  clear hb
  clear cA0 cA1 cB0 cB1 cC0 cC1
  obtain ⟨cA0, cA1⟩ := A.out.cells
  obtain ⟨cB0, cB1⟩ := B.out.cells
  obtain ⟨cC0, cC1⟩ := C.out.cells
  go_wp2_with fail
  refine (HSab.out _).mono ?_
  rintro e w8 ⟨rfl, hb⟩
  have T8 := Lib.hid (T7.out.step hb)
  replace A := Lib.hid (A.out.step hb)
  replace B := Lib.hid (B.out.step hb)
  replace C := Lib.hid (C.out.step hb)
  clear hb
  clear cA0 cA1 cB0 cB1 cC0 cC1
  have T9 := Lib.hid (T8.out.alloc (.cells #[.int .i64 0, .int .i64 0] 25))
  replace A := Lib.hid (A.out.alloc (.cells #[.int .i64 0, .int .i64 0] 25))
  replace B := Lib.hid (B.out.alloc (.cells #[.int .i64 0, .int .i64 0] 25))
  replace C := Lib.hid (C.out.alloc (.cells #[.int .i64 0, .int .i64 0] 25))
  have S1 := Lib.hid (C2.new w8 (.int .i64 0) (.int .i64 0) 25)
  obtain ⟨cA0, cA1⟩ := A.out.cells
  obtain ⟨cB0, cB1⟩ := B.out.cells
  obtain ⟨cC0, cC1⟩ := C.out.cells
  obtain ⟨cS10, cS11⟩ := S1.out.cells
  go_wp2_with fail
  generalize w8.alloc (.cells #[.int .i64 0, .int .i64 0] 25) = w9 at *
  generalize w8.heap.size = nS1 at *
  refine (HSba.out _).mono ?_
  rintro e w10 ⟨rfl, hb⟩
  have T10 := Lib.hid (T9.out.step hb)
  replace A := Lib.hid (A.out.step hb)
  replace B := Lib.hid (B.out.step hb)
  replace C := Lib.hid (C.out.step hb)
  replace S1 := Lib.hid (S1.out.step hb)
  clear hb
  clear cA0 cA1 cB0 cB1 cC0 cC1 cS10 cS11
  have T11 := Lib.hid (T10.out.alloc (.cells #[.int .i64 0, .int .i64 0] 25))
  replace A := Lib.hid (A.out.alloc (.cells #[.int .i64 0, .int .i64 0] 25))
  replace B := Lib.hid (B.out.alloc (.cells #[.int .i64 0, .int .i64 0] 25))
  replace C := Lib.hid (C.out.alloc (.cells #[.int .i64 0, .int .i64 0] 25))
  replace S1 := Lib.hid (S1.out.alloc (.cells #[.int .i64 0, .int .i64 0] 25))
  have S2 := Lib.hid (C2.new w10 (.int .i64 0) (.int .i64 0) 25)
  obtain ⟨cA0, cA1⟩ := A.out.cells
  obtain ⟨cB0, cB1⟩ := B.out.cells
  obtain ⟨cC0, cC1⟩ := C.out.cells
  obtain ⟨cS10, cS11⟩ := S1.out.cells
  obtain ⟨cS20, cS21⟩ := S2.out.cells
  go_wp2_with fail
  generalize w10.alloc (.cells #[.int .i64 0, .int .i64 0] 25) = w11 at *
  generalize w10.heap.size = nS2 at *
  refine (HPab.out _).mono ?_
  rintro e w12 ⟨rfl, hb⟩
  have T12 := Lib.hid (T11.out.step hb)
  replace A := Lib.hid (A.out.step hb)
  replace B := Lib.hid (B.out.step hb)
  replace C := Lib.hid (C.out.step hb)
  replace S1 := Lib.hid (S1.out.step hb)
  replace S2 := Lib.hid (S2.out.step hb)
  clear hb
  clear cA0 cA1 cB0 cB1 cC0 cC1 cS10 cS11 cS20 cS21
  have T13 := Lib.hid (T12.out.alloc (.cells #[.int .i64 pn, .int .i64 pd] 25))
  replace A := Lib.hid (A.out.alloc (.cells #[.int .i64 pn, .int .i64 pd] 25))
  replace B := Lib.hid (B.out.alloc (.cells #[.int .i64 pn, .int .i64 pd] 25))
  replace C := Lib.hid (C.out.alloc (.cells #[.int .i64 pn, .int .i64 pd] 25))
  replace S1 := Lib.hid (S1.out.alloc (.cells #[.int .i64 pn, .int .i64 pd] 25))
  replace S2 := Lib.hid (S2.out.alloc (.cells #[.int .i64 pn, .int .i64 pd] 25))
  have P1 := Lib.hid (C2.new w12 (.int .i64 pn) (.int .i64 pd) 25)
  obtain ⟨cA0, cA1⟩ := A.out.cells
  obtain ⟨cB0, cB1⟩ := B.out.cells
  obtain ⟨cC0, cC1⟩ := C.out.cells
  obtain ⟨cS10, cS11⟩ := S1.out.cells
  obtain ⟨cS20, cS21⟩ := S2.out.cells
  obtain ⟨cP10, cP11⟩ := P1.out.cells
  go_wp2_with fail
  generalize w12.alloc (.cells #[.int .i64 pn, .int .i64 pd] 25) = w13 at *
  generalize w12.heap.size = nP1 at *
  refine (HPba.out _).mono ?_
  rintro e w14 ⟨rfl, hb⟩
  have T14 := Lib.hid (T13.out.step hb)
  replace A := Lib.hid (A.out.step hb)
  replace B := Lib.hid (B.out.step hb)
  replace C := Lib.hid (C.out.step hb)
  replace S1 := Lib.hid (S1.out.step hb)
  replace S2 := Lib.hid (S2.out.step hb)
  replace P1 := Lib.hid (P1.out.step hb)
  clear hb
  clear cA0 cA1 cB0 cB1 cC0 cC1 cS10 cS11 cS20 cS21 cP10 cP11
  have T15 := Lib.hid (T14.out.alloc (.cells #[.int .i64 pn, .int .i64 pd] 25))
  replace A := Lib.hid (A.out.alloc (.cells #[.int .i64 pn, .int .i64 pd] 25))
  replace B := Lib.hid (B.out.alloc (.cells #[.int .i64 pn, .int .i64 pd] 25))
  replace C := Lib.hid (C.out.alloc (.cells #[.int .i64 pn, .int .i64 pd] 25))
  replace S1 := Lib.hid (S1.out.alloc (.cells #[.int .i64 pn, .int .i64 pd] 25))
  replace S2 := Lib.hid (S2.out.alloc (.cells #[.int .i64 pn, .int .i64 pd] 25))
  replace P1 := Lib.hid (P1.out.alloc (.cells #[.int .i64 pn, .int .i64 pd] 25))
  have P2 := Lib.hid (C2.new w14 (.int .i64 pn) (.int .i64 pd) 25)
  obtain ⟨cA0, cA1⟩ := A.out.cells
  obtain ⟨cB0, cB1⟩ := B.out.cells
  obtain ⟨cC0, cC1⟩ := C.out.cells
  obtain ⟨cS10, cS11⟩ := S1.out.cells
  obtain ⟨cS20, cS21⟩ := S2.out.cells
  obtain ⟨cP10, cP11⟩ := P1.out.cells
  obtain ⟨cP20, cP21⟩ := P2.out.cells
  go_wp2_with fail
  generalize w14.alloc (.cells #[.int .i64 pn, .int .i64 pd] 25) = w15 at *
  generalize w14.heap.size = nP2 at *
  clear cS20
  clear cS21
  clear cP20
  clear cP21
  clear S2 P2
  refine (HU.out _).mono ?_
  rintro e w16 ⟨rfl, hb⟩
  have T16 := Lib.hid (T15.out.step hb)
  replace A := Lib.hid (A.out.step hb)
  replace B := Lib.hid (B.out.step hb)
  replace C := Lib.hid (C.out.step hb)
  replace S1 := Lib.hid (S1.out.step hb)
  replace P1 := Lib.hid (P1.out.step hb)
  clear hb
  clear cA0 cA1 cB0 cB1 cC0 cC1 cS10 cS11 cP10 cP11
  have T17 := Lib.hid (T16.out.alloc (.cells #[.int .i64 0, .int .i64 0] 25))
  replace A := Lib.hid (A.out.alloc (.cells #[.int .i64 0, .int .i64 0] 25))
  replace B := Lib.hid (B.out.alloc (.cells #[.int .i64 0, .int .i64 0] 25))
  replace C := Lib.hid (C.out.alloc (.cells #[.int .i64 0, .int .i64 0] 25))
  replace S1 := Lib.hid (S1.out.alloc (.cells #[.int .i64 0, .int .i64 0] 25))
  replace P1 := Lib.hid (P1.out.alloc (.cells #[.int .i64 0, .int .i64 0] 25))
  have U1 := Lib.hid (C2.new w16 (.int .i64 0) (.int .i64 0) 25)
  obtain ⟨cA0, cA1⟩ := A.out.cells
  obtain ⟨cB0, cB1⟩ := B.out.cells
  obtain ⟨cC0, cC1⟩ := C.out.cells
  obtain ⟨cS10, cS11⟩ := S1.out.cells
  obtain ⟨cP10, cP11⟩ := P1.out.cells
  obtain ⟨cU10, cU11⟩ := U1.out.cells
  go_wp2_with fail
  generalize w16.alloc (.cells #[.int .i64 0, .int .i64 0] 25) = w17 at *
  generalize w16.heap.size = nU1 at *
  refine (HV.out _).mono ?_
  rintro e w18 ⟨rfl, hb⟩
  have T18 := Lib.hid (T17.out.step hb)
  replace A := Lib.hid (A.out.step hb)
  replace B := Lib.hid (B.out.step hb)
  replace C := Lib.hid (C.out.step hb)
  replace S1 := Lib.hid (S1.out.step hb)
  replace P1 := Lib.hid (P1.out.step hb)
  replace U1 := Lib.hid (U1.out.step hb)
  clear hb
  clear cA0 cA1 cB0 cB1 cC0 cC1 cS10 cS11 cP10 cP11 cU10 cU11
  have T19 := Lib.hid (T18.out.alloc (.cells #[.int .i64 vn, .int .i64 vd] 25))
  replace A := Lib.hid (A.out.alloc (.cells #[.int .i64 vn, .int .i64 vd] 25))
  replace B := Lib.hid (B.out.alloc (.cells #[.int .i64 vn, .int .i64 vd] 25))
  replace C := Lib.hid (C.out.alloc (.cells #[.int .i64 vn, .int .i64 vd] 25))
  replace S1 := Lib.hid (S1.out.alloc (.cells #[.int .i64 vn, .int .i64 vd] 25))
  replace P1 := Lib.hid (P1.out.alloc (.cells #[.int .i64 vn, .int .i64 vd] 25))
  replace U1 := Lib.hid (U1.out.alloc (.cells #[.int .i64 vn, .int .i64 vd] 25))
  have V1 := Lib.hid (C2.new w18 (.int .i64 vn) (.int .i64 vd) 25)
  obtain ⟨cA0, cA1⟩ := A.out.cells
  obtain ⟨cB0, cB1⟩ := B.out.cells
  obtain ⟨cC0, cC1⟩ := C.out.cells
  obtain ⟨cS10, cS11⟩ := S1.out.cells
  obtain ⟨cP10, cP11⟩ := P1.out.cells
  obtain ⟨cU10, cU11⟩ := U1.out.cells
  obtain ⟨cV10, cV11⟩ := V1.out.cells
  go_wp2_with fail
  generalize w18.alloc (.cells #[.int .i64 vn, .int .i64 vd] 25) = w19 at *
  generalize w18.heap.size = nV1 at *
  refine (HQ.out _).mono ?_
  rintro e w20 ⟨rfl, hb⟩
  have T20 := Lib.hid (T19.out.step hb)
  replace A := Lib.hid (A.out.step hb)
  replace B := Lib.hid (B.out.step hb)
  replace C := Lib.hid (C.out.step hb)
  replace S1 := Lib.hid (S1.out.step hb)
  replace P1 := Lib.hid (P1.out.step hb)
  replace U1 := Lib.hid (U1.out.step hb)
  replace V1 := Lib.hid (V1.out.step hb)
  clear hb
  clear cA0 cA1 cB0 cB1 cC0 cC1 cS10 cS11 cP10 cP11 cU10 cU11 cV10 cV11
  have T21 := Lib.hid (T20.out.alloc (.cells #[.int .i64 qn, .int .i64 qd] 25))
  replace A := Lib.hid (A.out.alloc (.cells #[.int .i64 qn, .int .i64 qd] 25))
  replace B := Lib.hid (B.out.alloc (.cells #[.int .i64 qn, .int .i64 qd] 25))
  replace C := Lib.hid (C.out.alloc (.cells #[.int .i64 qn, .int .i64 qd] 25))
  replace S1 := Lib.hid (S1.out.alloc (.cells #[.int .i64 qn, .int .i64 qd] 25))
  replace P1 := Lib.hid (P1.out.alloc (.cells #[.int .i64 qn, .int .i64 qd] 25))
  replace U1 := Lib.hid (U1.out.alloc (.cells #[.int .i64 qn, .int .i64 qd] 25))
  replace V1 := Lib.hid (V1.out.alloc (.cells #[.int .i64 qn, .int .i64 qd] 25))
  have Q1 := Lib.hid (C2.new w20 (.int .i64 qn) (.int .i64 qd) 25)
  obtain ⟨cA0, cA1⟩ := A.out.cells
  obtain ⟨cB0, cB1⟩ := B.out.cells
  obtain ⟨cC0, cC1⟩ := C.out.cells
  obtain ⟨cS10, cS11⟩ := S1.out.cells
  obtain ⟨cP10, cP11⟩ := P1.out.cells
  obtain ⟨cU10, cU11⟩ := U1.out.cells
  obtain ⟨cV10, cV11⟩ := V1.out.cells
  obtain ⟨cQ10, cQ11⟩ := Q1.out.cells
  go_wp2_with fail
  generalize w20.alloc (.cells #[.int .i64 qn, .int .i64 qd] 25) = w21 at *
  generalize w20.heap.size = nQ1 at *
  refine (HY1.out _).mono ?_
  rintro e w22 ⟨rfl, hb⟩
  have T22 := Lib.hid (T21.out.step hb)
  replace A := Lib.hid (A.out.step hb)
  replace B := Lib.hid (B.out.step hb)
  replace C := Lib.hid (C.out.step hb)
  replace S1 := Lib.hid (S1.out.step hb)
  replace P1 := Lib.hid (P1.out.step hb)
  replace U1 := Lib.hid (U1.out.step hb)
  replace V1 := Lib.hid (V1.out.step hb)
  replace Q1 := Lib.hid (Q1.out.step hb)
  clear hb
  clear cA0 cA1 cB0 cB1 cC0 cC1 cS10 cS11 cP10 cP11 cU10 cU11 cV10 cV11 cQ10 cQ11
  have T23 := Lib.hid (T22.out.alloc (.cells #[.int .i64 yn, .int .i64 yd] 25))
  replace A := Lib.hid (A.out.alloc (.cells #[.int .i64 yn, .int .i64 yd] 25))
  replace B := Lib.hid (B.out.alloc (.cells #[.int .i64 yn, .int .i64 yd] 25))
  replace C := Lib.hid (C.out.alloc (.cells #[.int .i64 yn, .int .i64 yd] 25))
  replace S1 := Lib.hid (S1.out.alloc (.cells #[.int .i64 yn, .int .i64 yd] 25))
  replace P1 := Lib.hid (P1.out.alloc (.cells #[.int .i64 yn, .int .i64 yd] 25))
  replace U1 := Lib.hid (U1.out.alloc (.cells #[.int .i64 yn, .int .i64 yd] 25))
  replace V1 := Lib.hid (V1.out.alloc (.cells #[.int .i64 yn, .int .i64 yd] 25))
  replace Q1 := Lib.hid (Q1.out.alloc (.cells #[.int .i64 yn, .int .i64 yd] 25))
  have Y1b := Lib.hid (C2.new w22 (.int .i64 yn) (.int .i64 yd) 25)
  obtain ⟨cA0, cA1⟩ := A.out.cells
  obtain ⟨cB0, cB1⟩ := B.out.cells
  obtain ⟨cC0, cC1⟩ := C.out.cells
  obtain ⟨cS10, cS11⟩ := S1.out.cells
  obtain ⟨cP10, cP11⟩ := P1.out.cells
  obtain ⟨cU10, cU11⟩ := U1.out.cells
  obtain ⟨cV10, cV11⟩ := V1.out.cells
  obtain ⟨cQ10, cQ11⟩ := Q1.out.cells
  obtain ⟨cY1b0, cY1b1⟩ := Y1b.out.cells
  go_wp2_with fail
  generalize w22.alloc (.cells #[.int .i64 yn, .int .i64 yd] 25) = w23 at *
  generalize w22.heap.size = nY1b at *
  refine (HY2.out _).mono ?_
  rintro e w24 ⟨rfl, hb⟩
  have T24 := Lib.hid (T23.out.step hb)
  replace A := Lib.hid (A.out.step hb)
  replace B := Lib.hid (B.out.step hb)
  replace C := Lib.hid (C.out.step hb)
  replace S1 := Lib.hid (S1.out.step hb)
  replace P1 := Lib.hid (P1.out.step hb)
  replace U1 := Lib.hid (U1.out.step hb)
  replace V1 := Lib.hid (V1.out.step hb)
  replace Q1 := Lib.hid (Q1.out.step hb)
  replace Y1b := Lib.hid (Y1b.out.step hb)
  clear hb
  clear cA0 cA1 cB0 cB1 cC0 cC1 cS10 cS11 cP10 cP11 cU10 cU11 cV10 cV11 cQ10 cQ11 cY1b0 cY1b1
  have T25 := Lib.hid (T24.out.alloc (.cells #[.int .i64 yn, .int .i64 yd] 25))
  replace A := Lib.hid (A.out.alloc (.cells #[.int .i64 yn, .int .i64 yd] 25))
  replace B := Lib.hid (B.out.alloc (.cells #[.int .i64 yn, .int .i64 yd] 25))
  replace C := Lib.hid (C.out.alloc (.cells #[.int .i64 yn, .int .i64 yd] 25))
  replace S1 := Lib.hid (S1.out.alloc (.cells #[.int .i64 yn, .int .i64 yd] 25))
  replace P1 := Lib.hid (P1.out.alloc (.cells #[.int .i64 yn, .int .i64 yd] 25))
  replace U1 := Lib.hid (U1.out.alloc (.cells #[.int .i64 yn, .int .i64 yd] 25))
  replace V1 := Lib.hid (V1.out.alloc (.cells #[.int .i64 yn, .int .i64 yd] 25))
  replace Q1 := Lib.hid (Q1.out.alloc (.cells #[.int .i64 yn, .int .i64 yd] 25))
  replace Y1b := Lib.hid (Y1b.out.alloc (.cells #[.int .i64 yn, .int .i64 yd] 25))
  have Y2b := Lib.hid (C2.new w24 (.int .i64 yn) (.int .i64 yd) 25)
  obtain ⟨cA0, cA1⟩ := A.out.cells
  obtain ⟨cB0, cB1⟩ := B.out.cells
  obtain ⟨cC0, cC1⟩ := C.out.cells
  obtain ⟨cS10, cS11⟩ := S1.out.cells
  obtain ⟨cP10, cP11⟩ := P1.out.cells
  obtain ⟨cU10, cU11⟩ := U1.out.cells
  obtain ⟨cV10, cV11⟩ := V1.out.cells
  obtain ⟨cQ10, cQ11⟩ := Q1.out.cells
  obtain ⟨cY1b0, cY1b1⟩ := Y1b.out.cells
  obtain ⟨cY2b0, cY2b1⟩ := Y2b.out.cells
  go_wp2_with fail
  generalize w24.alloc (.cells #[.int .i64 yn, .int .i64 yd] 25) = w25 at *
  generalize w24.heap.size = nY2b at *
  go_ret
  exact ⟨by first | rfl | simp, T25.out.bel⟩
set_option maxHeartbeats 4000000 in
set_option maxRecDepth 100000 in
theorem field_02012 (an ad bn bd cn cd pn pd vn vd qn qd qe yn yd ye : Int) (w : World) (ht : Tabs w)
    (hVa : ∀ w, Calls Tryd.prog 15 #[.agg #[.int .i64 an, .int .i64 ad]] w fun e w' => e = .returned (.bool true) ∧ Below w.heap.size w w')
    (hVb : ∀ w, Calls Tryd.prog 15 #[.agg #[.int .i64 bn, .int .i64 bd]] w fun e w' => e = .returned (.bool true) ∧ Below w.heap.size w w')
    (hVc : ∀ w, Calls Tryd.prog 15 #[.agg #[.int .i64 cn, .int .i64 cd]] w fun e w' => e = .returned (.bool true) ∧ Below w.heap.size w w')
    (hSab : ∀ w, Calls Tryd.prog 17 #[.agg #[.int .i64 an, .int .i64 ad], .agg #[.int .i64 bn, .int .i64 bd]] w (Ret3 w 0 0 2))
    (hSba : ∀ w, Calls Tryd.prog 17 #[.agg #[.int .i64 bn, .int .i64 bd], .agg #[.int .i64 an, .int .i64 ad]] w (Ret3 w 0 0 2))
    (hPab : ∀ w, Calls Tryd.prog 18 #[.agg #[.int .i64 an, .int .i64 ad], .agg #[.int .i64 bn, .int .i64 bd]] w (Ret3 w pn pd 0))
    (hPba : ∀ w, Calls Tryd.prog 18 #[.agg #[.int .i64 bn, .int .i64 bd], .agg #[.int .i64 an, .int .i64 ad]] w (Ret3 w pn pd 0))
    (hDv : ∀ w, Calls Tryd.prog 31 #[.agg #[.int .i64 pn, .int .i64 pd], .agg #[.int .i64 bn, .int .i64 bd]] w (Ret3 w an ad 0))
    (hb0 : (bn != 0) = true)
    (hU : ∀ w, Calls Tryd.prog 17 #[.agg #[.int .i64 bn, .int .i64 bd], .agg #[.int .i64 cn, .int .i64 cd]] w (Ret3 w 0 0 2))
    (hV : ∀ w, Calls Tryd.prog 18 #[.agg #[.int .i64 bn, .int .i64 bd], .agg #[.int .i64 cn, .int .i64 cd]] w (Ret3 w vn vd 0))
    (hQ : ∀ w, Calls Tryd.prog 18 #[.agg #[.int .i64 an, .int .i64 ad], .agg #[.int .i64 cn, .int .i64 cd]] w (Ret3 w qn qd qe))
    (hY1 : ∀ w, Calls Tryd.prog 18 #[.agg #[.int .i64 pn, .int .i64 pd], .agg #[.int .i64 cn, .int .i64 cd]] w (Ret3 w yn yd ye))
    (hY2 : ∀ w, Calls Tryd.prog 18 #[.agg #[.int .i64 an, .int .i64 ad], .agg #[.int .i64 vn, .int .i64 vd]] w (Ret3 w yn yd ye)) :
    Calls Tryd.prog 9 #[.agg #[.int .i64 an, .int .i64 ad], .agg #[.int .i64 bn, .int .i64 bd], .agg #[.int .i64 cn, .int .i64 cd]] w fun e w' => e = .returned (.bool true) ∧ Below w.heap.size w w' := by
  have HVa := Lib.hid hVa
  clear hVa
  have HVb := Lib.hid hVb
  clear hVb
  have HVc := Lib.hid hVc
  clear hVc
  have HSab := Lib.hid hSab
  clear hSab
  have HSba := Lib.hid hSba
  clear hSba
  have HPab := Lib.hid hPab
  clear hPab
  have HPba := Lib.hid hPba
  clear hPba
  have HDv := Lib.hid hDv
  clear hDv
  have HU := Lib.hid hU
  clear hU
  have HV := Lib.hid hV
  clear hV
  have HQ := Lib.hid hQ
  clear hQ
  have HY1 := Lib.hid hY1
  clear hY1
  have HY2 := Lib.hid hY2
  clear hY2
  have T0 : Hid (Trk w w) := Lib.hid ⟨ht, Below.refl _ _⟩
  clear ht
  have T1 := Lib.hid (T0.out.alloc (.cells #[.int .i64 an, .int .i64 ad] 25))
  have A := Lib.hid (C2.new (w) (.int .i64 an) (.int .i64 ad) 25)
  have T2 := Lib.hid (T1.out.alloc (.cells #[.int .i64 bn, .int .i64 bd] 25))
  replace A := Lib.hid (A.out.alloc (.cells #[.int .i64 bn, .int .i64 bd] 25))
  have B := Lib.hid (C2.new ((w).alloc (.cells #[.int .i64 an, .int .i64 ad] 25)) (.int .i64 bn) (.int .i64 bd) 25)
  have T3 := Lib.hid (T2.out.alloc (.cells #[.int .i64 cn, .int .i64 cd] 25))
  replace A := Lib.hid (A.out.alloc (.cells #[.int .i64 cn, .int .i64 cd] 25))
  replace B := Lib.hid (B.out.alloc (.cells #[.int .i64 cn, .int .i64 cd] 25))
  have C := Lib.hid (C2.new (((w).alloc (.cells #[.int .i64 an, .int .i64 ad] 25)).alloc (.cells #[.int .i64 bn, .int .i64 bd] 25)) (.int .i64 cn) (.int .i64 cd) 25)
  go_enter Tryd.func9, Tryd.ntmps9
  go_wp2_with fail
  have hz : ((w).alloc (.cells #[.int .i64 an, .int .i64 ad] 25)).heap.size = w.heap.size + 1 := by simp
  rw [hz] at B
  clear hz
  have hz : (((w).alloc (.cells #[.int .i64 an, .int .i64 ad] 25)).alloc (.cells #[.int .i64 bn, .int .i64 bd] 25)).heap.size = w.heap.size + 2 := by simp
  rw [hz] at C
  clear hz
  generalize (((w).alloc (.cells #[.int .i64 an, .int .i64 ad] 25)).alloc (.cells #[.int .i64 bn, .int .i64 bd] 25)).alloc (.cells #[.int .i64 cn, .int .i64 cd] 25) = w3 at *
  refine (head01 _ T3.out.tabs).mono ?_
  rintro e w4 ⟨rfl, hb⟩
  have T4 := Lib.hid (T3.out.step hb)
  replace A := Lib.hid (A.out.step hb)
  replace B := Lib.hid (B.out.step hb)
  replace C := Lib.hid (C.out.step hb)
  clear hb
  obtain ⟨cA0, cA1⟩ := A.out.cells
  obtain ⟨cB0, cB1⟩ := B.out.cells
  obtain ⟨cC0, cC1⟩ := C.out.cells
  go_wp2_with fail
  refine (HVa.out _).mono ?_
  rintro e w5 ⟨rfl, hb⟩
  have T5 := Lib.hid (T4.out.step hb)
  replace A := Lib.hid (A.out.step hb)
  replace B := Lib.hid (B.out.step hb)
  replace C := Lib.hid (C.out.step hb)
  clear hb
  clear cA0 cA1 cB0 cB1 cC0 cC1
  obtain ⟨cA0, cA1⟩ := A.out.cells
  obtain ⟨cB0, cB1⟩ := B.out.cells
  obtain ⟨cC0, cC1⟩ := C.out.cells
  go_wp2_with fail
  refine (HVb.out _).mono ?_
  rintro e w6 ⟨rfl, hb⟩
  have T6 := Lib.hid (T5.out.step hb)
  replace A := Lib.hid (A.out.step hb)
  replace B := Lib.hid (B.out.step hb)
  replace C := Lib.hid (C.out.step hb)
  clear hb
  clear cA0 cA1 cB0 cB1 cC0 cC1
  obtain ⟨cA0, cA1⟩ := A.out.cells
  obtain ⟨cB0, cB1⟩ := B.out.cells
  obtain ⟨cC0, cC1⟩ := C.out.cells
  go_wp2_with fail
  refine (HVc.out _).mono ?_
  rintro e w7 ⟨rfl, hb⟩
  have T7 := Lib.hid (T6.out.step hb)
  replace A := Lib.hid (A.out.step hb)
  replace B := Lib.hid (B.out.step hb)
  replace C := Lib.hid (C.out.step hb)
  clear hb
  clear cA0 cA1 cB0 cB1 cC0 cC1
  obtain ⟨cA0, cA1⟩ := A.out.cells
  obtain ⟨cB0, cB1⟩ := B.out.cells
  obtain ⟨cC0, cC1⟩ := C.out.cells
  go_wp2_with fail
  refine (HSab.out _).mono ?_
  rintro e w8 ⟨rfl, hb⟩
  have T8 := Lib.hid (T7.out.step hb)
  replace A := Lib.hid (A.out.step hb)
  replace B := Lib.hid (B.out.step hb)
  replace C := Lib.hid (C.out.step hb)
  clear hb
  clear cA0 cA1 cB0 cB1 cC0 cC1
  have T9 := Lib.hid (T8.out.alloc (.cells #[.int .i64 0, .int .i64 0] 25))
  replace A := Lib.hid (A.out.alloc (.cells #[.int .i64 0, .int .i64 0] 25))
  replace B := Lib.hid (B.out.alloc (.cells #[.int .i64 0, .int .i64 0] 25))
  replace C := Lib.hid (C.out.alloc (.cells #[.int .i64 0, .int .i64 0] 25))
  have S1 := Lib.hid (C2.new w8 (.int .i64 0) (.int .i64 0) 25)
  obtain ⟨cA0, cA1⟩ := A.out.cells
  obtain ⟨cB0, cB1⟩ := B.out.cells
  obtain ⟨cC0, cC1⟩ := C.out.cells
  obtain ⟨cS10, cS11⟩ := S1.out.cells
  go_wp2_with fail
  generalize w8.alloc (.cells #[.int .i64 0, .int .i64 0] 25) = w9 at *
  generalize w8.heap.size = nS1 at *
  refine (HSba.out _).mono ?_
  rintro e w10 ⟨rfl, hb⟩
  have T10 := Lib.hid (T9.out.step hb)
  replace A := Lib.hid (A.out.step hb)
  replace B := Lib.hid (B.out.step hb)
  replace C := Lib.hid (C.out.step hb)
  replace S1 := Lib.hid (S1.out.step hb)
  clear hb
  clear cA0 cA1 cB0 cB1 cC0 cC1 cS10 cS11
  have T11 := Lib.hid (T10.out.alloc (.cells #[.int .i64 0, .int .i64 0] 25))
  replace A := Lib.hid (A.out.alloc (.cells #[.int .i64 0, .int .i64 0] 25))
  replace B := Lib.hid (B.out.alloc (.cells #[.int .i64 0, .int .i64 0] 25))
  replace C := Lib.hid (C.out.alloc (.cells #[.int .i64 0, .int .i64 0] 25))
  replace S1 := Lib.hid (S1.out.alloc (.cells #[.int .i64 0, .int .i64 0] 25))
  have S2 := Lib.hid (C2.new w10 (.int .i64 0) (.int .i64 0) 25)
  obtain ⟨cA0, cA1⟩ := A.out.cells
  obtain ⟨cB0, cB1⟩ := B.out.cells
  obtain ⟨cC0, cC1⟩ := C.out.cells
  obtain ⟨cS10, cS11⟩ := S1.out.cells
  obtain ⟨cS20, cS21⟩ := S2.out.cells
  go_wp2_with fail
  generalize w10.alloc (.cells #[.int .i64 0, .int .i64 0] 25) = w11 at *
  generalize w10.heap.size = nS2 at *
  refine (HPab.out _).mono ?_
  rintro e w12 ⟨rfl, hb⟩
  have T12 := Lib.hid (T11.out.step hb)
  replace A := Lib.hid (A.out.step hb)
  replace B := Lib.hid (B.out.step hb)
  replace C := Lib.hid (C.out.step hb)
  replace S1 := Lib.hid (S1.out.step hb)
  replace S2 := Lib.hid (S2.out.step hb)
  clear hb
  clear cA0 cA1 cB0 cB1 cC0 cC1 cS10 cS11 cS20 cS21
  have T13 := Lib.hid (T12.out.alloc (.cells #[.int .i64 pn, .int .i64 pd] 25))
  replace A := Lib.hid (A.out.alloc (.cells #[.int .i64 pn, .int .i64 pd] 25))
  replace B := Lib.hid (B.out.alloc (.cells #[.int .i64 pn, .int .i64 pd] 25))
  replace C := Lib.hid (C.out.alloc (.cells #[.int .i64 pn, .int .i64 pd] 25))
  replace S1 := Lib.hid (S1.out.alloc (.cells #[.int .i64 pn, .int .i64 pd] 25))
  replace S2 := Lib.hid (S2.out.alloc (.cells #[.int .i64 pn, .int .i64 pd] 25))
  have P1 := Lib.hid (C2.new w12 (.int .i64 pn) (.int .i64 pd) 25)
  obtain ⟨cA0, cA1⟩ := A.out.cells
  obtain ⟨cB0, cB1⟩ := B.out.cells
  obtain ⟨cC0, cC1⟩ := C.out.cells
  obtain ⟨cS10, cS11⟩ := S1.out.cells
  obtain ⟨cS20, cS21⟩ := S2.out.cells
  obtain ⟨cP10, cP11⟩ := P1.out.cells
  go_wp2_with fail
  generalize w12.alloc (.cells #[.int .i64 pn, .int .i64 pd] 25) = w13 at *
  generalize w12.heap.size = nP1 at *
  refine (HPba.out _).mono ?_
  rintro e w14 ⟨rfl, hb⟩
  have T14 := Lib.hid (T13.out.step hb)
  replace A := Lib.hid (A.out.step hb)
  replace B := Lib.hid (B.out.step hb)
  replace C := Lib.hid (C.out.step hb)
  replace S1 := Lib.hid (S1.out.step hb)
  replace S2 := Lib.hid (S2.out.step hb)
  replace P1 := Lib.hid (P1.out.step hb)
  clear hb
  clear cA0 cA1 cB0 cB1 cC0 cC1 cS10 cS11 cS20 cS21 cP10 cP11
  have T15 := Lib.hid (T14.out.alloc (.cells #[.int .i64 pn, .int .i64 pd] 25))
  replace A := Lib.hid (A.out.alloc (.cells #[.int .i64 pn, .int .i64 pd] 25))
  replace B := Lib.hid (B.out.alloc (.cells #[.int .i64 pn, .int .i64 pd] 25))
  replace C := Lib.hid (C.out.alloc (.cells #[.int .i64 pn, .int .i64 pd] 25))
  replace S1 := Lib.hid (S1.out.alloc (.cells #[.int .i64 pn, .int .i64 pd] 25))
  replace S2 := Lib.hid (S2.out.alloc (.cells #[.int .i64 pn, .int .i64 pd] 25))
  replace P1 := Lib.hid (P1.out.alloc (.cells #[.int .i64 pn, .int .i64 pd] 25))
  have P2 := Lib.hid (C2.new w14 (.int .i64 pn) (.int .i64 pd) 25)
  obtain ⟨cA0, cA1⟩ := A.out.cells
  obtain ⟨cB0, cB1⟩ := B.out.cells
  obtain ⟨cC0, cC1⟩ := C.out.cells
  obtain ⟨cS10, cS11⟩ := S1.out.cells
  obtain ⟨cS20, cS21⟩ := S2.out.cells
  obtain ⟨cP10, cP11⟩ := P1.out.cells
  obtain ⟨cP20, cP21⟩ := P2.out.cells
  go_wp2_with fail
  generalize w14.alloc (.cells #[.int .i64 pn, .int .i64 pd] 25) = w15 at *
  generalize w14.heap.size = nP2 at *
  refine (HDv.out _).mono ?_
  rintro e w16 ⟨rfl, hb⟩
  have T16 := Lib.hid (T15.out.step hb)
  replace A := Lib.hid (A.out.step hb)
  replace B := Lib.hid (B.out.step hb)
  replace C := Lib.hid (C.out.step hb)
  replace S1 := Lib.hid (S1.out.step hb)
  replace S2 := Lib.hid (S2.out.step hb)
  replace P1 := Lib.hid (P1.out.step hb)
  replace P2 := Lib.hid (P2.out.step hb)
  clear hb
  clear cA0 cA1 cB0 cB1 cC0 cC1 cS10 cS11 cS20 cS21 cP10 cP11 cP20 cP21
  have T17 := Lib.hid (T16.out.alloc (.cells #[.int .i64 an, .int .i64 ad] 25))
  replace A := Lib.hid (A.out.alloc (.cells #[.int .i64 an, .int .i64 ad] 25))
  replace B := Lib.hid (B.out.alloc (.cells #[.int .i64 an, .int .i64 ad] 25))
  replace C := Lib.hid (C.out.alloc (.cells #[.int .i64 an, .int .i64 ad] 25))
  replace S1 := Lib.hid (S1.out.alloc (.cells #[.int .i64 an, .int .i64 ad] 25))
  replace S2 := Lib.hid (S2.out.alloc (.cells #[.int .i64 an, .int .i64 ad] 25))
  replace P1 := Lib.hid (P1.out.alloc (.cells #[.int .i64 an, .int .i64 ad] 25))
  replace P2 := Lib.hid (P2.out.alloc (.cells #[.int .i64 an, .int .i64 ad] 25))
  have K2 := Lib.hid (C2.new w16 (.int .i64 an) (.int .i64 ad) 25)
  obtain ⟨cA0, cA1⟩ := A.out.cells
  obtain ⟨cB0, cB1⟩ := B.out.cells
  obtain ⟨cC0, cC1⟩ := C.out.cells
  obtain ⟨cS10, cS11⟩ := S1.out.cells
  obtain ⟨cS20, cS21⟩ := S2.out.cells
  obtain ⟨cP10, cP11⟩ := P1.out.cells
  obtain ⟨cP20, cP21⟩ := P2.out.cells
  obtain ⟨cK20, cK21⟩ := K2.out.cells
  go_wp2_with fail
  generalize w16.alloc (.cells #[.int .i64 an, .int .i64 ad] 25) = w17 at *
  generalize w16.heap.size = nK2 at *
  clear cS20
  clear cS21
  clear cP20
  clear cP21
  clear cK20
  clear cK21
  clear S2 P2 K2
  refine (HU.out _).mono ?_
  rintro e w18 ⟨rfl, hb⟩
  have T18 := Lib.hid (T17.out.step hb)
  replace A := Lib.hid (A.out.step hb)
  replace B := Lib.hid (B.out.step hb)
  replace C := Lib.hid (C.out.step hb)
  replace S1 := Lib.hid (S1.out.step hb)
  replace P1 := Lib.hid (P1.out.step hb)
  clear hb
  clear cA0 cA1 cB0 cB1 cC0 cC1 cS10 cS11 cP10 cP11
  have T19 := Lib.hid (T18.out.alloc (.cells #[.int .i64 0, .int .i64 0] 25))
  replace A := Lib.hid (A.out.alloc (.cells #[.int .i64 0, .int .i64 0] 25))
  replace B := Lib.hid (B.out.alloc (.cells #[.int .i64 0, .int .i64 0] 25))
  replace C := Lib.hid (C.out.alloc (.cells #[.int .i64 0, .int .i64 0] 25))
  replace S1 := Lib.hid (S1.out.alloc (.cells #[.int .i64 0, .int .i64 0] 25))
  replace P1 := Lib.hid (P1.out.alloc (.cells #[.int .i64 0, .int .i64 0] 25))
  have U1 := Lib.hid (C2.new w18 (.int .i64 0) (.int .i64 0) 25)
  obtain ⟨cA0, cA1⟩ := A.out.cells
  obtain ⟨cB0, cB1⟩ := B.out.cells
  obtain ⟨cC0, cC1⟩ := C.out.cells
  obtain ⟨cS10, cS11⟩ := S1.out.cells
  obtain ⟨cP10, cP11⟩ := P1.out.cells
  obtain ⟨cU10, cU11⟩ := U1.out.cells
  go_wp2_with fail
  generalize w18.alloc (.cells #[.int .i64 0, .int .i64 0] 25) = w19 at *
  generalize w18.heap.size = nU1 at *
  refine (HV.out _).mono ?_
  rintro e w20 ⟨rfl, hb⟩
  have T20 := Lib.hid (T19.out.step hb)
  replace A := Lib.hid (A.out.step hb)
  replace B := Lib.hid (B.out.step hb)
  replace C := Lib.hid (C.out.step hb)
  replace S1 := Lib.hid (S1.out.step hb)
  replace P1 := Lib.hid (P1.out.step hb)
  replace U1 := Lib.hid (U1.out.step hb)
  clear hb
  clear cA0 cA1 cB0 cB1 cC0 cC1 cS10 cS11 cP10 cP11 cU10 cU11
  have T21 := Lib.hid (T20.out.alloc (.cells #[.int .i64 vn, .int .i64 vd] 25))
  replace A := Lib.hid (A.out.alloc (.cells #[.int .i64 vn, .int .i64 vd] 25))
  replace B := Lib.hid (B.out.alloc (.cells #[.int .i64 vn, .int .i64 vd] 25))
  replace C := Lib.hid (C.out.alloc (.cells #[.int .i64 vn, .int .i64 vd] 25))
  replace S1 := Lib.hid (S1.out.alloc (.cells #[.int .i64 vn, .int .i64 vd] 25))
  replace P1 := Lib.hid (P1.out.alloc (.cells #[.int .i64 vn, .int .i64 vd] 25))
  replace U1 := Lib.hid (U1.out.alloc (.cells #[.int .i64 vn, .int .i64 vd] 25))
  have V1 := Lib.hid (C2.new w20 (.int .i64 vn) (.int .i64 vd) 25)
  obtain ⟨cA0, cA1⟩ := A.out.cells
  obtain ⟨cB0, cB1⟩ := B.out.cells
  obtain ⟨cC0, cC1⟩ := C.out.cells
  obtain ⟨cS10, cS11⟩ := S1.out.cells
  obtain ⟨cP10, cP11⟩ := P1.out.cells
  obtain ⟨cU10, cU11⟩ := U1.out.cells
  obtain ⟨cV10, cV11⟩ := V1.out.cells
  go_wp2_with fail
  generalize w20.alloc (.cells #[.int .i64 vn, .int .i64 vd] 25) = w21 at *
  generalize w20.heap.size = nV1 at *
  refine (HQ.out _).mono ?_
  rintro e w22 ⟨rfl, hb⟩
  have T22 := Lib.hid (T21.out.step hb)
  replace A := Lib.hid (A.out.step hb)
  replace B := Lib.hid (B.out.step hb)
  replace C := Lib.hid (C.out.step hb)
  replace S1 := Lib.hid (S1.out.step hb)
  replace P1 := Lib.hid (P1.out.step hb)
  replace U1 := Lib.hid (U1.out.step hb)
  replace V1 := Lib.hid (V1.out.step hb)
  clear hb
  clear cA0 cA1 cB0 cB1 cC0 cC1 cS10 cS11 cP10 cP11 cU10 cU11 cV10 cV11
  have T23 := Lib.hid (T22.out.alloc (.cells #[.int .i64 qn, .int .i64 qd] 25))
  replace A := Lib.hid (A.out.alloc (.cells #[.int .i64 qn, .int .i64 qd] 25))
  replace B := Lib.hid (B.out.alloc (.cells #[.int .i64 qn, .int .i64 qd] 25))
  replace C := Lib.hid (C.out.alloc (.cells #[.int .i64 qn, .int .i64 qd] 25))
  replace S1 := Lib.hid (S1.out.alloc (.cells #[.int .i64 qn, .int .i64 qd] 25))
  replace P1 := Lib.hid (P1.out.alloc (.cells #[.int .i64 qn, .int .i64 qd] 25))
  replace U1 := Lib.hid (U1.out.alloc (.cells #[.int .i64 qn, .int .i64 qd] 25))
  replace V1 := Lib.hid (V1.out.alloc (.cells #[.int .i64 qn, .int .i64 qd] 25))
  have Q1 := Lib.hid (C2.new w22 (.int .i64 qn) (.int .i64 qd) 25)
  obtain ⟨cA0, cA1⟩ := A.out.cells
  obtain ⟨cB0, cB1⟩ := B.out.cells
  obtain ⟨cC0, cC1⟩ := C.out.cells
  obtain ⟨cS10, cS11⟩ := S1.out.cells
  obtain ⟨cP10, cP11⟩ := P1.out.cells
  obtain ⟨cU10, cU11⟩ := U1.out.cells
  obtain ⟨cV10, cV11⟩ := V1.out.cells
  obtain ⟨cQ10, cQ11⟩ := Q1.out.cells
  go_wp2_with fail
  generalize w22.alloc (.cells #[.int .i64 qn, .int .i64 qd] 25) = w23 at *
  generalize w22.heap.size = nQ1 at *
  refine (HY1.out _).mono ?_
  rintro e w24 ⟨rfl, hb⟩
  have T24 := Lib.hid (T23.out.step hb)
  replace A := Lib.hid (A.out.step hb)
  replace B := Lib.hid (B.out.step hb)
  replace C := Lib.hid (C.out.step hb)
  replace S1 := Lib.hid (S1.out.step hb)
  replace P1 := Lib.hid (P1.out.step hb)
  replace U1 := Lib.hid (U1.out.step hb)
  replace V1 := Lib.hid (V1.out.step hb)
  replace Q1 := Lib.hid (Q1.out.step hb)
  clear hb
  clear cA0 cA1 cB0 cB1 cC0 cC1 cS10 cS11 cP10 cP11 cU10 cU11 cV10 cV11 cQ10 cQ11
  have T25 := Lib.hid (T24.out.alloc (.cells #[.int .i64 yn, .int .i64 yd] 25))
  replace A := Lib.hid (A.out.alloc (.cells #[.int .i64 yn, .int .i64 yd] 25))
  replace B := Lib.hid (B.out.alloc (.cells #[.int .i64 yn, .int .i64 yd] 25))
  replace C := Lib.hid (C.out.alloc (.cells #[.int .i64 yn, .int .i64 yd] 25))
  replace S1 := Lib.hid (S1.out.alloc (.cells #[.int .i64 yn, .int .i64 yd] 25))
  replace P1 := Lib.hid (P1.out.alloc (.cells #[.int .i64 yn, .int .i64 yd] 25))
  replace U1 := Lib.hid (U1.out.alloc (.cells #[.int .i64 yn, .int .i64 yd] 25))
  replace V1 := Lib.hid (V1.out.alloc (.cells #[.int .i64 yn, .int .i64 yd] 25))
  replace Q1 := Lib.hid (Q1.out.alloc (.cells #[.int .i64 yn, .int .i64 yd] 25))
  have Y1b := Lib.hid (C2.new w24 (.int .i64 yn) (.int .i64 yd) 25)
  obtain ⟨cA0, cA1⟩ := A.out.cells
  obtain ⟨cB0, cB1⟩ := B.out.cells
  obtain ⟨cC0, cC1⟩ := C.out.cells
  obtain ⟨cS10, cS11⟩ := S1.out.cells
  obtain ⟨cP10, cP11⟩ := P1.out.cells
  obtain ⟨cU10, cU11⟩ := U1.out.cells
  obtain ⟨cV10, cV11⟩ := V1.out.cells
  obtain ⟨cQ10, cQ11⟩ := Q1.out.cells
  obtain ⟨cY1b0, cY1b1⟩ := Y1b.out.cells
  go_wp2_with fail
  generalize w24.alloc (.cells #[.int .i64 yn, .int .i64 yd] 25) = w25 at *
  generalize w24.heap.size = nY1b at *
  refine (HY2.out _).mono ?_
  rintro e w26 ⟨rfl, hb⟩
  have T26 := Lib.hid (T25.out.step hb)
  replace A := Lib.hid (A.out.step hb)
  replace B := Lib.hid (B.out.step hb)
  replace C := Lib.hid (C.out.step hb)
  replace S1 := Lib.hid (S1.out.step hb)
  replace P1 := Lib.hid (P1.out.step hb)
  replace U1 := Lib.hid (U1.out.step hb)
  replace V1 := Lib.hid (V1.out.step hb)
  replace Q1 := Lib.hid (Q1.out.step hb)
  replace Y1b := Lib.hid (Y1b.out.step hb)
  clear hb
  clear cA0 cA1 cB0 cB1 cC0 cC1 cS10 cS11 cP10 cP11 cU10 cU11 cV10 cV11 cQ10 cQ11 cY1b0 cY1b1
  have T27 := Lib.hid (T26.out.alloc (.cells #[.int .i64 yn, .int .i64 yd] 25))
  replace A := Lib.hid (A.out.alloc (.cells #[.int .i64 yn, .int .i64 yd] 25))
  replace B := Lib.hid (B.out.alloc (.cells #[.int .i64 yn, .int .i64 yd] 25))
  replace C := Lib.hid (C.out.alloc (.cells #[.int .i64 yn, .int .i64 yd] 25))
  replace S1 := Lib.hid (S1.out.alloc (.cells #[.int .i64 yn, .int .i64 yd] 25))
  replace P1 := Lib.hid (P1.out.alloc (.cells #[.int .i64 yn, .int .i64 yd] 25))
  replace U1 := Lib.hid (U1.out.alloc (.cells #[.int .i64 yn, .int .i64 yd] 25))
  replace V1 := Lib.hid (V1.out.alloc (.cells #[.int .i64 yn, .int .i64 yd] 25))
  replace Q1 := Lib.hid (Q1.out.alloc (.cells #[.int .i64 yn, .int .i64 yd] 25))
  replace Y1b := Lib.hid (Y1b.out.alloc (.cells #[.int .i64 yn, .int .i64 yd] 25))
  have Y2b := Lib.hid (C2.new w26 (.int .i64 yn) (.int .i64 yd) 25)
  obtain ⟨cA0, cA1⟩ := A.out.cells
  obtain ⟨cB0, cB1⟩ := B.out.cells
  obtain ⟨cC0, cC1⟩ := C.out.cells
  obtain ⟨cS10, cS11⟩ := S1.out.cells
  obtain ⟨cP10, cP11⟩ := P1.out.cells
  obtain ⟨cU10, cU11⟩ := U1.out.cells
  obtain ⟨cV10, cV11⟩ := V1.out.cells
  obtain ⟨cQ10, cQ11⟩ := Q1.out.cells
  obtain ⟨cY1b0, cY1b1⟩ := Y1b.out.cells
  obtain ⟨cY2b0, cY2b1⟩ := Y2b.out.cells
  go_wp2_with fail
  generalize w26.alloc (.cells #[.int .i64 yn, .int .i64 yd] 25) = w27 at *
  generalize w26.heap.size = nY2b at *
  go_ret
  exact ⟨by first | rfl | simp, T27.out.bel⟩
set_option maxHeartbeats 4000000 in
set_option maxRecDepth 100000 in
theorem field_01101 (an ad bn bd cn cd pn pd un ud qn qd zn zd ze : Int) (w : World) (ht : Tabs w)
    (hVa : ∀ w, Calls Tryd.prog 15 #[.agg #[.int .i64 an, .int .i64 ad]] w fun e w' => e = .returned (.bool true) ∧ Below w.heap.size w w')
    (hVb : ∀ w, Calls Tryd.prog 15 #[.agg #[.int .i64 bn, .int .i64 bd]] w fun e w' => e = .returned (.bool true) ∧ Below w.heap.size w w')
    (hVc : ∀ w, Calls Tryd.prog 15 #[.agg #[.int .i64 cn, .int .i64 cd]] w fun e w' => e = .returned (.bool true) ∧ Below w.heap.size w w')
    (hSab : ∀ w, Calls Tryd.prog 17 #[.agg #[.int .i64 an, .int .i64 ad], .agg #[.int .i64 bn, .int .i64 bd]] w (Ret3 w 0 0 2))
    (hSba : ∀ w, Calls Tryd.prog 17 #[.agg #[.int .i64 bn, .int .i64 bd], .agg #[.int .i64 an, .int .i64 ad]] w (Ret3 w 0 0 2))
    (hPab : ∀ w, Calls Tryd.prog 18 #[.agg #[.int .i64 an, .int .i64 ad], .agg #[.int .i64 bn, .int .i64 bd]] w (Ret3 w pn pd 0))
    (hPba : ∀ w, Calls Tryd.prog 18 #[.agg #[.int .i64 bn, .int .i64 bd], .agg #[.int .i64 an, .int .i64 ad]] w (Ret3 w pn pd 0))
    (hb0 : (bn != 0) = false)
    (hU : ∀ w, Calls Tryd.prog 17 #[.agg #[.int .i64 bn, .int .i64 bd], .agg #[.int .i64 cn, .int .i64 cd]] w (Ret3 w un ud 0))
    (hV : ∀ w, Calls Tryd.prog 18 #[.agg #[.int .i64 bn, .int .i64 bd], .agg #[.int .i64 cn, .int .i64 cd]] w (Ret3 w 0 0 2))
    (hQ : ∀ w, Calls Tryd.prog 18 #[.agg #[.int .i64 an, .int .i64 ad], .agg #[.int .i64 cn, .int .i64 cd]] w (Ret3 w qn qd 0))
    (hZ1 : ∀ w, Calls Tryd.prog 18 #[.agg #[.int .i64 an, .int .i64 ad], .agg #[.int .i64 un, .int .i64 ud]] w (Ret3 w zn zd ze))
    (hZ2 : ∀ w, Calls Tryd.prog 17 #[.agg #[.int .i64 pn, .int .i64 pd], .agg #[.int .i64 qn, .int .i64 qd]] w (Ret3 w zn zd ze)) :
    Calls Tryd.prog 9 #[.agg #[.int .i64 an, .int .i64 ad], .agg #[.int .i64 bn, .int .i64 bd], .agg #[.int .i64 cn, .int .i64 cd]] w fun e w' => e = .returned (.bool true) ∧ Below w.heap.size w w' := by
  have HVa := Lib.hid hVa
  clear hVa
  have HVb := Lib.hid hVb
  clear hVb
  have HVc := Lib.hid hVc
  clear hVc
  have HSab := Lib.hid hSab
  clear hSab
  have HSba := Lib.hid hSba
  clear hSba
  have HPab := Lib.hid hPab
  clear hPab
  have HPba := Lib.hid hPba
  clear hPba
  have HU := Lib.hid hU
  clear hU
  have HV := Lib.hid hV
  clear hV
  have HQ := Lib.hid hQ
  clear hQ
  have HZ1 := Lib.hid hZ1
  clear hZ1
  have HZ2 := Lib.hid hZ2
  clear hZ2
  have T0 : Hid (Trk w w) := Lib.hid ⟨ht, Below.refl _ _⟩
  clear ht
  have T1 := Lib.hid (T0.out.alloc (.cells #[.int .i64 an, .int .i64 ad] 25))
  have A := Lib.hid (C2.new (w) (.int .i64 an) (.int .i64 ad) 25)
  have T2 := Lib.hid (T1.out.alloc (.cells #[.int .i64 bn, .int .i64 bd] 25))
  replace A := Lib.hid (A.out.alloc (.cells #[.int .i64 bn, .int .i64 bd] 25))
  have B := Lib.hid (C2.new ((w).alloc (.cells #[.int .i64 an, .int .i64 ad] 25)) (.int .i64 bn) (.int .i64 bd) 25)
  have T3 := Lib.hid (T2.out.alloc (.cells #[.int .i64 cn, .int .i64 cd] 25))
  replace A := Lib.hid (A.out.alloc (.cells #[.int .i64 cn, .int .i64 cd] 25))
  replace B := Lib.hid (B.out.alloc (.cells #[.int .i64 cn, .int .i64 cd] 25))
  have C := Lib.hid (C2.new (((w).alloc (.cells #[.int .i64 an, .int .i64 ad] 25)).alloc (.cells #[.int .i64 bn, .int .i64 bd] 25)) (.int .i64 cn) (.int .i64 cd) 25)
  go_enter Tryd.func9, Tryd.ntmps9
  go_wp2_with fail
  have hz : ((w).alloc (.cells #[.int .i64 an, .int .i64 ad] 25)).heap.size = w.heap.size + 1 := by simp
  rw [hz] at B
  clear hz
  have hz : (((w).alloc (.cells #[.int .i64 an, .int .i64 ad] 25)).alloc (.cells #[.int .i64 bn, .int .i64 bd] 25)).heap.size = w.heap.size + 2 := by simp
  rw [hz] at C
  clear hz
  generalize (((w).alloc (.cells #[.int .i64 an, .int .i64 ad] 25)).alloc (.cells #[.int .i64 bn, .int .i64 bd] 25)).alloc (.cells #[.int .i64 cn, .int .i64 cd] 25) = w3 at *
  refine (head01 _ T3.out.tabs).mono ?_
  rintro e w4 ⟨rfl, hb⟩
  have T4 := Lib.hid (T3.out.step hb)
  replace A := Lib.hid (A.out.step hb)
  replace B := Lib.hid (B.out.step hb)
  replace C := Lib.hid (C.out.step hb)
  clear hb
  obtain ⟨cA0, cA1⟩ := A.out.cells
  obtain ⟨cB0, cB1⟩ := B.out.cells
  obtain ⟨cC0, cC1⟩ := C.out.cells
  go_wp2_with fail
  refine (HVa.out _).mono ?_
  rintro e w5 ⟨rfl, hb⟩
  have T5 := Lib.hid (T4.out.step hb)
  replace A := Lib.hid (A.out.step hb)
  replace B := Lib.hid (B.out.step hb)
  replace C := Lib.hid (C.out.step hb)
  clear hb
  clear cA0 cA1 cB0 cB1 cC0 cC1
  obtain ⟨cA0, cA1⟩ := A.out.cells
  obtain ⟨cB0, cB1⟩ := B.out.cells
  obtain ⟨cC0, cC1⟩ := C.out.cells
  go_wp2_with fail
  refine (HVb.out _).mono ?_
  rintro e w6 ⟨rfl, hb⟩
  have T6 := Lib.hid (T5.out.step hb)
  replace A := Lib.hid (A.out.step hb)
  replace B := Lib.hid (B.out.step hb)
  replace C := Lib.hid (C.out.step hb)
  clear hb
  clear cA0 cA1 cB0 cB1 cC0 cC1
  obtain ⟨cA0, cA1⟩ := A.out.cells
  obtain ⟨cB0, cB1⟩ := B.out.cells
  obtain ⟨cC0, cC1⟩ := C.out.cells
  go_wp2_with fail
  refine (HVc.out _).mono ?_
  rintro e w7 ⟨rfl, hb⟩
  have T7 := Lib.hid (T6.out.step hb)
  replace A := Lib.hid (A.out.step hb)
  replace B := Lib.hid (B.out.step hb)
  replace C := Lib.hid (C.out.step hb)
  clear hb
  clear cA0 cA1 cB0 cB1 cC0 cC1
  obtain ⟨cA0, cA1⟩ := A.out.cells
  obtain ⟨cB0, cB1⟩ := B.out.cells
  obtain ⟨cC0, cC1⟩ := C.out.cells
  go_wp2_with fail
  refine (HSab.out _).mono ?_
  rintro e w8 ⟨rfl, hb⟩
  have T8 := Lib.hid (T7.out.step hb)
  replace A := Lib.hid (A.out.step hb)
  replace B := Lib.hid (B.out.step hb)
  replace C := Lib.hid (C.out.step hb)
  clear hb
  clear cA0 cA1 cB0 cB1 cC0 cC1
  have T9 := Lib.hid (T8.out.alloc (.cells #[.int .i64 0, .int .i64 0] 25))
  replace A := Lib.hid (A.out.alloc (.cells #[.int .i64 0, .int .i64 0] 25))
  replace B := Lib.hid (B.out.alloc (.cells #[.int .i64 0, .int .i64 0] 25))
  replace C := Lib.hid (C.out.alloc (.cells #[.int .i64 0, .int .i64 0] 25))
  have S1 := Lib.hid (C2.new w8 (.int .i64 0) (.int .i64 0) 25)
  obtain ⟨cA0, cA1⟩ := A.out.cells
  obtain ⟨cB0, cB1⟩ := B.out.cells
  obtain ⟨cC0, cC1⟩ := C.out.cells
  obtain ⟨cS10, cS11⟩ := S1.out.cells
  go_wp2_with fail
  generalize w8.alloc (.cells #[.int .i64 0, .int .i64 0] 25) = w9 at *
  generalize w8.heap.size = nS1 at *
  refine (HSba.out _).mono ?_
  rintro e w10 ⟨rfl, hb⟩
  have T10 := Lib.hid (T9.out.step hb)
  replace A := Lib.hid (A.out.step hb)
  replace B := Lib.hid (B.out.step hb)
  replace C := Lib.hid (C.out.step hb)
  replace S1 := Lib.hid (S1.out.step hb)
  clear hb
  clear cA0 cA1 cB0 cB1 cC0 cC1 cS10 cS11
  have T11 := Lib.hid (T10.out.alloc (.cells #[.int .i64 0, .int .i64 0] 25))
  replace A := Lib.hid (A.out.alloc (.cells #[.int .i64 0, .int .i64 0] 25))
  replace B := Lib.hid (B.out.alloc (.cells #[.int .i64 0, .int .i64 0] 25))
  replace C := Lib.hid (C.out.alloc (.cells #[.int .i64 0, .int .i64 0] 25))
  replace S1 := Lib.hid (S1.out.alloc (.cells #[.int .i64 0, .int .i64 0] 25))
  have S2 := Lib.hid (C2.new w10 (.int .i64 0) (.int .i64 0) 25)
  obtain ⟨cA0, cA1⟩ := A.out.cells
  obtain ⟨cB0, cB1⟩ := B.out.cells
  obtain ⟨cC0, cC1⟩ := C.out.cells
  obtain ⟨cS10, cS11⟩ := S1.out.cells
  obtain ⟨cS20, cS21⟩ := S2.out.cells
  go_wp2_with fail
  generalize w10.alloc (.cells #[.int .i64 0, .int .i64 0] 25) = w11 at *
  generalize w10.heap.size = nS2 at *
  refine (HPab.out _).mono ?_
  rintro e w12 ⟨rfl, hb⟩
  have T12 := Lib.hid (T11.out.step hb)
  replace A := Lib.hid (A.out.step hb)
  replace B := Lib.hid (B.out.step hb)
  replace C := Lib.hid (C.out.step hb)
  replace S1 := Lib.hid (S1.out.step hb)
  replace S2 := Lib.hid (S2.out.step hb)
  clear hb
  clear cA0 cA1 cB0 cB1 cC0 cC1 cS10 cS11 cS20 cS21
  have T13 := Lib.hid (T12.out.alloc (.cells #[.int .i64 pn, .int .i64 pd] 25))
  replace A := Lib.hid (A.out.alloc (.cells #[.int .i64 pn, .int .i64 pd] 25))
  replace B := Lib.hid (B.out.alloc (.cells #[.int .i64 pn, .int .i64 pd] 25))
  replace C := Lib.hid (C.out.alloc (.cells #[.int .i64 pn, .int .i64 pd] 25))
  replace S1 := Lib.hid (S1.out.alloc (.cells #[.int .i64 pn, .int .i64 pd] 25))
  replace S2 := Lib.hid (S2.out.alloc (.cells #[.int .i64 pn, .int .i64 pd] 25))
  have P1 := Lib.hid (C2.new w12 (.int .i64 pn) (.int .i64 pd) 25)
  obtain ⟨cA0, cA1⟩ := A.out.cells
  obtain ⟨cB0, cB1⟩ := B.out.cells
  obtain ⟨cC0, cC1⟩ := C.out.cells
  obtain ⟨cS10, cS11⟩ := S1.out.cells
  obtain ⟨cS20, cS21⟩ := S2.out.cells
  obtain ⟨cP10, cP11⟩ := P1.out.cells
  go_wp2_with fail
  generalize w12.alloc (.cells #[.int .i64 pn, .int .i64 pd] 25) = w13 at *
  generalize w12.heap.size = nP1 at *
  refine (HPba.out _).mono ?_
  rintro e w14 ⟨rfl, hb⟩
  have T14 := Lib.hid (T13.out.step hb)
  replace A := Lib.hid (A.out.step hb)
  replace B := Lib.hid (B.out.step hb)
  replace C := Lib.hid (C.out.step hb)
  replace S1 := Lib.hid (S1.out.step hb)
  replace S2 := Lib.hid (S2.out.step hb)
  replace P1 := Lib.hid (P1.out.step hb)
  clear hb
  clear cA0 cA1 cB0 cB1 cC0 cC1 cS10 cS11 cS20 cS21 cP10 cP11
  have T15 := Lib.hid (T14.out.alloc (.cells #[.int .i64 pn, .int .i64 pd] 25))
  replace A := Lib.hid (A.out.alloc (.cells #[.int .i64 pn, .int .i64 pd] 25))
  replace B := Lib.hid (B.out.alloc (.cells #[.int .i64 pn, .int .i64 pd] 25))
  replace C := Lib.hid (C.out.alloc (.cells #[.int .i64 pn, .int .i64 pd] 25))
  replace S1 := Lib.hid (S1.out.alloc (.cells #[.int .i64 pn, .int .i64 pd] 25))
  replace S2 := Lib.hid (S2.out.alloc (.cells #[.int .i64 pn, .int .i64 pd] 25))
  replace P1 := Lib.hid (P1.out.alloc (.cells #[.int .i64 pn, .int .i64 pd] 25))
  have P2 := Lib.hid (C2.new w14 (.int .i64 pn) (.int .i64 pd) 25)
  obtain ⟨cA0, cA1⟩ := A.out.cells
  obtain ⟨cB0, cB1⟩ := B.out.cells
  obtain ⟨cC0, cC1⟩ := C.out.cells
  obtain ⟨cS10, cS11⟩ := S1.out.cells
  obtain ⟨cS20, cS21⟩ := S2.out.cells
  obtain ⟨cP10, cP11⟩ := P1.out.cells
  obtain ⟨cP20, cP21⟩ := P2.out.cells
  go_wp2_with fail
  generalize w14.alloc (.cells #[.int .i64 pn, .int .i64 pd] 25) = w15 at *
  generalize w14.heap.size = nP2 at *
  clear cS20
  clear cS21
  clear cP20
  clear cP21
  clear S2 P2
  refine (HU.out _).mono ?_
  rintro e w16 ⟨rfl, hb⟩
  have T16 := Lib.hid (T15.out.step hb)
  replace A := Lib.hid (A.out.step hb)
  replace B := Lib.hid (B.out.step hb)
  replace C := Lib.hid (C.out.step hb)
  replace S1 := Lib.hid (S1.out.step hb)
  replace P1 := Lib.hid (P1.out.step hb)
  clear hb
  clear cA0 cA1 cB0 cB1 cC0 cC1 cS10 cS11 cP10 cP11
  have T17 := Lib.hid (T16.out.alloc (.cells #[.int .i64 un, .int .i64 ud] 25))
  replace A := Lib.hid (A.out.alloc (.cells #[.int .i64 un, .int .i64 ud] 25))
  replace B := Lib.hid (B.out.alloc (.cells #[.int .i64 un, .int .i64 ud] 25))
  replace C := Lib.hid (C.out.alloc (.cells #[.int .i64 un, .int .i64 ud] 25))
  replace S1 := Lib.hid (S1.out.alloc (.cells #[.int .i64 un, .int .i64 ud] 25))
  replace P1 := Lib.hid (P1.out.alloc (.cells #[.int .i64 un, .int .i64 ud] 25))
  have U1 := Lib.hid (C2.new w16 (.int .i64 un) (.int .i64 ud) 25)
  obtain ⟨cA0, cA1⟩ := A.out.cells
  obtain ⟨cB0, cB1⟩ := B.out.cells
  obtain ⟨cC0, cC1⟩ := C.out.cells
  obtain ⟨cS10, cS11⟩ := S1.out.cells
  obtain ⟨cP10, cP11⟩ := P1.out.cells
  obtain ⟨cU10, cU11⟩ := U1.out.cells
  go_wp2_with fail
  generalize w16.alloc (.cells #[.int .i64 un, .int .i64 ud] 25) = w17 at *
  generalize w16.heap.size = nU1 at *
  refine (HV.out _).mono ?_
  rintro e w18 ⟨rfl, hb⟩
  have T18 := Lib.hid (T17.out.step hb)
  replace A := Lib.hid (A.out.step hb)
  replace B := Lib.hid (B.out.step hb)
  replace C := Lib.hid (C.out.step hb)
  replace S1 := Lib.hid (S1.out.step hb)
  replace P1 := Lib.hid (P1.out.step hb)
  replace U1 := Lib.hid (U1.out.step hb)
  clear hb
  clear cA0 cA1 cB0 cB1 cC0 cC1 cS10 cS11 cP10 cP11 cU10 cU11
  have T19 := Lib.hid (T18.out.alloc (.cells #[.int .i64 0, .int .i64 0] 25))
  replace A := Lib.hid (A.out.alloc (.cells #[.int .i64 0, .int .i64 0] 25))
  replace B := Lib.hid (B.out.alloc (.cells #[.int .i64 0, .int .i64 0] 25))
  replace C := Lib.hid (C.out.alloc (.cells #[.int .i64 0, .int .i64 0] 25))
  replace S1 := Lib.hid (S1.out.alloc (.cells #[.int .i64 0, .int .i64 0] 25))
  replace P1 := Lib.hid (P1.out.alloc (.cells #[.int .i64 0, .int .i64 0] 25))
  replace U1 := Lib.hid (U1.out.alloc (.cells #[.int .i64 0, .int .i64 0] 25))
  have V1 := Lib.hid (C2.new w18 (.int .i64 0) (.int .i64 0) 25)
  obtain ⟨cA0, cA1⟩ := A.out.cells
  obtain ⟨cB0, cB1⟩ := B.out.cells
  obtain ⟨cC0, cC1⟩ := C.out.cells
  obtain ⟨cS10, cS11⟩ := S1.out.cells
  obtain ⟨cP10, cP11⟩ := P1.out.cells
  obtain ⟨cU10, cU11⟩ := U1.out.cells
  obtain ⟨cV10, cV11⟩ := V1.out.cells
  go_wp2_with fail
  generalize w18.alloc (.cells #[.int .i64 0, .int .i64 0] 25) = w19 at *
  generalize w18.heap.size = nV1 at *
  refine (HQ.out _).mono ?_
  rintro e w20 ⟨rfl, hb⟩
  have T20 := Lib.hid (T19.out.step hb)
  replace A := Lib.hid (A.out.step hb)
  replace B := Lib.hid (B.out.step hb)
  replace C := Lib.hid (C.out.step hb)
  replace S1 := Lib.hid (S1.out.step hb)
  replace P1 := Lib.hid (P1.out.step hb)
  replace U1 := Lib.hid (U1.out.step hb)
  replace V1 := Lib.hid (V1.out.step hb)
  clear hb
  clear cA0 cA1 cB0 cB1 cC0 cC1 cS10 cS11 cP10 cP11 cU10 cU11 cV10 cV11
  have T21 := Lib.hid (T20.out.alloc (.cells #[.int .i64 qn, .int .i64 qd] 25))
  replace A := Lib.hid (A.out.alloc (.cells #[.int .i64 qn, .int .i64 qd] 25))
  replace B := Lib.hid (B.out.alloc (.cells #[.int .i64 qn, .int .i64 qd] 25))
  replace C := Lib.hid (C.out.alloc (.cells #[.int .i64 qn, .int .i64 qd] 25))
  replace S1 := Lib.hid (S1.out.alloc (.cells #[.int .i64 qn, .int .i64 qd] 25))
  replace P1 := Lib.hid (P1.out.alloc (.cells #[.int .i64 qn, .int .i64 qd] 25))
  replace U1 := Lib.hid (U1.out.alloc (.cells #[.int .i64 qn, .int .i64 qd] 25))
  replace V1 := Lib.hid (V1.out.alloc (.cells #[.int .i64 qn, .int .i64 qd] 25))
  have Q1 := Lib.hid (C2.new w20 (.int .i64 qn) (.int .i64 qd) 25)
  obtain ⟨cA0, cA1⟩ := A.out.cells
  obtain ⟨cB0, cB1⟩ := B.out.cells
  obtain ⟨cC0, cC1⟩ := C.out.cells
  obtain ⟨cS10, cS11⟩ := S1.out.cells
  obtain ⟨cP10, cP11⟩ := P1.out.cells
  obtain ⟨cU10, cU11⟩ := U1.out.cells
  obtain ⟨cV10, cV11⟩ := V1.out.cells
  obtain ⟨cQ10, cQ11⟩ := Q1.out.cells
  go_wp2_with fail
  generalize w20.alloc (.cells #[.int .i64 qn, .int .i64 qd] 25) = w21 at *
  generalize w20.heap.size = nQ1 at *
  refine (HZ1.out _).mono ?_
  rintro e w22 ⟨rfl, hb⟩
  have T22 := Lib.hid (T21.out.step hb)
  replace A := Lib.hid (A.out.step hb)
  replace B := Lib.hid (B.out.step hb)
  replace C := Lib.hid (C.out.step hb)
  replace S1 := Lib.hid (S1.out.step hb)
  replace P1 := Lib.hid (P1.out.step hb)
  replace U1 := Lib.hid (U1.out.step hb)
  replace V1 := Lib.hid (V1.out.step hb)
  replace Q1 := Lib.hid (Q1.out.step hb)
  clear hb
  clear cA0 cA1 cB0 cB1 cC0 cC1 cS10 cS11 cP10 cP11 cU10 cU11 cV10 cV11 cQ10 cQ11
  have T23 := Lib.hid (T22.out.alloc (.cells #[.int .i64 zn, .int .i64 zd] 25))
  replace A := Lib.hid (A.out.alloc (.cells #[.int .i64 zn, .int .i64 zd] 25))
  replace B := Lib.hid (B.out.alloc (.cells #[.int .i64 zn, .int .i64 zd] 25))
  replace C := Lib.hid (C.out.alloc (.cells #[.int .i64 zn, .int .i64 zd] 25))
  replace S1 := Lib.hid (S1.out.alloc (.cells #[.int .i64 zn, .int .i64 zd] 25))
  replace P1 := Lib.hid (P1.out.alloc (.cells #[.int .i64 zn, .int .i64 zd] 25))
  replace U1 := Lib.hid (U1.out.alloc (.cells #[.int .i64 zn, .int .i64 zd] 25))
  replace V1 := Lib.hid (V1.out.alloc (.cells #[.int .i64 zn, .int .i64 zd] 25))
  replace Q1 := Lib.hid (Q1.out.alloc (.cells #[.int .i64 zn, .int .i64 zd] 25))
  have Z1b := Lib.hid (C2.new w22 (.int .i64 zn) (.int .i64 zd) 25)
  obtain ⟨cA0, cA1⟩ := A.out.cells
  obtain ⟨cB0, cB1⟩ := B.out.cells
  obtain ⟨cC0, cC1⟩ := C.out.cells
  obtain ⟨cS10, cS11⟩ := S1.out.cells
  obtain ⟨cP10, cP11⟩ := P1.out.cells
  obtain ⟨cU10, cU11⟩ := U1.out.cells
  obtain ⟨cV10, cV11⟩ := V1.out.cells
  obtain ⟨cQ10, cQ11⟩ := Q1.out.cells
  obtain ⟨cZ1b0, cZ1b1⟩ := Z1b.out.cells
  go_wp2_with fail
  generalize w22.alloc (.cells #[.int .i64 zn, .int .i64 zd] 25) = w23 at *
  generalize w22.heap.size = nZ1b at *
  refine (HZ2.out _).mono ?_
  rintro e w24 ⟨rfl, hb⟩
  have T24 := Lib.hid (T23.out.step hb)
  replace A := Lib.hid (A.out.step hb)
  replace B := Lib.hid (B.out.step hb)
  replace C := Lib.hid (C.out.step hb)
  replace S1 := Lib.hid (S1.out.step hb)
  replace P1 := Lib.hid (P1.out.step hb)
  replace U1 := Lib.hid (U1.out.step hb)
  replace V1 := Lib.hid (V1.out.step hb)
  replace Q1 := Lib.hid (Q1.out.step hb)
  replace Z1b := Lib.hid (Z1b.out.step hb)
  clear hb
  clear cA0 cA1 cB0 cB1 cC0 cC1 cS10 cS11 cP10 cP11 cU10 cU11 cV10 cV11 cQ10 cQ11 cZ1b0 cZ1b1
  have T25 := Lib.hid (T24.out.alloc (.cells #[.int .i64 zn, .int .i64 zd] 25))
  replace A := Lib.hid (A.out.alloc (.cells #[.int .i64 zn, .int .i64 zd] 25))
  replace B := Lib.hid (B.out.alloc (.cells #[.int .i64 zn, .int .i64 zd] 25))
  replace C := Lib.hid (C.out.alloc (.cells #[.int .i64 zn, .int .i64 zd] 25))
  replace S1 := Lib.hid (S1.out.alloc (.cells #[.int .i64 zn, .int .i64 zd] 25))
  replace P1 := Lib.hid (P1.out.alloc (.cells #[.int .i64 zn, .int .i64 zd] 25))
  replace U1 := Lib.hid (U1.out.alloc (.cells #[.int .i64 zn, .int .i64 zd] 25))
  replace V1 := Lib.hid (V1.out.alloc (.cells #[.int .i64 zn, .int .i64 zd] 25))
  replace Q1 := Lib.hid (Q1.out.alloc (.cells #[.int .i64 zn, .int .i64 zd] 25))
  replace Z1b := Lib.hid (Z1b.out.alloc (.cells #[.int .i64 zn, .int .i64 zd] 25))
  have Z2b := Lib.hid (C2.new w24 (.int .i64 zn) (.int .i64 zd) 25)
  obtain ⟨cA0, cA1⟩ := A.out.cells
  obtain ⟨cB0, cB1⟩ := B.out.cells
  obtain ⟨cC0, cC1⟩ := C.out.cells
  obtain ⟨cS10, cS11⟩ := S1.out.cells
  obtain ⟨cP10, cP11⟩ := P1.out.cells
  obtain ⟨cU10, cU11⟩ := U1.out.cells
  obtain ⟨cV10, cV11⟩ := V1.out.cells
  obtain ⟨cQ10, cQ11⟩ := Q1.out.cells
  obtain ⟨cZ1b0, cZ1b1⟩ := Z1b.out.cells
  obtain ⟨cZ2b0, cZ2b1⟩ := Z2b.out.cells
  go_wp2_with fail
  generalize w24.alloc (.cells #[.int .i64 zn, .int .i64 zd] 25) = w25 at *
  generalize w24.heap.size = nZ2b at *
  go_ret
  exact ⟨by first | rfl | simp, T25.out.bel⟩
set_option maxHeartbeats 4000000 in
set_option maxRecDepth 100000 in
theorem field_11101 (an ad bn bd cn cd sn sd pn pd un ud qn qd xn xd xe zn zd ze : Int) (w : World) (ht : Tabs w)
    (hVa : ∀ w, Calls Tryd.prog 15 #[.agg #[.int .i64 an, .int .i64 ad]] w fun e w' => e = .returned (.bool true) ∧ Below w.heap.size w w')
    (hVb : ∀ w, Calls Tryd.prog 15 #[.agg #[.int .i64 bn, .int .i64 bd]] w fun e w' => e = .returned (.bool true) ∧ Below w.heap.size w w')
    (hVc : ∀ w, Calls Tryd.prog 15 #[.agg #[.int .i64 cn, .int .i64 cd]] w fun e w' => e = .returned (.bool true) ∧ Below w.heap.size w w')
    (hSab : ∀ w, Calls Tryd.prog 17 #[.agg #[.int .i64 an, .int .i64 ad], .agg #[.int .i64 bn, .int .i64 bd]] w (Ret3 w sn sd 0))
    (hSba : ∀ w, Calls Tryd.prog 17 #[.agg #[.int .i64 bn, .int .i64 bd], .agg #[.int .i64 an, .int .i64 ad]] w (Ret3 w sn sd 0))
    (hPab : ∀ w, Calls Tryd.prog 18 #[.agg #[.int .i64 an, .int .i64 ad], .agg #[.int .i64 bn, .int .i64 bd]] w (Ret3 w pn pd 0))
    (hPba : ∀ w, Calls Tryd.prog 18 #[.agg #[.int .i64 bn, .int .i64 bd], .agg #[.int .i64 an, .int .i64 ad]] w (Ret3 w pn pd 0))
    (hBk : ∀ w, Calls Tryd.prog 28 #[.agg #[.int .i64 sn, .int .i64 sd], .agg #[.int .i64 bn, .int .i64 bd]] w (Ret3 w an ad 0))
    (hb0 : (bn != 0) = false)
    (hU : ∀ w, Calls Tryd.prog 17 #[.agg #[.int .i64 bn, .int .i64 bd], .agg #[.int .i64 cn, .int .i64 cd]] w (Ret3 w un ud 0))
    (hV : ∀ w, Calls Tryd.prog 18 #[.agg #[.int .i64 bn, .int .i64 bd], .agg #[.int .i64 cn, .int .i64 cd]] w (Ret3 w 0 0 2))
    (hQ : ∀ w, Calls Tryd.prog 18 #[.agg #[.int .i64 an, .int .i64 ad], .agg #[.int .i64 cn, .int .i64 cd]] w (Ret3 w qn qd 0))
    (hX1 : ∀ w, Calls Tryd.prog 17 #[.agg #[.int .i64 sn, .int .i64 sd], .agg #[.int .i64 cn, .int .i64 cd]] w (Ret3 w xn xd xe))
    (hX2 : ∀ w, Calls Tryd.prog 17 #[.agg #[.int .i64 an, .int .i64 ad], .agg #[.int .i64 un, .int .i64 ud]] w (Ret3 w xn xd xe))
    (hZ1 : ∀ w, Calls Tryd.prog 18 #[.agg #[.int .i64 an, .int .i64 ad], .agg #[.int .i64 un, .int .i64 ud]] w (Ret3 w zn zd ze))
    (hZ2 : ∀ w, Calls Tryd.prog 17 #[.agg #[.int .i64 pn, .int .i64 pd], .agg #[.int .i64 qn, .int .i64 qd]] w (Ret3 w zn zd ze)) :
    Calls Tryd.prog 9 #[.agg #[.int .i64 an, .int .i64 ad], .agg #[.int .i64 bn, .int .i64 bd], .agg #[.int .i64 cn, .int .i64 cd]] w fun e w' => e = .returned (.bool true) ∧ Below w.heap.size w w' := by
  have HVa := Lib.hid hVa
  clear hVa
  have HVb := Lib.hid hVb
  clear hVb
  have HVc := Lib.hid hVc
  clear hVc
  have HSab := Lib.hid hSab
  clear hSab
  have HSba := Lib.hid hSba
  clear hSba
  have HPab := Lib.hid hPab
  clear hPab
  have HPba := Lib.hid hPba
  clear hPba
  have HBk := Lib.hid hBk
  clear hBk
  have HU := Lib.hid hU
  clear hU
  have HV := Lib.hid hV
  clear hV
  have HQ := Lib.hid hQ
  clear hQ
  have HX1 := Lib.hid hX1
  clear hX1
  have HX2 := Lib.hid hX2
  clear hX2
  have HZ1 := Lib.hid hZ1
  clear hZ1
  have HZ2 := Lib.hid hZ2
  clear hZ2
  have T0 : Hid (Trk w w) := Lib.hid ⟨ht, Below.refl _ _⟩
  clear ht
  have T1 := Lib.hid (T0.out.alloc (.cells #[.int .i64 an, .int .i64 ad] 25))
  have A := Lib.hid (C2.new (w) (.int .i64 an) (.int .i64 ad) 25)
  have T2 := Lib.hid (T1.out.alloc (.cells #[.int .i64 bn, .int .i64 bd] 25))
  replace A := Lib.hid (A.out.alloc (.cells #[.int .i64 bn, .int .i64 bd] 25))
  have B := Lib.hid (C2.new ((w).alloc (.cells #[.int .i64 an, .int .i64 ad] 25)) (.int .i64 bn) (.int .i64 bd) 25)
  have T3 := Lib.hid (T2.out.alloc (.cells #[.int .i64 cn, .int .i64 cd] 25))
  replace A := Lib.hid (A.out.alloc (.cells #[.int .i64 cn, .int .i64 cd] 25))
  replace B := Lib.hid (B.out.alloc (.cells #[.int .i64 cn, .int .i64 cd] 25))
  have C := Lib.hid (C2.new (((w).alloc (.cells #[.int .i64 an, .int .i64 ad] 25)).alloc (.cells #[.int .i64 bn, .int .i64 bd] 25)) (.int .i64 cn) (.int .i64 cd) 25)
  go_enter Tryd.func9, Tryd.ntmps9
  go_wp2_with fail
  have hz : ((w).alloc (.cells #[.int .i64 an, .int .i64 ad] 25)).heap.size = w.heap.size + 1 := by simp
  rw [hz] at B
  clear hz
  have hz : (((w).alloc (.cells #[.int .i64 an, .int .i64 ad] 25)).alloc (.cells #[.int .i64 bn, .int .i64 bd] 25)).heap.size = w.heap.size + 2 := by simp
  rw [hz] at C
  clear hz
  generalize (((w).alloc (.cells #[.int .i64 an, .int .i64 ad] 25)).alloc (.cells #[.int .i64 bn, .int .i64 bd] 25)).alloc (.cells #[.int .i64 cn, .int .i64 cd] 25) = w3 at *
  refine (head01 _ T3.out.tabs).mono ?_
  rintro e w4 ⟨rfl, hb⟩
  have T4 := Lib.hid (T3.out.step hb)
  replace A := Lib.hid (A.out.step hb)
  replace B := Lib.hid (B.out.step hb)
  replace C := Lib.hid (C.out.step hb)
  clear hb
  obtain ⟨cA0, cA1⟩ := A.out.cells
  obtain ⟨cB0, cB1⟩ := B.out.cells
  obtain ⟨cC0, cC1⟩ := C.out.cells
  go_wp2_with fail
  refine (HVa.out _).mono ?_
  rintro e w5 ⟨rfl, hb⟩
  have T5 := Lib.hid (T4.out.step hb)
  replace A := Lib.hid (A.out.step hb)
  replace B := Lib.hid (B.out.step hb)
  replace C := Lib.hid (C.out.step hb)
  clear hb
  clear cA0 cA1 cB0 cB1 cC0 cC1
  obtain ⟨cA0, cA1⟩ := A.out.cells
  obtain ⟨cB0, cB1⟩ := B.out.cells
  obtain ⟨cC0, cC1⟩ := C.out.cells
  go_wp2_with fail
  refine (HVb.out _).mono ?_
  rintro e w6 ⟨rfl, hb⟩
  have T6 := Lib.hid (T5.out.step hb)
  replace A := Lib.hid (A.out.step hb)
  replace B := Lib.hid (B.out.step hb)
  replace C := Lib.hid (C.out.step hb)
  clear hb
  clear cA0 cA1 cB0 cB1 cC0 cC1
  obtain ⟨cA0, cA1⟩ := A.out.cells
  obtain ⟨cB0, cB1⟩ := B.out.cells
  obtain ⟨cC0, cC1⟩ := C.out.cells
  go_wp2_with fail
  refine (HVc.out _).mono ?_
  rintro e w7 ⟨rfl, hb⟩
  have T7 := Lib.hid (T6.out.step hb)
  replace A := Lib.hid (A.out.step hb)
  replace B := Lib.hid (B.out.step hb)
  replace C := Lib.hid (C.out.step hb)
  clear hb
  clear cA0 cA1 cB0 cB1 cC0 cC1
  obtain ⟨cA0, cA1⟩ := A.out.cells
  obtain ⟨cB0, cB1⟩ := B.out.cells
  obtain ⟨cC0, cC1⟩ := C.out.cells
  go_wp2_with fail
  refine (HSab.out _).mono ?_
  rintro e w8 ⟨rfl, hb⟩
  have T8 := Lib.hid (T7.out.step hb)
  replace A := Lib.hid (A.out.step hb)
  replace B := Lib.hid (B.out.step hb)
  replace C := Lib.hid (C.out.step hb)
  clear hb
  clear cA0 cA1 cB0 cB1 cC0 cC1
  have T9 := Lib.hid (T8.out.alloc (.cells #[.int .i64 sn, .int .i64 sd] 25))
  replace A := Lib.hid (A.out.alloc (.cells #[.int .i64 sn, .int .i64 sd] 25))
  replace B := Lib.hid (B.out.alloc (.cells #[.int .i64 sn, .int .i64 sd] 25))
  replace C := Lib.hid (C.out.alloc (.cells #[.int .i64 sn, .int .i64 sd] 25))
  have S1 := Lib.hid (C2.new w8 (.int .i64 sn) (.int .i64 sd) 25)
  obtain ⟨cA0, cA1⟩ := A.out.cells
  obtain ⟨cB0, cB1⟩ := B.out.cells
  obtain ⟨cC0, cC1⟩ := C.out.cells
  obtain ⟨cS10, cS11⟩ := S1.out.cells
  go_wp2_with fail
  generalize w8.alloc (.cells #[.int .i64 sn, .int .i64 sd] 25) = w9 at *
  generalize w8.heap.size = nS1 at *
  refine (HSba.out _).mono ?_
  rintro e w10 ⟨rfl, hb⟩
  have T10 := Lib.hid (T9.out.step hb)
  replace A := Lib.hid (A.out.step hb)
  replace B := Lib.hid (B.out.step hb)
  replace C := Lib.hid (C.out.step hb)
  replace S1 := Lib.hid (S1.out.step hb)
  clear hb
  clear cA0 cA1 cB0 cB1 cC0 cC1 cS10 cS11
  have T11 := Lib.hid (T10.out.alloc (.cells #[.int .i64 sn, .int .i64 sd] 25))
  replace A := Lib.hid (A.out.alloc (.cells #[.int .i64 sn, .int .i64 sd] 25))
  replace B := Lib.hid (B.out.alloc (.cells #[.int .i64 sn, .int .i64 sd] 25))
  replace C := Lib.hid (C.out.alloc (.cells #[.int .i64 sn, .int .i64 sd] 25))
  replace S1 := Lib.hid (S1.out.alloc (.cells #[.int .i64 sn, .int .i64 sd] 25))
  have S2 := Lib.hid (C2.new w10 (.int .i64 sn) (.int .i64 sd) 25)
  obtain ⟨cA0, cA1⟩ := A.out.cells
  obtain ⟨cB0, cB1⟩ := B.out.cells
  obtain ⟨cC0, cC1⟩ := C.out.cells
  obtain ⟨cS10, cS11⟩ := S1.out.cells
  obtain ⟨cS20, cS21⟩ := S2.out.cells
  go_wp2_with fail
  generalize w10.alloc (.cells #[.int .i64 sn, .int .i64 sd] 25) = w11 at *
  generalize w10.heap.size = nS2 at *
  refine (HPab.out _).mono ?_
  rintro e w12 ⟨rfl, hb⟩
  have T12 := Lib.hid (T11.out.step hb)
  replace A := Lib.hid (A.out.step hb)
  replace B := Lib.hid (B.out.step hb)
  replace C := Lib.hid (C.out.step hb)
  replace S1 := Lib.hid (S1.out.step hb)
  replace S2 := Lib.hid (S2.out.step hb)
  clear hb
  clear cA0 cA1 cB0 cB1 cC0 cC1 cS10 cS11 cS20 cS21
  have T13 := Lib.hid (T12.out.alloc (.cells #[.int .i64 pn, .int .i64 pd] 25))
  replace A := Lib.hid (A.out.alloc (.cells #[.int .i64 pn, .int .i64 pd] 25))
  replace B := Lib.hid (B.out.alloc (.cells #[.int .i64 pn, .int .i64 pd] 25))
  replace C := Lib.hid (C.out.alloc (.cells #[.int .i64 pn, .int .i64 pd] 25))
  replace S1 := Lib.hid (S1.out.alloc (.cells #[.int .i64 pn, .int .i64 pd] 25))
  replace S2 := Lib.hid (S2.out.alloc (.cells #[.int .i64 pn, .int .i64 pd] 25))
  have P1 := Lib.hid (C2.new w12 (.int .i64 pn) (.int .i64 pd) 25)
  obtain ⟨cA0, cA1⟩ := A.out.cells
  obtain ⟨cB0, cB1⟩ := B.out.cells
  obtain ⟨cC0, cC1⟩ := C.out.cells
  obtain ⟨cS10, cS11⟩ := S1.out.cells
  obtain ⟨cS20, cS21⟩ := S2.out.cells
  obtain ⟨cP10, cP11⟩ := P1.out.cells
  go_wp2_with fail
  generalize w12.alloc (.cells #[.int .i64 pn, .int .i64 pd] 25) = w13 at *
  generalize w12.heap.size = nP1 at *
  refine (HPba.out _).mono ?_
  rintro e w14 ⟨rfl, hb⟩
  have T14 := Lib.hid (T13.out.step hb)
  replace A := Lib.hid (A.out.step hb)
  replace B := Lib.hid (B.out.step hb)
  replace C := Lib.hid (C.out.step hb)
  replace S1 := Lib.hid (S1.out.step hb)
  replace S2 := Lib.hid (S2.out.step hb)
  replace P1 := Lib.hid (P1.out.step hb)
  clear hb
  clear cA0 cA1 cB0 cB1 cC0 cC1 cS10 cS11 cS20 cS21 cP10 cP11
  have T15 := Lib.hid (T14.out.alloc (.cells #[.int .i64 pn, .int .i64 pd] 25))
  replace A := Lib.hid (A.out.alloc (.cells #[.int .i64 pn, .int .i64 pd] 25))
  replace B := Lib.hid (B.out.alloc (.cells #[.int .i64 pn, .int .i64 pd] 25))
  replace C := Lib.hid (C.out.alloc (.cells #[.int .i64 pn, .int .i64 pd] 25))
  replace S1 := Lib.hid (S1.out.alloc (.cells #[.int .i64 pn, .int .i64 pd] 25))
  replace S2 := Lib.hid (S2.out.alloc (.cells #[.int .i64 pn, .int .i64 pd] 25))
  replace P1 := Lib.hid (P1.out.alloc (.cells #[.int .i64 pn, .int .i64 pd] 25))
  have P2 := Lib.hid (C2.new w14 (.int .i64 pn) (.int .i64 pd) 25)
  obtain ⟨cA0, cA1⟩ := A.out.cells
  obtain ⟨cB0, cB1⟩ := B.out.cells
  obtain ⟨cC0, cC1⟩ := C.out.cells
  obtain ⟨cS10, cS11⟩ := S1.out.cells
  obtain ⟨cS20, cS21⟩ := S2.out.cells
  obtain ⟨cP10, cP11⟩ := P1.out.cells
  obtain ⟨cP20, cP21⟩ := P2.out.cells
  go_wp2_with fail
  generalize w14.alloc (.cells #[.int .i64 pn, .int .i64 pd] 25) = w15 at *
  generalize w14.heap.size = nP2 at *
  refine (HBk.out _).mono ?_
  rintro e w16 ⟨rfl, hb⟩
  have T16 := Lib.hid (T15.out.step hb)
  replace A := Lib.hid (A.out.step hb)
  replace B := Lib.hid (B.out.step hb)
  replace C := Lib.hid (C.out.step hb)
  replace S1 := Lib.hid (S1.out.step hb)
  replace S2 := Lib.hid (S2.out.step hb)
  replace P1 := Lib.hid (P1.out.step hb)
  replace P2 := Lib.hid (P2.out.step hb)
  clear hb
  clear cA0 cA1 cB0 cB1 cC0 cC1 cS10 cS11 cS20 cS21 cP10 cP11 cP20 cP21
  have T17 := Lib.hid (T16.out.alloc (.cells #[.int .i64 an, .int .i64 ad] 25))
  replace A := Lib.hid (A.out.alloc (.cells #[.int .i64 an, .int .i64 ad] 25))
  replace B := Lib.hid (B.out.alloc (.cells #[.int .i64 an, .int .i64 ad] 25))
  replace C := Lib.hid (C.out.alloc (.cells #[.int .i64 an, .int .i64 ad] 25))
  replace S1 := Lib.hid (S1.out.alloc (.cells #[.int .i64 an, .int .i64 ad] 25))
  replace S2 := Lib.hid (S2.out.alloc (.cells #[.int .i64 an, .int .i64 ad] 25))
  replace P1 := Lib.hid (P1.out.alloc (.cells #[.int .i64 an, .int .i64 ad] 25))
  replace P2 := Lib.hid (P2.out.alloc (.cells #[.int .i64 an, .int .i64 ad] 25))
  have K1 := Lib.hid (C2.new w16 (.int .i64 an) (.int .i64 ad) 25)
  obtain ⟨cA0, cA1⟩ := A.out.cells
  obtain ⟨cB0, cB1⟩ := B.out.cells
  obtain ⟨cC0, cC1⟩ := C.out.cells
  obtain ⟨cS10, cS11⟩ := S1.out.cells
  obtain ⟨cS20, cS21⟩ := S2.out.cells
  obtain ⟨cP10, cP11⟩ := P1.out.cells
  obtain ⟨cP20, cP21⟩ := P2.out.cells
  obtain ⟨cK10, cK11⟩ := K1.out.cells
  go_wp2_with fail
  generalize w16.alloc (.cells #[.int .i64 an, .int .i64 ad] 25) = w17 at *
  generalize w16.heap.size = nK1 at *
  clear cS20
  clear cS21
  clear cP20
  clear cP21
  clear cK10
  clear cK11
  clear S2 P2 K1
  refine (HU.out _).mono ?_
  rintro e w18 ⟨rfl, hb⟩
  have T18 := Lib.hid (T17.out.step hb)
  replace A := Lib.hid (A.out.step hb)
  replace B := Lib.hid (B.out.step hb)
  replace C := Lib.hid (C.out.step hb)
  replace S1 := Lib.hid (S1.out.step hb)
  replace P1 := Lib.hid (P1.out.step hb)
  clear hb
  clear cA0 cA1 cB0 cB1 cC0 cC1 cS10 cS11 cP10 cP11
  have T19 := Lib.hid (T18.out.alloc (.cells #[.int .i64 un, .int .i64 ud] 25))
  replace A := Lib.hid (A.out.alloc (.cells #[.int .i64 un, .int .i64 ud] 25))
  replace B := Lib.hid (B.out.alloc (.cells #[.int .i64 un, .int .i64 ud] 25))
  replace C := Lib.hid (C.out.alloc (.cells #[.int .i64 un, .int .i64 ud] 25))
  replace S1 := Lib.hid (S1.out.alloc (.cells #[.int .i64 un, .int .i64 ud] 25))
  replace P1 := Lib.hid (P1.out.alloc (.cells #[.int .i64 un, .int .i64 ud] 25))
  have U1 := Lib.hid (C2.new w18 (.int .i64 un) (.int .i64 ud) 25)
  obtain ⟨cA0, cA1⟩ := A.out.cells
  obtain ⟨cB0, cB1⟩ := B.out.cells
  obtain ⟨cC0, cC1⟩ := C.out.cells
  obtain ⟨cS10, cS11⟩ := S1.out.cells
  obtain ⟨cP10, cP11⟩ := P1.out.cells
  obtain ⟨cU10, cU11⟩ := U1.out.cells
  go_wp2_with fail
  generalize w18.alloc (.cells #[.int .i64 un, .int .i64 ud] 25) = w19 at *
  generalize w18.heap.size = nU1 at *
  refine (HV.out _).mono ?_
  rintro e w20 ⟨rfl, hb⟩
  have T20 := Lib.hid (T19.out.step hb)
  replace A := Lib.hid (A.out.step hb)
  replace B := Lib.hid (B.out.step hb)
  replace C := Lib.hid (C.out.step hb)
  replace S1 := Lib.hid (S1.out.step hb)
  replace P1 := Lib.hid (P1.out.step hb)
  replace U1 := Lib.hid (U1.out.step hb)
  clear hb
  clear cA0 cA1 cB0 cB1 cC0 cC1 cS10 cS11 cP10 cP11 cU10 cU11
  have T21 := Lib.hid (T20.out.alloc (.cells #[.int .i64 0, .int .i64 0] 25))
  replace A := Lib.hid (A.out.alloc (.cells #[.int .i64 0, .int .i64 0] 25))
  replace B := Lib.hid (B.out.alloc (.cells #[.int .i64 0, .int .i64 0] 25))
  replace C := Lib.hid (C.out.alloc (.cells #[.int .i64 0, .int .i64 0] 25))
  replace S1 := Lib.hid (S1.out.alloc (.cells #[.int .i64 0, .int .i64 0] 25))
  replace P1 := Lib.hid (P1.out.alloc (.cells #[.int .i64 0, .int .i64 0] 25))
  replace U1 := Lib.hid (U1.out.alloc (.cells #[.int .i64 0, .int .i64 0] 25))
  have V1 := Lib.hid (C2.new w20 (.int .i64 0) (.int .i64 0) 25)
  obtain ⟨cA0, cA1⟩ := A.out.cells
  obtain ⟨cB0, cB1⟩ := B.out.cells
  obtain ⟨cC0, cC1⟩ := C.out.cells
  obtain ⟨cS10, cS11⟩ := S1.out.cells
  obtain ⟨cP10, cP11⟩ := P1.out.cells
  obtain ⟨cU10, cU11⟩ := U1.out.cells
  obtain ⟨cV10, cV11⟩ := V1.out.cells
  go_wp2_with fail
  generalize w20.alloc (.cells #[.int .i64 0, .int .i64 0] 25) = w21 at *
  generalize w20.heap.size = nV1 at *
  refine (HQ.out _).mono ?_
  rintro e w22 ⟨rfl, hb⟩
  have T22 := Lib.hid (T21.out.step hb)
  replace A := Lib.hid (A.out.step hb)
  replace B := Lib.hid (B.out.step hb)
  replace C := Lib.hid (C.out.step hb)
  replace S1 := Lib.hid (S1.out.step hb)
  replace P1 := Lib.hid (P1.out.step hb)
  replace U1 := Lib.hid (U1.out.step hb)
  replace V1 := Lib.hid (V1.out.step hb)
  clear hb
  clear cA0 cA1 cB0 cB1 cC0 cC1 cS10 cS11 cP10 cP11 cU10 cU11 cV10 cV11
  have T23 := Lib.hid (T22.out.alloc (.cells #[.int .i64 qn, .int .i64 qd] 25))
  replace A := Lib.hid (A.out.alloc (.cells #[.int .i64 qn, .int .i64 qd] 25))
  replace B := Lib.hid (B.out.alloc (.cells #[.int .i64 qn, .int .i64 qd] 25))
  replace C := Lib.hid (C.out.alloc (.cells #[.int .i64 qn, .int .i64 qd] 25))
  replace S1 := Lib.hid (S1.out.alloc (.cells #[.int .i64 qn, .int .i64 qd] 25))
  replace P1 := Lib.hid (P1.out.alloc (.cells #[.int .i64 qn, .int .i64 qd] 25))
  replace U1 := Lib.hid (U1.out.alloc (.cells #[.int .i64 qn, .int .i64 qd] 25))
  replace V1 := Lib.hid (V1.out.alloc (.cells #[.int .i64 qn, .int .i64 qd] 25))
  have Q1 := Lib.hid (C2.new w22 (.int .i64 qn) (.int .i64 qd) 25)
  obtain ⟨cA0, cA1⟩ := A.out.cells
  obtain ⟨cB0, cB1⟩ := B.out.cells
  obtain ⟨cC0, cC1⟩ := C.out.cells
  obtain ⟨cS10, cS11⟩ := S1.out.cells
  obtain ⟨cP10, cP11⟩ := P1.out.cells
  obtain ⟨cU10, cU11⟩ := U1.out.cells
  obtain ⟨cV10, cV11⟩ := V1.out.cells
  obtain ⟨cQ10, cQ11⟩ := Q1.out.cells
  go_wp2_with fail
  generalize w22.alloc (.cells #[.int .i64 qn, .int .i64 qd] 25) = w23 at *
  generalize w22.heap.size = nQ1 at *
  refine (HX1.out _).mono ?_
  rintro e w24 ⟨rfl, hb⟩
  have T24 := Lib.hid (T23.out.step hb)
  replace A := Lib.hid (A.out.step hb)
  replace B := Lib.hid (B.out.step hb)
  replace C := Lib.hid (C.out.step hb)
  replace S1 := Lib.hid (S1.out.step hb)
  replace P1 := Lib.hid (P1.out.step hb)
  replace U1 := Lib.hid (U1.out.step hb)
  replace V1 := Lib.hid (V1.out.step hb)
  replace Q1 := Lib.hid (Q1.out.step hb)
  clear hb
  clear cA0 cA1 cB0 cB1 cC0 cC1 cS10 cS11 cP10 cP11 cU10 cU11 cV10 cV11 cQ10 cQ11
  have T25 := Lib.hid (T24.out.alloc (.cells #[.int .i64 xn, .int .i64 xd] 25))
  replace A := Lib.hid (A.out.alloc (.cells #[.int .i64 xn, .int .i64 xd] 25))
  replace B := Lib.hid (B.out.alloc (.cells #[.int .i64 xn, .int .i64 xd] 25))
  replace C := Lib.hid (C.out.alloc (.cells #[.int .i64 xn, .int .i64 xd] 25))
  replace S1 := Lib.hid (S1.out.alloc (.cells #[.int .i64 xn, .int .i64 xd] 25))
  replace P1 := Lib.hid (P1.out.alloc (.cells #[.int .i64 xn, .int .i64 xd] 25))
  replace U1 := Lib.hid (U1.out.alloc (.cells #[.int .i64 xn, .int .i64 xd] 25))
  replace V1 := Lib.hid (V1.out.alloc (.cells #[.int .i64 xn, .int .i64 xd] 25))
  replace Q1 := Lib.hid (Q1.out.alloc (.cells #[.int .i64 xn, .int .i64 xd] 25))
  have X1b := Lib.hid (C2.new w24 (.int .i64 xn) (.int .i64 xd) 25)
  obtain ⟨cA0, cA1⟩ := A.out.cells
  obtain ⟨cB0, cB1⟩ := B.out.cells
  obtain ⟨cC0, cC1⟩ := C.out.cells
  obtain ⟨cS10, cS11⟩ := S1.out.cells
  obtain ⟨cP10, cP11⟩ := P1.out.cells
  obtain ⟨cU10, cU11⟩ := U1.out.cells
  obtain ⟨cV10, cV11⟩ := V1.out.cells
  obtain ⟨cQ10, cQ11⟩ := Q1.out.cells
  obtain ⟨cX1b0, cX1b1⟩ := X1b.out.cells
  go_wp2_with fail
  generalize w24.alloc (.cells #[.int .i64 xn, .int .i64 xd] 25) = w25 at *
  generalize w24.heap.size = nX1b at *
  refine (HX2.out _).mono ?_
  rintro e w26 ⟨rfl, hb⟩
  have T26 := Lib.hid (T25.out.step hb)
  replace A := Lib.hid (A.out.step hb)
  replace B := Lib.hid (B.out.step hb)
  replace C := Lib.hid (C.out.step hb)
  replace S1 := Lib.hid (S1.out.step hb)
  replace P1 := Lib.hid (P1.out.step hb)
  replace U1 := Lib.hid (U1.out.step hb)
  replace V1 := Lib.hid (V1.out.step hb)
  replace Q1 := Lib.hid (Q1.out.step hb)
  replace X1b := Lib.hid (X1b.out.step hb)
  clear hb
  clear cA0 cA1 cB0 cB1 cC0 cC1 cS10 cS11 cP10 cP11 cU10 cU11 cV10 cV11 cQ10 cQ11 cX1b0 cX1b1
  have T27 := Lib.hid (T26.out.alloc (.cells #[.int .i64 xn, .int .i64 xd] 25))
  replace A := Lib.hid (A.out.alloc (.cells #[.int .i64 xn, .int .i64 xd] 25))
  replace B := Lib.hid (B.out.alloc (.cells #[.int .i64 xn, .int .i64 xd] 25))
  replace C := Lib.hid (C.out.alloc (.cells #[.int .i64 xn, .int .i64 xd] 25))
  replace S1 := Lib.hid (S1.out.alloc (.cells #[.int .i64 xn, .int .i64 xd] 25))
  replace P1 := Lib.hid (P1.out.alloc (.cells #[.int .i64 xn, .int .i64 xd] 25))
  replace U1 := Lib.hid (U1.out.alloc (.cells #[.int .i64 xn, .int .i64 xd] 25))
  replace V1 := Lib.hid (V1.out.alloc (.cells #[.int .i64 xn, .int .i64 xd] 25))
  replace Q1 := Lib.hid (Q1.out.alloc (.cells #[.int .i64 xn, .int .i64 xd] 25))
  replace X1b := Lib.hid (X1b.out.alloc (.cells #[.int .i64 xn, .int .i64 xd] 25))
  have X2b := Lib.hid (C2.new w26 (.int .i64 xn) (.int .i64 xd) 25)
  obtain ⟨cA0, cA1⟩ := A.out.cells
  obtain ⟨cB0, cB1⟩ := B.out.cells
  obtain ⟨cC0, cC1⟩ := C.out.cells
  obtain ⟨cS10, cS11⟩ := S1.out.cells
  obtain ⟨cP10, cP11⟩ := P1.out.cells
  obtain ⟨cU10, cU11⟩ := U1.out.cells
  obtain ⟨cV10, cV11⟩ := V1.out.cells
  obtain ⟨cQ10, cQ11⟩ := Q1.out.cells
  obtain ⟨cX1b0, cX1b1⟩ := X1b.out.cells
  obtain ⟨cX2b0, cX2b1⟩ := X2b.out.cells
  go_wp2_with fail
  generalize w26.alloc (.cells #[.int .i64 xn, .int .i64 xd] 25) = w27 at *
  generalize w26.heap.size = nX2b at *
  refine (HZ1.out _).mono ?_
  rintro e w28 ⟨rfl, hb⟩
  have T28 := Lib.hid (T27.out.step hb)
  replace A := Lib.hid (A.out.step hb)
  replace B := Lib.hid (B.out.step hb)
  replace C := Lib.hid (C.out.step hb)
  replace S1 := Lib.hid (S1.out.step hb)
  replace P1 := Lib.hid (P1.out.step hb)
  replace U1 := Lib.hid (U1.out.step hb)
  replace V1 := Lib.hid (V1.out.step hb)
  replace Q1 := Lib.hid (Q1.out.step hb)
  replace X1b := Lib.hid (X1b.out.step hb)
  replace X2b := Lib.hid (X2b.out.step hb)
  clear hb
  clear cA0 cA1 cB0 cB1 cC0 cC1 cS10 cS11 cP10 cP11 cU10 cU11 cV10 cV11 cQ10 cQ11 cX1b0 cX1b1 cX2b0 cX2b1
  have T29 := Lib.hid (T28.out.alloc (.cells #[.int .i64 zn, .int .i64 zd] 25))
  replace A := Lib.hid (A.out.alloc (.cells #[.int .i64 zn, .int .i64 zd] 25))
  replace B := Lib.hid (B.out.alloc (.cells #[.int .i64 zn, .int .i64 zd] 25))
  replace C := Lib.hid (C.out.alloc (.cells #[.int .i64 zn, .int .i64 zd] 25))
  replace S1 := Lib.hid (S1.out.alloc (.cells #[.int .i64 zn, .int .i64 zd] 25))
  replace P1 := Lib.hid (P1.out.alloc (.cells #[.int .i64 zn, .int .i64 zd] 25))
  replace U1 := Lib.hid (U1.out.alloc (.cells #[.int .i64 zn, .int .i64 zd] 25))
  replace V1 := Lib.hid (V1.out.alloc (.cells #[.int .i64 zn, .int .i64 zd] 25))
  replace Q1 := Lib.hid (Q1.out.alloc (.cells #[.int .i64 zn, .int .i64 zd] 25))
  replace X1b := Lib.hid (X1b.out.alloc (.cells #[.int .i64 zn, .int .i64 zd] 25))
  replace X2b := Lib.hid (X2b.out.alloc (.cells #[.int .i64 zn, .int .i64 zd] 25))
  have Z1b := Lib.hid (C2.new w28 (.int .i64 zn) (.int .i64 zd) 25)
  obtain ⟨cA0, cA1⟩ := A.out.cells
  obtain ⟨cB0, cB1⟩ := B.out.cells
  obtain ⟨cC0, cC1⟩ := C.out.cells
  obtain ⟨cS10, cS11⟩ := S1.out.cells
  obtain ⟨cP10, cP11⟩ := P1.out.cells
  obtain ⟨cU10, cU11⟩ := U1.out.cells
  obtain ⟨cV10, cV11⟩ := V1.out.cells
  obtain ⟨cQ10, cQ11⟩ := Q1.out.cells
  obtain ⟨cX1b0, cX1b1⟩ := X1b.out.cells
  obtain ⟨cX2b0, cX2b1⟩ := X2b.out.cells
  obtain ⟨cZ1b0, cZ1b1⟩ := Z1b.out.cells
  go_wp2_with fail
  generalize w28.alloc (.cells #[.int .i64 zn, .int .i64 zd] 25) = w29 at *
  generalize w28.heap.size = nZ1b at *
  refine (HZ2.out _).mono ?_
  rintro e w30 ⟨rfl, hb⟩
  have T30 := Lib.hid (T29.out.step hb)
  replace A := Lib.hid (A.out.step hb)
  replace B := Lib.hid (B.out.step hb)
  replace C := Lib.hid (C.out.step hb)
  replace S1 := Lib.hid (S1.out.step hb)
  replace P1 := Lib.hid (P1.out.step hb)
  replace U1 := Lib.hid (U1.out.step hb)
  replace V1 := Lib.hid (V1.out.step hb)
  replace Q1 := Lib.hid (Q1.out.step hb)
  replace X1b := Lib.hid (X1b.out.step hb)
  replace X2b := Lib.hid (X2b.out.step hb)
  replace Z1b := Lib.hid (Z1b.out.step hb)
  clear hb
  clear cA0 cA1 cB0 cB1 cC0 cC1 cS10 cS11 cP10 cP11 cU10 cU11 cV10 cV11 cQ10 cQ11 cX1b0 cX1b1 cX2b0 cX2b1 cZ1b0 cZ1b1
  have T31 := Lib.hid (T30.out.alloc (.cells #[.int .i64 zn, .int .i64 zd] 25))
  replace A := Lib.hid (A.out.alloc (.cells #[.int .i64 zn, .int .i64 zd] 25))
  replace B := Lib.hid (B.out.alloc (.cells #[.int .i64 zn, .int .i64 zd] 25))
  replace C := Lib.hid (C.out.alloc (.cells #[.int .i64 zn, .int .i64 zd] 25))
  replace S1 := Lib.hid (S1.out.alloc (.cells #[.int .i64 zn, .int .i64 zd] 25))
  replace P1 := Lib.hid (P1.out.alloc (.cells #[.int .i64 zn, .int .i64 zd] 25))
  replace U1 := Lib.hid (U1.out.alloc (.cells #[.int .i64 zn, .int .i64 zd] 25))
  replace V1 := Lib.hid (V1.out.alloc (.cells #[.int .i64 zn, .int .i64 zd] 25))
  replace Q1 := Lib.hid (Q1.out.alloc (.cells #[.int .i64 zn, .int .i64 zd] 25))
  replace X1b := Lib.hid (X1b.out.alloc (.cells #[.int .i64 zn, .int .i64 zd] 25))
  replace X2b := Lib.hid (X2b.out.alloc (.cells #[.int .i64 zn, .int .i64 zd] 25))
  replace Z1b := Lib.hid (Z1b.out.alloc (.cells #[.int .i64 zn, .int .i64 zd] 25))
  have Z2b := Lib.hid (C2.new w30 (.int .i64 zn) (.int .i64 zd) 25)
  obtain ⟨cA0, cA1⟩ := A.out.cells
  obtain ⟨cB0, cB1⟩ := B.out.cells
  obtain ⟨cC0, cC1⟩ := C.out.cells
  obtain ⟨cS10, cS11⟩ := S1.out.cells
  obtain ⟨cP10, cP11⟩ := P1.out.cells
  obtain ⟨cU10, cU11⟩ := U1.out.cells
  obtain ⟨cV10, cV11⟩ := V1.out.cells
  obtain ⟨cQ10, cQ11⟩ := Q1.out.cells
  obtain ⟨cX1b0, cX1b1⟩ := X1b.out.cells
  obtain ⟨cX2b0, cX2b1⟩ := X2b.out.cells
  obtain ⟨cZ1b0, cZ1b1⟩ := Z1b.out.cells
  obtain ⟨cZ2b0, cZ2b1⟩ := Z2b.out.cells
  go_wp2_with fail
  generalize w30.alloc (.cells #[.int .i64 zn, .int .i64 zd] 25) = w31 at *
  generalize w30.heap.size = nZ2b at *
  go_ret
  exact ⟨by first | rfl | simp, T31.out.bel⟩
set_option maxHeartbeats 4000000 in
set_option maxRecDepth 100000 in
theorem field_02101 (an ad bn bd cn cd pn pd un ud qn qd zn zd ze : Int) (w : World) (ht : Tabs w)
    (hVa : ∀ w, Calls Tryd.prog 15 #[.agg #[.int .i64 an, .int .i64 ad]] w fun e w' => e = .returned (.bool true) ∧ Below w.heap.size w w')
    (hVb : ∀ w, Calls Tryd.prog 15 #[.agg #[.int .i64 bn, .int .i64 bd]] w fun e w' => e = .returned (.bool true) ∧ Below w.heap.size w w')
    (hVc : ∀ w, Calls Tryd.prog 15 #[.agg #[.int .i64 cn, .int .i64 cd]] w fun e w' => e = .returned (.bool true) ∧ Below w.heap.size w w')
    (hSab : ∀ w, Calls Tryd.prog 17 #[.agg #[.int .i64 an, .int .i64 ad], .agg #[.int .i64 bn, .int .i64 bd]] w (Ret3 w 0 0 2))
    (hSba : ∀ w, Calls Tryd.prog 17 #[.agg #[.int .i64 bn, .int .i64 bd], .agg #[.int .i64 an, .int .i64 ad]] w (Ret3 w 0 0 2))
    (hPab : ∀ w, Calls Tryd.prog 18 #[.agg #[.int .i64 an, .int .i64 ad], .agg #[.int .i64 bn, .int .i64 bd]] w (Ret3 w pn pd 0))
    (hPba : ∀ w, Calls Tryd.prog 18 #[.agg #[.int .i64 bn, .int .i64 bd], .agg #[.int .i64 an, .int .i64 ad]] w (Ret3 w pn pd 0))
    (hDv : ∀ w, Calls Tryd.prog 31 #[.agg #[.int .i64 pn, .int .i64 pd], .agg #[.int .i64 bn, .int .i64 bd]] w (Ret3 w an ad 0))
    (hb0 : (bn != 0) = true)
    (hU : ∀ w, Calls Tryd.prog 17 #[.agg #[.int .i64 bn, .int .i64 bd], .agg #[.int .i64 cn, .int .i64 cd]] w (Ret3 w un ud 0))
    (hV : ∀ w, Calls Tryd.prog 18 #[.agg #[.int .i64 bn, .int .i64 bd], .agg #[.int .i64 cn, .int .i64 cd]] w (Ret3 w 0 0 2))
    (hQ : ∀ w, Calls Tryd.prog 18 #[.agg #[.int .i64 an, .int .i64 ad], .agg #[.int .i64 cn, .int .i64 cd]] w (Ret3 w qn qd 0))
    (hZ1 : ∀ w, Calls Tryd.prog 18 #[.agg #[.int .i64 an, .int .i64 ad], .agg #[.int .i64 un, .int .i64 ud]] w (Ret3 w zn zd ze))
    (hZ2 : ∀ w, Calls Tryd.prog 17 #[.agg #[.int .i64 pn, .int .i64 pd], .agg #[.int .i64 qn, .int .i64 qd]] w (Ret3 w zn zd ze)) :
    Calls Tryd.prog 9 #[.agg #[.int .i64 an, .int .i64 ad], .agg #[.int .i64 bn, .int .i64 bd], .agg #[.int .i64 cn, .int .i64 cd]] w fun e w' => e = .returned (.bool true) ∧ Below w.heap.size w w' := by
  have HVa := Lib.hid hVa
  clear hVa
  have HVb := Lib.hid hVb
  clear hVb
  have HVc := Lib.hid hVc
  clear hVc
  have HSab := Lib.hid hSab
  clear hSab
  have HSba := Lib.hid hSba
  clear hSba
  have HPab := Lib.hid hPab
  clear hPab
  have HPba := Lib.hid hPba
  clear hPba
  have HDv := Lib.hid hDv
  clear hDv
  have HU := Lib.hid hU
  clear hU
  have HV := Lib.hid hV
  clear hV
  have HQ := Lib.hid hQ
  clear hQ
  have HZ1 := Lib.hid hZ1
  clear hZ1
  have HZ2 := Lib.hid hZ2
  clear hZ2
  have T0 : Hid (Trk w w) := Lib.hid ⟨ht, Below.refl _ _⟩
  clear ht
  have T1 := Lib.hid (T0.out.alloc (.cells #[.int .i64 an, .int .i64 ad] 25))
  have A := Lib.hid (C2.new (w) (.int .i64 an) (.int .i64 ad) 25)
  have T2 := Lib.hid (T1.out.alloc (.cells #[.int .i64 bn, .int .i64 bd] 25))
  replace A := Lib.hid (A.out.alloc (.cells #[.int .i64 bn, .int .i64 bd] 25))
  have B := Lib.hid (C2.new ((w).alloc (.cells #[.int .i64 an, .int .i64 ad] 25)) (.int .i64 bn) (.int .i64 bd) 25)
  have T3 := Lib.hid (T2.out.alloc (.cells #[.int .i64 cn, .int .i64 cd] 25))
  replace A := Lib.hid (A.out.alloc (.cells #[.int .i64 cn, .int .i64 cd] 25))
  replace B := Lib.hid (B.out.alloc (.cells #[.int .i64 cn, .int .i64 cd] 25))
  have C := Lib.hid (C2.new (((w).alloc (.cells #[.int .i64 an, .int .i64 ad] 25)).alloc (.cells #[.int .i64 bn, .int .i64 bd] 25)) (.int .i64 cn) (.int .i64 cd) 25)
  go_enter Tryd.func9, Tryd.ntmps9
  go_wp2_with fail
  have hz : ((w).alloc (.cells #[.int .i64 an, .int .i64 ad] 25)).heap.size = w.heap.size + 1 := by simp
  rw [hz] at B
  clear hz
  have hz : (((w).alloc (.cells #[.int .i64 an, .int .i64 ad] 25)).alloc (.cells #[.int .i64 bn, .int .i64 bd] 25)).heap.size = w.heap.size + 2 := by simp
  rw [hz] at C
  clear hz
  generalize (((w).alloc (.cells #[.int .i64 an, .int .i64 ad] 25)).alloc (.cells #[.int .i64 bn, .int .i64 bd] 25)).alloc (.cells #[.int .i64 cn, .int .i64 cd] 25) = w3 at *
  refine (head01 _ T3.out.tabs).mono ?_
  rintro e w4 ⟨rfl, hb⟩
  have T4 := Lib.hid (T3.out.step hb)
  replace A := Lib.hid (A.out.step hb)
  replace B := Lib.hid (B.out.step hb)
  replace C := Lib.hid (C.out.step hb)
  clear hb
  obtain ⟨cA0, cA1⟩ := A.out.cells
  obtain ⟨cB0, cB1⟩ := B.out.cells
  obtain ⟨cC0, cC1⟩ := C.out.cells
  go_wp2_with fail
  refine (HVa.out _).mono ?_
  rintro e w5 ⟨rfl, hb⟩
  have T5 := Lib.hid (T4.out.step hb)
  replace A := Lib.hid (A.out.step hb)
  replace B := Lib.hid (B.out.step hb)
  replace C := Lib.hid (C.out.step hb)
  clear hb
  clear cA0 cA1 cB0 cB1 cC0 cC1
  obtain ⟨cA0, cA1⟩ := A.out.cells
  obtain ⟨cB0, cB1⟩ := B.out.cells
  obtain ⟨cC0, cC1⟩ := C.out.cells
  go_wp2_with fail
  refine (HVb.out _).mono ?_
  rintro e w6 ⟨rfl, hb⟩
  have T6 := Lib.hid (T5.out.step hb)
  replace A := Lib.hid (A.out.step hb)
  replace B := Lib.hid (B.out.step hb)
  replace C := Lib.hid (C.out.step hb)
  clear hb
  clear cA0 cA1 cB0 cB1 cC0 cC1
  obtain ⟨cA0, cA1⟩ := A.out.cells
  obtain ⟨cB0, cB1⟩ := B.out.cells
  obtain ⟨cC0, cC1⟩ := C.out.cells
  go_wp2_with fail
  refine (HVc.out _).mono ?_
  rintro e w7 ⟨rfl, hb⟩
  have T7 := Lib.hid (T6.out.step hb)
  replace A := Lib.hid (A.out.step hb)
  replace B := Lib.hid (B.out.step hb)
  replace C := Lib.hid (C.out.step hb)
  clear hb
  clear cA0 cA1 cB0 cB1 cC0 cC1
  obtain ⟨cA0, cA1⟩ := A.out.cells
  obtain ⟨cB0, cB1⟩ := B.out.cells
  obtain ⟨cC0, cC1⟩ := C.out.cells
  go_wp2_with fail
  refine (HSab.out _).mono ?_
  rintro e w8 ⟨rfl, hb⟩
  have T8 := Lib.hid (T7.out.step hb)
  replace A := Lib.hid (A.out.step hb)
  replace B := Lib.hid (B.out.step hb)
  replace C := Lib.hid (C.out.step hb)
  clear hb
  clear cA0 cA1 cB0 cB1 cC0 cC1
  have T9 := Lib.hid (T8.out.alloc (.cells #[.int .i64 0, .int .i64 0] 25))
  replace A := Lib.hid (A.out.alloc (.cells #[.int .i64 0, .int .i64 0] 25))
  replace B := Lib.hid (B.out.alloc (.cells #[.int .i64 0, .int .i64 0] 25))
  replace C := Lib.hid (C.out.alloc (.cells #[.int .i64 0, .int .i64 0] 25))
  have S1 := Lib.hid (C2.new w8 (.int .i64 0) (.int .i64 0) 25)
  obtain ⟨cA0, cA1⟩ := A.out.cells
  obtain ⟨cB0, cB1⟩ := B.out.cells
  obtain ⟨cC0, cC1⟩ := C.out.cells
  obtain ⟨cS10, cS11⟩ := S1.out.cells
  go_wp2_with fail
  generalize w8.alloc (.cells #[.int .i64 0, .int .i64 0] 25) = w9 at *
  generalize w8.heap.size = nS1 at *
  refine (HSba.out _).mono ?_
  rintro e w10 ⟨rfl, hb⟩
  have T10 := Lib.hid (T9.out.step hb)
  replace A := Lib.hid (A.out.step hb)
  replace B := Lib.hid (B.out.step hb)
  replace C := Lib.hid (C.out.step hb)
  replace S1 := Lib.hid (S1.out.step hb)
  clear hb
  clear cA0 cA1 cB0 cB1 cC0 cC1 cS10 cS11
  have T11 := Lib.hid (T10.out.alloc (.cells #[.int .i64 0, .int .i64 0] 25))
  replace A := Lib.hid (A.out.alloc (.cells #[.int .i64 0, .int .i64 0] 25))
  replace B := Lib.hid (B.out.alloc (.cells #[.int .i64 0, .int .i64 0] 25))
  replace C := Lib.hid (C.out.alloc (.cells #[.int .i64 0, .int .i64 0] 25))
  replace S1 := Lib.hid (S1.out.alloc (.cells #[.int .i64 0, .int .i64 0] 25))
  have S2 := Lib.hid (C2.new w10 (.int .i64 0) (.int .i64 0) 25)
  obtain ⟨cA0, cA1⟩ := A.out.cells
  obtain ⟨cB0, cB1⟩ := B.out.cells
  obtain ⟨cC0, cC1⟩ := C.out.cells
  obtain ⟨cS10, cS11⟩ := S1.out.cells
  obtain ⟨cS20, cS21⟩ := S2.out.cells
  go_wp2_with fail
  generalize w10.alloc (.cells #[.int .i64 0, .int .i64 0] 25) = w11 at *
  generalize w10.heap.size = nS2 at *
  refine (HPab.out _).mono ?_
  rintro e w12 ⟨rfl, hb⟩
  have T12 := Lib.hid (T11.out.step hb)
  replace A := Lib.hid (A.out.step hb)
  replace B := Lib.hid (B.out.step hb)
  replace C := Lib.hid (C.out.step hb)
  replace S1 := Lib.hid (S1.out.step hb)
  replace S2 := Lib.hid (S2.out.step hb)
  clear hb
  clear cA0 cA1 cB0 cB1 cC0 cC1 cS10 cS11 cS20 cS21
  have T13 := Lib.hid (T12.out.alloc (.cells #[.int .i64 pn, .int .i64 pd] 25))
  replace A := Lib.hid (A.out.alloc (.cells #[.int .i64 pn, .int .i64 pd] 25))
  replace B := Lib.hid (B.out.alloc (.cells #[.int .i64 pn, .int .i64 pd] 25))
  replace C := Lib.hid (C.out.alloc (.cells #[.int .i64 pn, .int .i64 pd] 25))
  replace S1 := Lib.hid (S1.out.alloc (.cells #[.int .i64 pn, .int .i64 pd] 25))
  replace S2 := Lib.hid (S2.out.alloc (.cells #[.int .i64 pn, .int .i64 pd] 25))
  have P1 := Lib.hid (C2.new w12 (.int .i64 pn) (.int .i64 pd) 25)
  obtain ⟨cA0, cA1⟩ := A.out.cells
  obtain ⟨cB0, cB1⟩ := B.out.cells
  obtain ⟨cC0, cC1⟩ := C.out.cells
  obtain ⟨cS10, cS11⟩ := S1.out.cells
  obtain ⟨cS20, cS21⟩ := S2.out.cells
  obtain ⟨cP10, cP11⟩ := P1.out.cells
  go_wp2_with fail
  generalize w12.alloc (.cells #[.int .i64 pn, .int .i64 pd] 25) = w13 at *
  generalize w12.heap.size = nP1 at *
  refine (HPba.out _).mono ?_
  rintro e w14 ⟨rfl, hb⟩
  have T14 := Lib.hid (T13.out.step hb)
  replace A := Lib.hid (A.out.step hb)
  replace B := Lib.hid (B.out.step hb)
  replace C := Lib.hid (C.out.step hb)
  replace S1 := Lib.hid (S1.out.step hb)
  replace S2 := Lib.hid (S2.out.step hb)
  replace P1 := Lib.hid (P1.out.step hb)
  clear hb
  clear cA0 cA1 cB0 cB1 cC0 cC1 cS10 cS11 cS20 cS21 cP10 cP11
  have T15 := Lib.hid (T14.out.alloc (.cells #[.int .i64 pn, .int .i64 pd] 25))
  replace A := Lib.hid (A.out.alloc (.cells #[.int .i64 pn, .int .i64 pd] 25))
  replace B := Lib.hid (B.out.alloc (.cells #[.int .i64 pn, .int .i64 pd] 25))
  replace C := Lib.hid (C.out.alloc (.cells #[.int .i64 pn, .int .i64 pd] 25))
  replace S1 := Lib.hid (S1.out.alloc (.cells #[.int .i64 pn, .int .i64 pd] 25))
  replace S2 := Lib.hid (S2.out.alloc (.cells #[.int .i64 pn, .int .i64 pd] 25))
  replace P1 := Lib.hid (P1.out.alloc (.cells #[.int .i64 pn, .int .i64 pd] 25))
  have P2 := Lib.hid (C2.new w14 (.int .i64 pn) (.int .i64 pd) 25)
  obtain ⟨cA0, cA1⟩ := A.out.cells
  obtain ⟨cB0, cB1⟩ := B.out.cells
  obtain ⟨cC0, cC1⟩ := C.out.cells
  obtain ⟨cS10, cS11⟩ := S1.out.cells
  obtain ⟨cS20, cS21⟩ := S2.out.cells
  obtain ⟨cP10, cP11⟩ := P1.out.cells
  obtain ⟨cP20, cP21⟩ := P2.out.cells
  go_wp2_with fail
  generalize w14.alloc (.cells #[.int .i64 pn, .int .i64 pd] 25) = w15 at *
  generalize w14.heap.size = nP2 at *
  refine (HDv.out _).mono ?_
  rintro e w16 ⟨rfl, hb⟩
  have T16 := Lib.hid (T15.out.step hb)
  replace A := Lib.hid (A.out.step hb)
  replace B := Lib.hid (B.out.step hb)
  replace C := Lib.hid (C.out.step hb)
  replace S1 := Lib.hid (S1.out.step hb)
  replace S2 := Lib.hid (S2.out.step hb)
  replace P1 := Lib.hid (P1.out.step hb)
  replace P2 := Lib.hid (P2.out.step hb)
  clear hb
  clear cA0 cA1 cB0 cB1 cC0 cC1 cS10 cS11 cS20 cS21 cP10 cP11 cP20 cP21
  have T17 := Lib.hid (T16.out.alloc (.cells #[.int .i64 an, .int .i64 ad] 25))
  replace A := Lib.hid (A.out.alloc (.cells #[.int .i64 an, .int .i64 ad] 25))
  replace B := Lib.hid (B.out.alloc (.cells #[.int .i64 an, .int .i64 ad] 25))
  replace C := Lib.hid (C.out.alloc (.cells #[.int .i64 an, .int .i64 ad] 25))
  replace S1 := Lib.hid (S1.out.alloc (.cells #[.int .i64 an, .int .i64 ad] 25))
  replace S2 := Lib.hid (S2.out.alloc (.cells #[.int .i64 an, .int .i64 ad] 25))
  replace P1 := Lib.hid (P1.out.alloc (.cells #[.int .i64 an, .int .i64 ad] 25))
  replace P2 := Lib.hid (P2.out.alloc (.cells #[.int .i64 an, .int .i64 ad] 25))
  have K2 := Lib.hid (C2.new w16 (.int .i64 an) (.int .i64 ad) 25)
  obtain ⟨cA0, cA1⟩ := A.out.cells
  obtain ⟨cB0, cB1⟩ := B.out.cells
  obtain ⟨cC0, cC1⟩ := C.out.cells
  obtain ⟨cS10, cS11⟩ := S1.out.cells
  obtain ⟨cS20, cS21⟩ := S2.out.cells
  obtain ⟨cP10, cP11⟩ := P1.out.cells
  obtain ⟨cP20, cP21⟩ := P2.out.cells
  obtain ⟨cK20, cK21⟩ := K2.out.cells
  go_wp2_with fail
  generalize w16.alloc (.cells #[.int .i64 an, .int .i64 ad] 25) = w17 at *
  generalize w16.heap.size = nK2 at *
  clear cS20
  clear cS21
  clear cP20
  clear cP21
  clear cK20
  clear cK21
  clear S2 P2 K2
  refine (HU.out _).mono ?_
  rintro e w18 ⟨rfl, hb⟩
  have T18 := Lib.hid (T17.out.step hb)
  replace A := Lib.hid (A.out.step hb)
  replace B := Lib.hid (B.out.step hb)
  replace C := Lib.hid (C.out.step hb)
  replace S1 := Lib.hid (S1.out.step hb)
  replace P1 := Lib.hid (P1.out.step hb)
  clear hb
  clear cA0 cA1 cB0 cB1 cC0 cC1 cS10 cS11 cP10 cP11
  have T19 := Lib.hid (T18.out.alloc (.cells #[.int .i64 un, .int .i64 ud] 25))
  replace A := Lib.hid (A.out.alloc (.cells #[.int .i64 un, .int .i64 ud] 25))
  replace B := Lib.hid (B.out.alloc (.cells #[.int .i64 un, .int .i64 ud] 25))
  replace C := Lib.hid (C.out.alloc (.cells #[.int .i64 un, .int .i64 ud] 25))
  replace S1 := Lib.hid (S1.out.alloc (.cells #[.int .i64 un, .int .i64 ud] 25))
  replace P1 := Lib.hid (P1.out.alloc (.cells #[.int .i64 un, .int .i64 ud] 25))
  have U1 := Lib.hid (C2.new w18 (.int .i64 un) (.int .i64 ud) 25)
  obtain ⟨cA0, cA1⟩ := A.out.cells
  obtain ⟨cB0, cB1⟩ := B.out.cells
  obtain ⟨cC0, cC1⟩ := C.out.cells
  obtain ⟨cS10, cS11⟩ := S1.out.cells
  obtain ⟨cP10, cP11⟩ := P1.out.cells
  obtain ⟨cU10, cU11⟩ := U1.out.cells
  go_wp2_with fail
  generalize w18.alloc (.cells #[.int .i64 un, .int .i64 ud] 25) = w19 at *
  generalize w18.heap.size = nU1 at *
  refine (HV.out _).mono ?_
  rintro e w20 ⟨rfl, hb⟩
  have T20 := Lib.hid (T19.out.step hb)
  replace A := Lib.hid (A.out.step hb)
  replace B := Lib.hid (B.out.step hb)
  replace C := Lib.hid (C.out.step hb)
  replace S1 := Lib.hid (S1.out.step hb)
  replace P1 := Lib.hid (P1.out.step hb)
  replace U1 := Lib.hid (U1.out.step hb)
  clear hb
  clear cA0 cA1 cB0 cB1 cC0 cC1 cS10 cS11 cP10 cP11 cU10 cU11
  have T21 := Lib.hid (T20.out.alloc (.cells #[.int .i64 0, .int .i64 0] 25))
  replace A := Lib.hid (A.out.alloc (.cells #[.int .i64 0, .int .i64 0] 25))
  replace B := Lib.hid (B.out.alloc (.cells #[.int .i64 0, .int .i64 0] 25))
  replace C := Lib.hid (C.out.alloc (.cells #[.int .i64 0, .int .i64 0] 25))
  replace S1 := Lib.hid (S1.out.alloc (.cells #[.int .i64 0, .int .i64 0] 25))
  replace P1 := Lib.hid (P1.out.alloc (.cells #[.int .i64 0, .int .i64 0] 25))
  replace U1 := Lib.hid (U1.out.alloc (.cells #[.int .i64 0, .int .i64 0] 25))
  have V1 := Lib.hid (C2.new w20 (.int .i64 0) (.int .i64 0) 25)
  obtain ⟨cA0, cA1⟩ := A.out.cells
  obtain ⟨cB0, cB1⟩ := B.out.cells
  obtain ⟨cC0, cC1⟩ := C.out.cells
  obtain ⟨cS10, cS11⟩ := S1.out.cells
  obtain ⟨cP10, cP11⟩ := P1.out.cells
  obtain ⟨cU10, cU11⟩ := U1.out.cells
  obtain ⟨cV10, cV11⟩ := V1.out.cells
  go_wp2_with fail
  generalize w20.alloc (.cells #[.int .i64 0, .int .i64 0] 25) = w21 at *
  generalize w20.heap.size = nV1 at *
  refine (HQ.out _).mono ?_
  rintro e w22 ⟨rfl, hb⟩
  have T22 := Lib.hid (T21.out.step hb)
  replace A := Lib.hid (A.out.step hb)
  replace B := Lib.hid (B.out.step hb)
  replace C := Lib.hid (C.out.step hb)
  replace S1 := Lib.hid (S1.out.step hb)
  replace P1 := Lib.hid (P1.out.step hb)
  replace U1 := Lib.hid (U1.out.step hb)
  replace V1 := Lib.hid (V1.out.step hb)
  clear hb
  clear cA0 cA1 cB0 cB1 cC0 cC1 cS10 cS11 cP10 cP11 cU10 cU11 cV10 cV11
  have T23 := Lib.hid (T22.out.alloc (.cells #[.int .i64 qn, .int .i64 qd] 25))
  replace A := Lib.hid (A.out.alloc (.cells #[.int .i64 qn, .int .i64 qd] 25))
  replace B := Lib.hid (B.out.alloc (.cells #[.int .i64 qn, .int .i64 qd] 25))
  replace C := Lib.hid (C.out.alloc (.cells #[.int .i64 qn, .int .i64 qd] 25))
  replace S1 := Lib.hid (S1.out.alloc (.cells #[.int .i64 qn, .int .i64 qd] 25))
  replace P1 := Lib.hid (P1.out.alloc (.cells #[.int .i64 qn, .int .i64 qd] 25))
  replace U1 := Lib.hid (U1.out.alloc (.cells #[.int .i64 qn, .int .i64 qd] 25))
  replace V1 := Lib.hid (V1.out.alloc (.cells #[.int .i64 qn, .int .i64 qd] 25))
  have Q1 := Lib.hid (C2.new w22 (.int .i64 qn) (.int .i64 qd) 25)
  obtain ⟨cA0, cA1⟩ := A.out.cells
  obtain ⟨cB0, cB1⟩ := B.out.cells
  obtain ⟨cC0, cC1⟩ := C.out.cells
  obtain ⟨cS10, cS11⟩ := S1.out.cells
  obtain ⟨cP10, cP11⟩ := P1.out.cells
  obtain ⟨cU10, cU11⟩ := U1.out.cells
  obtain ⟨cV10, cV11⟩ := V1.out.cells
  obtain ⟨cQ10, cQ11⟩ := Q1.out.cells
  go_wp2_with fail
  generalize w22.alloc (.cells #[.int .i64 qn, .int .i64 qd] 25) = w23 at *
  generalize w22.heap.size = nQ1 at *
  refine (HZ1.out _).mono ?_
  rintro e w24 ⟨rfl, hb⟩
  have T24 := Lib.hid (T23.out.step hb)
  replace A := Lib.hid (A.out.step hb)
  replace B := Lib.hid (B.out.step hb)
  replace C := Lib.hid (C.out.step hb)
  replace S1 := Lib.hid (S1.out.step hb)
  replace P1 := Lib.hid (P1.out.step hb)
  replace U1 := Lib.hid (U1.out.step hb)
  replace V1 := Lib.hid (V1.out.step hb)
  replace Q1 := Lib.hid (Q1.out.step hb)
  clear hb
  clear cA0 cA1 cB0 cB1 cC0 cC1 cS10 cS11 cP10 cP11 cU10 cU11 cV10 cV11 cQ10 cQ11
  have T25 := Lib.hid (T24.out.alloc (.cells #[.int .i64 zn, .int .i64 zd] 25))
  replace A := Lib.hid (A.out.alloc (.cells #[.int .i64 zn, .int .i64 zd] 25))
  replace B := Lib.hid (B.out.alloc (.cells #[.int .i64 zn, .int .i64 zd] 25))
  replace C := Lib.hid (C.out.alloc (.cells #[.int .i64 zn, .int .i64 zd] 25))
  replace S1 := Lib.hid (S1.out.alloc (.cells #[.int .i64 zn, .int .i64 zd] 25))
  replace P1 := Lib.hid (P1.out.alloc (.cells #[.int .i64 zn, .int .i64 zd] 25))
  replace U1 := Lib.hid (U1.out.alloc (.cells #[.int .i64 zn, .int .i64 zd] 25))
  replace V1 := Lib.hid (V1.out.alloc (.cells #[.int .i64 zn, .int .i64 zd] 25))
  replace Q1 := Lib.hid (Q1.out.alloc (.cells #[.int .i64 zn, .int .i64 zd] 25))
  have Z1b := Lib.hid (C2.new w24 (.int .i64 zn) (.int .i64 zd) 25)
  obtain ⟨cA0, cA1⟩ := A.out.cells
  obtain ⟨cB0, cB1⟩ := B.out.cells
  obtain ⟨cC0, cC1⟩ := C.out.cells
  obtain ⟨cS10, cS11⟩ := S1.out.cells
  obtain ⟨cP10, cP11⟩ := P1.out.cells
  obtain ⟨cU10, cU11⟩ := U1.out.cells
  obtain ⟨cV10, cV11⟩ := V1.out.cells
  obtain ⟨cQ10, cQ11⟩ := Q1.out.cells
  obtain ⟨cZ1b0, cZ1b1⟩ := Z1b.out.cells
  go_wp2_with fail
  generalize w24.alloc (.cells #[.int .i64 zn, .int .i64 zd] 25) = w25 at *
  generalize w24.heap.size = nZ1b at *
  refine (HZ2.out _).mono ?_
  rintro e w26 ⟨rfl, hb⟩
  have T26 := Lib.hid (T25.out.step hb)
  replace A := Lib.hid (A.out.step hb)
  replace B := Lib.hid (B.out.step hb)
  replace C := Lib.hid (C.out.step hb)
  replace S1 := Lib.hid (S1.out.step hb)
  replace P1 := Lib.hid (P1.out.step hb)
  replace U1 := Lib.hid (U1.out.step hb)
  replace V1 := Lib.hid (V1.out.step hb)
  replace Q1 := Lib.hid (Q1.out.step hb)
  replace Z1b := Lib.hid (Z1b.out.step hb)
  clear hb
  clear cA0 cA1 cB0 cB1 cC0 cC1 cS10 cS11 cP10 cP11 cU10 cU11 cV10 cV11 cQ10 cQ11 cZ1b0 cZ1b1
  have T27 := Lib.hid (T26.out.alloc (.cells #[.int .i64 zn, .int .i64 zd] 25))
  replace A := Lib.hid (A.out.alloc (.cells #[.int .i64 zn, .int .i64 zd] 25))
  replace B := Lib.hid (B.out.alloc (.cells #[.int .i64 zn, .int .i64 zd] 25))
  replace C := Lib.hid (C.out.alloc (.cells #[.int .i64 zn, .int .i64 zd] 25))
  replace S1 := Lib.hid (S1.out.alloc (.cells #[.int .i64 zn, .int .i64 zd] 25))
  replace P1 := Lib.hid (P1.out.alloc (.cells #[.int .i64 zn, .int .i64 zd] 25))
  replace U1 := Lib.hid (U1.out.alloc (.cells #[.int .i64 zn, .int .i64 zd] 25))
  replace V1 := Lib.hid (V1.out.alloc (.cells #[.int .i64 zn, .int .i64 zd] 25))
  replace Q1 := Lib.hid (Q1.out.alloc (.cells #[.int .i64 zn, .int .i64 zd] 25))
  replace Z1b := Lib.hid (Z1b.out.alloc (.cells #[.int .i64 zn, .int .i64 zd] 25))
  have Z2b := Lib.hid (C2.new w26 (.int .i64 zn) (.int .i64 zd) 25)
  obtain ⟨cA0, cA1⟩ := A.out.cells
  obtain ⟨cB0, cB1⟩ := B.out.cells
  obtain ⟨cC0, cC1⟩ := C.out.cells
  obtain ⟨cS10, cS11⟩ := S1.out.cells
  obtain ⟨cP10, cP11⟩ := P1.out.cells
  obtain ⟨cU10, cU11⟩ := U1.out.cells
  obtain ⟨cV10, cV11⟩ := V1.out.cells
  obtain ⟨cQ10, cQ11⟩ := Q1.out.cells
  obtain ⟨cZ1b0, cZ1b1⟩ := Z1b.out.cells
  obtain ⟨cZ2b0, cZ2b1⟩ := Z2b.out.cells
  go_wp2_with fail
  generalize w26.alloc (.cells #[.int .i64 zn, .int .i64 zd] 25) = w27 at *
  generalize w26.heap.size = nZ2b at *
  go_ret
  exact ⟨by first | rfl | simp, T27.out.bel⟩
set_option maxHeartbeats 4000000 in
set_option maxRecDepth 100000 in
theorem field_12101 (an ad bn bd cn cd sn sd pn pd un ud qn qd xn xd xe zn zd ze : Int) (w : World) (ht : Tabs w)
    (hVa : ∀ w, Calls Tryd.prog 15 #[.agg #[.int .i64 an, .int .i64 ad]] w fun e w' => e = .returned (.bool true) ∧ Below w.heap.size w w')
    (hVb : ∀ w, Calls Tryd.prog 15 #[.agg #[.int .i64 bn, .int .i64 bd]] w fun e w' => e = .returned (.bool true) ∧ Below w.heap.size w w')
    (hVc : ∀ w, Calls Tryd.prog 15 #[.agg #[.int .i64 cn, .int .i64 cd]] w fun e w' => e = .returned (.bool true) ∧ Below w.heap.size w w')
    (hSab : ∀ w, Calls Tryd.prog 17 #[.agg #[.int .i64 an, .int .i64 ad], .agg #[.int .i64 bn, .int .i64 bd]] w (Ret3 w sn sd 0))
    (hSba : ∀ w, Calls Tryd.prog 17 #[.agg #[.int .i64 bn, .int .i64 bd], .agg #[.int .i64 an, .int .i64 ad]] w (Ret3 w sn sd 0))
    (hPab : ∀ w, Calls Tryd.prog 18 #[.agg #[.int .i64 an, .int .i64 ad], .agg #[.int .i64 bn, .int .i64 bd]] w (Ret3 w pn pd 0))
    (hPba : ∀ w, Calls Tryd.prog 18 #[.agg #[.int .i64 bn, .int .i64 bd], .agg #[.int .i64 an, .int .i64 ad]] w (Ret3 w pn pd 0))
    (hBk : ∀ w, Calls Tryd.prog 28 #[.agg #[.int .i64 sn, .int .i64 sd], .agg #[.int .i64 bn, .int .i64 bd]] w (Ret3 w an ad 0))
    (hDv : ∀ w, Calls Tryd.prog 31 #[.agg #[.int .i64 pn, .int .i64 pd], .agg #[.int .i64 bn, .int .i64 bd]] w (Ret3 w an ad 0))
    (hb0 : (bn != 0) = true)
    (hU : ∀ w, Calls Tryd.prog 17 #[.agg #[.int .i64 bn, .int .i64 bd], .agg #[.int .i64 cn, .int .i64 cd]] w (Ret3 w un ud 0))
    (hV : ∀ w, Calls Tryd.prog 18 #[.agg #[.int .i64 bn, .int .i64 bd], .agg #[.int .i64 cn, .int .i64 cd]] w (Ret3 w 0 0 2))
    (hQ : ∀ w, Calls Tryd.prog 18 #[.agg #[.int .i64 an, .int .i64 ad], .agg #[.int .i64 cn, .int .i64 cd]] w (Ret3 w qn qd 0))
    (hX1 : ∀ w, Calls Tryd.prog 17 #[.agg #[.int .i64 sn, .int .i64 sd], .agg #[.int .i64 cn, .int .i64 cd]] w (Ret3 w xn xd xe))
    (hX2 : ∀ w, Calls Tryd.prog 17 #[.agg #[.int .i64 an, .int .i64 ad], .agg #[.int .i64 un, .int .i64 ud]] w (Ret3 w xn xd xe))
    (hZ1 : ∀ w, Calls Tryd.prog 18 #[.agg #[.int .i64 an, .int .i64 ad], .agg #[.int .i64 un, .int .i64 ud]] w (Ret3 w zn zd ze))
    (hZ2 : ∀ w, Calls Tryd.prog 17 #[.agg #[.int .i64 pn, .int .i64 pd], .agg #[.int .i64 qn, .int .i64 qd]] w (Ret3 w zn zd ze)) :
    Calls Tryd.prog 9 #[.agg #[.int .i64 an, .int .i64 ad], .agg #[.int .i64 bn, .int .i64 bd], .agg #[.int .i64 cn, .int .i64 cd]] w fun e w' => e = .returned (.bool true) ∧ Below w.heap.size w w' := by
  have HVa := Lib.hid hVa
  clear hVa
  have HVb := Lib.hid hVb
  clear hVb
  have HVc := Lib.hid hVc
  clear hVc
  have HSab := Lib.hid hSab
  clear hSab
  have HSba := Lib.hid hSba
  clear hSba
  have HPab := Lib.hid hPab
  clear hPab
  have HPba := Lib.hid hPba
  clear hPba
  have HBk := Lib.hid hBk
  clear hBk
  have HDv := Lib.hid hDv
  clear hDv
  have HU := Lib.hid hU
  clear hU
  have HV := Lib.hid hV
  clear hV
  have HQ := Lib.hid hQ
  clear hQ
  have HX1 := Lib.hid hX1
  clear hX1
  have HX2 := Lib.hid hX2
  clear hX2
  have HZ1 := Lib.hid hZ1
  clear hZ1
  have HZ2 := Lib.hid hZ2
  clear hZ2
  have T0 : Hid (Trk w w) := Lib.hid ⟨ht, Below.refl _ _⟩
  clear ht
  have T1 := Lib.hid (T0.out.alloc (.cells #[.int .i64 an, .int .i64 ad] 25))
  have A := Lib.hid (C2.new (w) (.int .i64 an) (.int .i64 ad) 25)
  have T2 := Lib.hid (T1.out.alloc (.cells #[.int .i64 bn, .int .i64 bd] 25))
  replace A := Lib.hid (A.out.alloc (.cells #[.int .i64 bn, .int .i64 bd] 25))
  have B := Lib.hid (C2.new ((w).alloc (.cells #[.int .i64 an, .int .i64 ad] 25)) (.int .i64 bn) (.int .i64 bd) 25)
  have T3 := Lib.hid (T2.out.alloc (.cells #[.int .i64 cn, .int .i64 cd] 25))
  replace A := Lib.hid (A.out.alloc (.cells #[.int .i64 cn, .int .i64 cd] 25))
  replace B := Lib.hid (B.out.alloc (.cells #[.int .i64 cn, .int .i64 cd] 25))
  have C := Lib.hid (C2.new (((w).alloc (.cells #[.int .i64 an, .int .i64 ad] 25)).alloc (.cells #[.int .i64 bn, .int .i64 bd] 25)) (.int .i64 cn) (.int .i64 cd) 25)
  go_enter Tryd.func9, Tryd.ntmps9
  go_wp2_with fail
  have hz : ((w).alloc (.cells #[.int .i64 an, .int .i64 ad] 25)).heap.size = w.heap.size + 1 := by simp
  rw [hz] at B
  clear hz
  have hz : (((w).alloc (.cells #[.int .i64 an, .int .i64 ad] 25)).alloc (.cells #[.int .i64 bn, .int .i64 bd] 25)).heap.size = w.heap.size + 2 := by simp
  rw [hz] at C
  clear hz
  generalize (((w).alloc (.cells #[.int .i64 an, .int .i64 ad] 25)).alloc (.cells #[.int .i64 bn, .int .i64 bd] 25)).alloc (.cells #[.int .i64 cn, .int .i64 cd] 25) = w3 at *
  refine (head01 _ T3.out.tabs).mono ?_
  rintro e w4 ⟨rfl, hb⟩
  have T4 := Lib.hid (T3.out.step hb)
  replace A := Lib.hid (A.out.step hb)
  replace B := Lib.hid (B.out.step hb)
  replace C := Lib.hid (C.out.step hb)
  clear hb
  obtain ⟨cA0, cA1⟩ := A.out.cells
  obtain ⟨cB0, cB1⟩ := B.out.cells
  obtain ⟨cC0, cC1⟩ := C.out.cells
  go_wp2_with fail
  refine (HVa.out _).mono ?_
  rintro e w5 ⟨rfl, hb⟩
  have T5 := Lib.hid (T4.out.step hb)
  replace A := Lib.hid (A.out.step hb)
  replace B := Lib.hid (B.out.step hb)
  replace C := Lib.hid (C.out.step hb)
  clear hb
  clear cA0 cA1 cB0 cB1 cC0 cC1
  obtain ⟨cA0, cA1⟩ := A.out.cells
  obtain ⟨cB0, cB1⟩ := B.out.cells
  obtain ⟨cC0, cC1⟩ := C.out.cells
  go_wp2_with fail
  refine (HVb.out _).mono ?_
  rintro e w6 ⟨rfl, hb⟩
  have T6 := Lib.hid (T5.out.step hb)
  replace A := Lib.hid (A.out.step hb)
  replace B := Lib.hid (B.out.step hb)
  replace C := Lib.hid (C.out.step hb)
  clear hb
  clear cA0 cA1 cB0 cB1 cC0 cC1
  obtain ⟨cA0, cA1⟩ := A.out.cells
  obtain ⟨cB0, cB1⟩ := B.out.cells
  obtain ⟨cC0, cC1⟩ := C.out.cells
  go_wp2_with fail
  refine (HVc.out _).mono ?_
  rintro e w7 ⟨rfl, hb⟩
  have T7 := Lib.hid (T6.out.step hb)
  replace A := Lib.hid (A.out.step hb)
  replace B := Lib.hid (B.out.step hb)
  replace C := Lib.hid (C.out.step hb)
  clear hb
  clear cA0 cA1 cB0 cB1 cC0 cC1
  obtain ⟨cA0, cA1⟩ := A.out.cells
  obtain ⟨cB0, cB1⟩ := B.out.cells
  obtain ⟨cC0, cC1⟩ := C.out.cells
  go_wp2_with fail
  refine (HSab.out _).mono ?_
  rintro e w8 ⟨rfl, hb⟩
  have T8 := Lib.hid (T7.out.step hb)
  replace A := Lib.hid (A.out.step hb)
  replace B := Lib.hid (B.out.step hb)
  replace C := Lib.hid (C.out.step hb)
  clear hb
  clear cA0 cA1 cB0 cB1 cC0 cC1
  have T9 := Lib.hid (T8.out.alloc (.cells #[.int .i64 sn, .int .i64 sd] 25))
  replace A := Lib.hid (A.out.alloc (.cells #[.int .i64 sn, .int .i64 sd] 25))
  replace B := Lib.hid (B.out.alloc (.cells #[.int .i64 sn, .int .i64 sd] 25))
  replace C := Lib.hid (C.out.alloc (.cells #[.int .i64 sn, .int .i64 sd] 25))
  have S1 := Lib.hid (C2.new w8 (.int .i64 sn) (.int .i64 sd) 25)
  obtain ⟨cA0, cA1⟩ := A.out.cells
  obtain ⟨cB0, cB1⟩ := B.out.cells
  obtain ⟨cC0, cC1⟩ := C.out.cells
  obtain ⟨cS10, cS11⟩ := S1.out.cells
  go_wp2_with fail
  generalize w8.alloc (.cells #[.int .i64 sn, .int .i64 sd] 25) = w9 at *
  generalize w8.heap.size = nS1 at *
  refine (HSba.out _).mono ?_
  rintro e w10 ⟨rfl, hb⟩
  have T10 := Lib.hid (T9.out.step hb)
  replace A := Lib.hid (A.out.step hb)
  replace B := Lib.hid (B.out.step hb)
  replace C := Lib.hid (C.out.step hb)
  replace S1 := Lib.hid (S1.out.step hb)
  clear hb
  clear cA0 cA1 cB0 cB1 cC0 cC1 cS10 cS11
  have T11 := Lib.hid (T10.out.alloc (.cells #[.int .i64 sn, .int .i64 sd] 25))
  replace A := Lib.hid (A.out.alloc (.cells #[.int .i64 sn, .int .i64 sd] 25))
  replace B := Lib.hid (B.out.alloc (.cells #[.int .i64 sn, .int .i64 sd] 25))
  replace C := Lib.hid (C.out.alloc (.cells #[.int .i64 sn, .int .i64 sd] 25))
  replace S1 := Lib.hid (S1.out.alloc (.cells #[.int .i64 sn, .int .i64 sd] 25))
  have S2 := Lib.hid (C2.new w10 (.int .i64 sn) (.int .i64 sd) 25)
  obtain ⟨cA0, cA1⟩ := A.out.cells
  obtain ⟨cB0, cB1⟩ := B.out.cells
  obtain ⟨cC0, cC1⟩ := C.out.cells
  obtain ⟨cS10, cS11⟩ := S1.out.cells
  obtain ⟨cS20, cS21⟩ := S2.out.cells
  go_wp2_with fail
  generalize w10.alloc (.cells #[.int .i64 sn, .int .i64 sd] 25) = w11 at *
  generalize w10.heap.size = nS2 at *
  refine (HPab.out _).mono ?_
  rintro e w12 ⟨rfl, hb⟩
  have T12 := Lib.hid (T11.out.step hb)
  replace A := Lib.hid (A.out.step hb)
  replace B := Lib.hid (B.out.step hb)
  replace C := Lib.hid (C.out.step hb)
  replace S1 := Lib.hid (S1.out.step hb)
  replace S2 := Lib.hid (S2.out.step hb)
  clear hb
  clear cA0 cA1 cB0 cB1 cC0 cC1 cS10 cS11 cS20 cS21
  have T13 := Lib.hid (T12.out.alloc (.cells #[.int .i64 pn, .int .i64 pd] 25))
  replace A := Lib.hid (A.out.alloc (.cells #[.int .i64 pn, .int .i64 pd] 25))
  replace B := Lib.hid (B.out.alloc (.cells #[.int .i64 pn, .int .i64 pd] 25))
  replace C := Lib.hid (C.out.alloc (.cells #[.int .i64 pn, .int .i64 pd] 25))
  replace S1 := Lib.hid (S1.out.alloc (.cells #[.int .i64 pn, .int .i64 pd] 25))
  replace S2 := Lib.hid (S2.out.alloc (.cells #[.int .i64 pn, .int .i64 pd] 25))
  have P1 := Lib.hid (C2.new w12 (.int .i64 pn) (.int .i64 pd) 25)
  obtain ⟨cA0, cA1⟩ := A.out.cells
  obtain ⟨cB0, cB1⟩ := B.out.cells
  obtain ⟨cC0, cC1⟩ := C.out.cells
  obtain ⟨cS10, cS11⟩ := S1.out.cells
  obtain ⟨cS20, cS21⟩ := S2.out.cells
  obtain ⟨cP10, cP11⟩ := P1.out.cells
  go_wp2_with fail
  generalize w12.alloc (.cells #[.int .i64 pn, .int .i64 pd] 25) = w13 at *
  generalize w12.heap.size = nP1 at *
  refine (HPba.out _).mono ?_
  rintro e w14 ⟨rfl, hb⟩
  have T14 := Lib.hid (T13.out.step hb)
  replace A := Lib.hid (A.out.step hb)
  replace B := Lib.hid (B.out.step hb)
  replace C := Lib.hid (C.out.step hb)
  replace S1 := Lib.hid (S1.out.step hb)
  replace S2 := Lib.hid (S2.out.step hb)
  replace P1 := Lib.hid (P1.out.step hb)
  clear hb
  clear cA0 cA1 cB0 cB1 cC0 cC1 cS10 cS11 cS20 cS21 cP10 cP11
  have T15 := Lib.hid (T14.out.alloc (.cells #[.int .i64 pn, .int .i64 pd] 25))
  replace A := Lib.hid (A.out.alloc (.cells #[.int .i64 pn, .int .i64 pd] 25))
  replace B := Lib.hid (B.out.alloc (.cells #[.int .i64 pn, .int .i64 pd] 25))
  replace C := Lib.hid (C.out.alloc (.cells #[.int .i64 pn, .int .i64 pd] 25))
  replace S1 := Lib.hid (S1.out.alloc (.cells #[.int .i64 pn, .int .i64 pd] 25))
  replace S2 := Lib.hid (S2.out.alloc (.cells #[.int .i64 pn, .int .i64 pd] 25))
  replace P1 := Lib.hid (P1.out.alloc (.cells #[.int .i64 pn, .int .i64 pd] 25))
  have P2 := Lib.hid (C2.new w14 (.int .i64 pn) (.int .i64 pd) 25)
  obtain ⟨cA0, cA1⟩ := A.out.cells
  obtain ⟨cB0, cB1⟩ := B.out.cells
  obtain ⟨cC0, cC1⟩ := C.out.cells
  obtain ⟨cS10, cS11⟩ := S1.out.cells
  obtain ⟨cS20, cS21⟩ := S2.out.cells
  obtain ⟨cP10, cP11⟩ := P1.out.cells
  obtain ⟨cP20, cP21⟩ := P2.out.cells
  go_wp2_with fail
  generalize w14.alloc (.cells #[.int .i64 pn, .int .i64 pd] 25) = w15 at *
  generalize w14.heap.size = nP2 at *
  refine (HBk.out _).mono ?_
  rintro e w16 ⟨rfl, hb⟩
  have T16 := Lib.hid (T15.out.step hb)
  replace A := Lib.hid (A.out.step hb)
  replace B := Lib.hid (B.out.step hb)
  replace C := Lib.hid (C.out.step hb)
  replace S1 := Lib.hid (S1.out.step hb)
  replace S2 := Lib.hid (S2.out.step hb)
  replace P1 := Lib.hid (P1.out.step hb)
  replace P2 := Lib.hid (P2.out.step hb)
  clear hb
  clear cA0 cA1 cB0 cB1 cC0 cC1 cS10 cS11 cS20 cS21 cP10 cP11 cP20 cP21
  have T17 := Lib.hid (T16.out.alloc (.cells #[.int .i64 an, .int .i64 ad] 25))
  replace A := Lib.hid (A.out.alloc (.cells #[.int .i64 an, .int .i64 ad] 25))
  replace B := Lib.hid (B.out.alloc (.cells #[.int .i64 an, .int .i64 ad] 25))
  replace C := Lib.hid (C.out.alloc (.cells #[.int .i64 an, .int .i64 ad] 25))
  replace S1 := Lib.hid (S1.out.alloc (.cells #[.int .i64 an, .int .i64 ad] 25))
  replace S2 := Lib.hid (S2.out.alloc (.cells #[.int .i64 an, .int .i64 ad] 25))
  replace P1 := Lib.hid (P1.out.alloc (.cells #[.int .i64 an, .int .i64 ad] 25))
  replace P2 := Lib.hid (P2.out.alloc (.cells #[.int .i64 an, .int .i64 ad] 25))
  have K1 := Lib.hid (C2.new w16 (.int .i64 an) (.int .i64 ad) 25)
  obtain ⟨cA0, cA1⟩ := A.out.cells
  obtain ⟨cB0, cB1⟩ := B.out.cells
  obtain ⟨cC0, cC1⟩ := C.out.cells
  obtain ⟨cS10, cS11⟩ := S1.out.cells
  obtain ⟨cS20, cS21⟩ := S2.out.cells
  obtain ⟨cP10, cP11⟩ := P1.out.cells
  obtain ⟨cP20, cP21⟩ := P2.out.cells
  obtain ⟨cK10, cK11⟩ := K1.out.cells
  go_wp2_with fail
  generalize w16.alloc (.cells #[.int .i64 an, .int .i64 ad] 25) = w17 at *
  generalize w16.heap.size = nK1 at *
  refine (HDv.out _).mono ?_
  rintro e w18 ⟨rfl, hb⟩
  have T18 := Lib.hid (T17.out.step hb)
  replace A := Lib.hid (A.out.step hb)
  replace B := Lib.hid (B.out.step hb)
  replace C := Lib.hid (C.out.step hb)
  replace S1 := Lib.hid (S1.out.step hb)
  replace S2 := Lib.hid (S2.out.step hb)
  replace P1 := Lib.hid (P1.out.step hb)
  replace P2 := Lib.hid (P2.out.step hb)
  replace K1 := Lib.hid (K1.out.step hb)
  clear hb
  clear cA0 cA1 cB0 cB1 cC0 cC1 cS10 cS11 cS20 cS21 cP10 cP11 cP20 cP21 cK10 cK11
  have T19 := Lib.hid (T18.out.alloc (.cells #[.int .i64 an, .int .i64 ad] 25))
  replace A := Lib.hid (A.out.alloc (.cells #[.int .i64 an, .int .i64 ad] 25))
  replace B := Lib.hid (B.out.alloc (.cells #[.int .i64 an, .int .i64 ad] 25))
  replace C := Lib.hid (C.out.alloc (.cells #[.int .i64 an, .int .i64 ad] 25))
  replace S1 := Lib.hid (S1.out.alloc (.cells #[.int .i64 an, .int .i64 ad] 25))
  replace S2 := Lib.hid (S2.out.alloc (.cells #[.int .i64 an, .int .i64 ad] 25))
  replace P1 := Lib.hid (P1.out.alloc (.cells #[.int .i64 an, .int .i64 ad] 25))
  replace P2 := Lib.hid (P2.out.alloc (.cells #[.int .i64 an, .int .i64 ad] 25))
  replace K1 := Lib.hid (K1.out.alloc (.cells #[.int .i64 an, .int .i64 ad] 25))
  have K2 := Lib.hid (C2.new w18 (.int .i64 an) (.int .i64 ad) 25)
  obtain ⟨cA0, cA1⟩ := A.out.cells
  obtain ⟨cB0, cB1⟩ := B.out.cells
  obtain ⟨cC0, cC1⟩ := C.out.cells
  obtain ⟨cS10, cS11⟩ := S1.out.cells
  obtain ⟨cS20, cS21⟩ := S2.out.cells
  obtain ⟨cP10, cP11⟩ := P1.out.cells
  obtain ⟨cP20, cP21⟩ := P2.out.cells
  obtain ⟨cK10, cK11⟩ := K1.out.cells
  obtain ⟨cK20, cK21⟩ := K2.out.cells
  go_wp2_with fail
  generalize w18.alloc (.cells #[.int .i64 an, .int .i64 ad] 25) = w19 at *
  generalize w18.heap.size = nK2 at *
  clear cS20
  clear cS21
  clear cP20
  clear cP21
  clear cK10
  clear cK11
  clear cK20
  clear cK21
  clear S2 P2 K1 K2
  refine (HU.out _).mono ?_
  rintro e w20 ⟨rfl, hb⟩
  have T20 := Lib.hid (T19.out.step hb)
  replace A := Lib.hid (A.out.step hb)
  replace B := Lib.hid (B.out.step hb)
  replace C := Lib.hid (C.out.step hb)
  replace S1 := Lib.hid (S1.out.step hb)
  replace P1 := Lib.hid (P1.out.step hb)
  clear hb
  clear cA0 cA1 cB0 cB1 cC0 cC1 cS10 cS11 cP10 cP11
  have T21 := Lib.hid (T20.out.alloc (.cells #[.int .i64 un, .int .i64 ud] 25))
  replace A := Lib.hid (A.out.alloc (.cells #[.int .i64 un, .int .i64 ud] 25))
  replace B := Lib.hid (B.out.alloc (.cells #[.int .i64 un, .int .i64 ud] 25))
  replace C := Lib.hid (C.out.alloc (.cells #[.int .i64 un, .int .i64 ud] 25))
  replace S1 := Lib.hid (S1.out.alloc (.cells #[.int .i64 un, .int .i64 ud] 25))
  replace P1 := Lib.hid (P1.out.alloc (.cells #[.int .i64 un, .int .i64 ud] 25))
  have U1 := Lib.hid (C2.new w20 (.int .i64 un) (.int .i64 ud) 25)
  obtain ⟨cA0, cA1⟩ := A.out.cells
  obtain ⟨cB0, cB1⟩ := B.out.cells
  obtain ⟨cC0, cC1⟩ := C.out.cells
  obtain ⟨cS10, cS11⟩ := S1.out.cells
  obtain ⟨cP10, cP11⟩ := P1.out.cells
  obtain ⟨cU10, cU11⟩ := U1.out.cells
  go_wp2_with fail
  generalize w20.alloc (.cells #[.int .i64 un, .int .i64 ud] 25) = w21 at *
  generalize w20.heap.size = nU1 at *
  refine (HV.out _).mono ?_
  rintro e w22 ⟨rfl, hb⟩
  have T22 := Lib.hid (T21.out.step hb)
  replace A := Lib.hid (A.out.step hb)
  replace B := Lib.hid (B.out.step hb)
  replace C := Lib.hid (C.out.step hb)
  replace S1 := Lib.hid (S1.out.step hb)
  replace P1 := Lib.hid (P1.out.step hb)
  replace U1 := Lib.hid (U1.out.step hb)
  clear hb
  clear cA0 cA1 cB0 cB1 cC0 cC1 cS10 cS11 cP10 cP11 cU10 cU11
  have T23 := Lib.hid (T22.out.alloc (.cells #[.int .i64 0, .int .i64 0] 25))
  replace A := Lib.hid (A.out.alloc (.cells #[.int .i64 0, .int .i64 0] 25))
  replace B := Lib.hid (B.out.alloc (.cells #[.int .i64 0, .int .i64 0] 25))
  replace C := Lib.hid (C.out.alloc (.cells #[.int .i64 0, .int .i64 0] 25))
  replace S1 := Lib.hid (S1.out.alloc (.cells #[.int .i64 0, .int .i64 0] 25))
  replace P1 := Lib.hid (P1.out.alloc (.cells #[.int .i64 0, .int .i64 0] 25))
  replace U1 := Lib.hid (U1.out.alloc (.cells #[.int .i64 0, .int .i64 0] 25))
  have V1 := Lib.hid (C2.new w22 (.int .i64 0) (.int .i64 0) 25)
  obtain ⟨cA0, cA1⟩ := A.out.cells
  obtain ⟨cB0, cB1⟩ := B.out.cells
  obtain ⟨cC0, cC1⟩ := C.out.cells
  obtain ⟨cS10, cS11⟩ := S1.out.cells
  obtain ⟨cP10, cP11⟩ := P1.out.cells
  obtain ⟨cU10, cU11⟩ := U1.out.cells
  obtain ⟨cV10, cV11⟩ := V1.out.cells
  go_wp2_with fail
  generalize w22.alloc (.cells #[.int .i64 0, .int .i64 0] 25) = w23 at *
  generalize w22.heap.size = nV1 at *
  refine (HQ.out _).mono ?_
  rintro e w24 ⟨rfl, hb⟩
  have T24 := Lib.hid (T23.out.step hb)
  replace A := Lib.hid (A.out.step hb)
  replace B := Lib.hid (B.out.step hb)
  replace C := Lib.hid (C.out.step hb)
  replace S1 := Lib.hid (S1.out.step hb)
  replace P1 := Lib.hid (P1.out.step hb)
  replace U1 := Lib.hid (U1.out.step hb)
  replace V1 := Lib.hid (V1.out.step hb)
  clear hb
  clear cA0 cA1 cB0 cB1 cC0 cC1 cS10 cS11 cP10 cP11 cU10 cU11 cV10 cV11
  have T25 := Lib.hid (T24.out.alloc (.cells #[.int .i64 qn, .int .i64 qd] 25))
  replace A := Lib.hid (A.out.alloc (.cells #[.int .i64 qn, .int .i64 qd] 25))
  replace B := Lib.hid (B.out.alloc (.cells #[.int .i64 qn, .int .i64 qd] 25))
  replace C := Lib.hid (C.out.alloc (.cells #[.int .i64 qn, .int .i64 qd] 25))
  replace S1 := Lib.hid (S1.out.alloc (.cells #[.int .i64 qn, .int .i64 qd] 25))
  replace P1 := Lib.hid (P1.out.alloc (.cells #[.int .i64 qn, .int .i64 qd] 25))
  replace U1 := Lib.hid (U1.out.alloc (.cells #[.int .i64 qn, .int .i64 qd] 25))
  replace V1 := Lib.hid (V1.out.alloc (.cells #[.int .i64 qn, .int .i64 qd] 25))
  have Q1 := Lib.hid (C2.new w24 (.int .i64 qn) (.int .i64 qd) 25)
  obtain ⟨cA0, cA1⟩ := A.out.cells
  obtain ⟨cB0, cB1⟩ := B.out.cells
  obtain ⟨cC0, cC1⟩ := C.out.cells
  obtain ⟨cS10, cS11⟩ := S1.out.cells
  obtain ⟨cP10, cP11⟩ := P1.out.cells
  obtain ⟨cU10, cU11⟩ := U1.out.cells
  obtain ⟨cV10, cV11⟩ := V1.out.cells
  obtain ⟨cQ10, cQ11⟩ := Q1.out.cells
  go_wp2_with fail
  generalize w24.alloc (.cells #[.int .i64 qn, .int .i64 qd] 25) = w25 at *
  generalize w24.heap.size = nQ1 at *
  refine (HX1.out _).mono ?_
  rintro e w26 ⟨rfl, hb⟩
  have T26 := Lib.hid (T25.out.step hb)
  replace A := Lib.hid (A.out.step hb)
  replace B := Lib.hid (B.out.step hb)
  replace C := Lib.hid (C.out.step hb)
  replace S1 := Lib.hid (S1.out.step hb)
  replace P1 := Lib.hid (P1.out.step hb)
  replace U1 := Lib.hid (U1.out.step hb)
  replace V1 := Lib.hid (V1.out.step hb)
  replace Q1 := Lib.hid (Q1.out.step hb)
  clear hb
  clear cA0 cA1 cB0 cB1 cC0 cC1 cS10 cS11 cP10 cP11 cU10 cU11 cV10 cV11 cQ10 cQ11
  have T27 := Lib.hid (T26.out.alloc (.cells #[.int .i64 xn, .int .i64 xd] 25))
  replace A := Lib.hid (A.out.alloc (.cells #[.int .i64 xn, .int .i64 xd] 25))
  replace B := Lib.hid (B.out.alloc (.cells #[.int .i64 xn, .int .i64 xd] 25))
  replace C := Lib.hid (C.out.alloc (.cells #[.int .i64 xn, .int .i64 xd] 25))
  replace S1 := Lib.hid (S1.out.alloc (.cells #[.int .i64 xn, .int .i64 xd] 25))
  replace P1 := Lib.hid (P1.out.alloc (.cells #[.int .i64 xn, .int .i64 xd] 25))
  replace U1 := Lib.hid (U1.out.alloc (.cells #[.int .i64 xn, .int .i64 xd] 25))
  replace V1 := Lib.hid (V1.out.alloc (.cells #[.int .i64 xn, .int .i64 xd] 25))
  replace Q1 := Lib.hid (Q1.out.alloc (.cells #[.int .i64 xn, .int .i64 xd] 25))
  have X1b := Lib.hid (C2.new w26 (.int .i64 xn) (.int .i64 xd) 25)
  obtain ⟨cA0, cA1⟩ := A.out.cells
  obtain ⟨cB0, cB1⟩ := B.out.cells
  obtain ⟨cC0, cC1⟩ := C.out.cells
  obtain ⟨cS10, cS11⟩ := S1.out.cells
  obtain ⟨cP10, cP11⟩ := P1.out.cells
  obtain ⟨cU10, cU11⟩ := U1.out.cells
  obtain ⟨cV10, cV11⟩ := V1.out.cells
  obtain ⟨cQ10, cQ11⟩ := Q1.out.cells
  obtain ⟨cX1b0, cX1b1⟩ := X1b.out.cells
  go_wp2_with fail
  generalize w26.alloc (.cells #[.int .i64 xn, .int .i64 xd] 25) = w27 at *
  generalize w26.heap.size = nX1b at *
  refine (HX2.out _).mono ?_
  rintro e w28 ⟨rfl, hb⟩
  have T28 := Lib.hid (T27.out.step hb)
  replace A := Lib.hid (A.out.step hb)
  replace B := Lib.hid (B.out.step hb)
  replace C := Lib.hid (C.out.step hb)
  replace S1 := Lib.hid (S1.out.step hb)
  replace P1 := Lib.hid (P1.out.step hb)
  replace U1 := Lib.hid (U1.out.step hb)
  replace V1 := Lib.hid (V1.out.step hb)
  replace Q1 := Lib.hid (Q1.out.step hb)
  replace X1b := Lib.hid (X1b.out.step hb)
  clear hb
  clear cA0 cA1 cB0 cB1 cC0 cC1 cS10 cS11 cP10 cP11 cU10 cU11 cV10 cV11 cQ10 cQ11 cX1b0 cX1b1
  have T29 := Lib.hid (T28.out.alloc (.cells #[.int .i64 xn, .int .i64 xd] 25))
  replace A := Lib.hid (A.out.alloc (.cells #[.int .i64 xn, .int .i64 xd] 25))
  replace B := Lib.hid (B.out.alloc (.cells #[.int .i64 xn, .int .i64 xd] 25))
  replace C := Lib.hid (C.out.alloc (.cells #[.int .i64 xn, .int .i64 xd] 25))
  replace S1 := Lib.hid (S1.out.alloc (.cells #[.int .i64 xn, .int .i64 xd] 25))
  replace P1 := Lib.hid (P1.out.alloc (.cells #[.int .i64 xn, .int .i64 xd] 25))
  replace U1 := Lib.hid (U1.out.alloc (.cells #[.int .i64 xn, .int .i64 xd] 25))
  replace V1 := Lib.hid (V1.out.alloc (.cells #[.int .i64 xn, .int .i64 xd] 25))
  replace Q1 := Lib.hid (Q1.out.alloc (.cells #[.int .i64 xn, .int .i64 xd] 25))
  replace X1b := Lib.hid (X1b.out.alloc (.cells #[.int .i64 xn, .int .i64 xd] 25))
  have X2b := Lib.hid (C2.new w28 (.int .i64 xn) (.int .i64 xd) 25)
  obtain ⟨cA0, cA1⟩ := A.out.cells
  obtain ⟨cB0, cB1⟩ := B.out.cells
  obtain ⟨cC0, cC1⟩ := C.out.cells
  obtain ⟨cS10, cS11⟩ := S1.out.cells
  obtain ⟨cP10, cP11⟩ := P1.out.cells
  obtain ⟨cU10, cU11⟩ := U1.out.cells
  obtain ⟨cV10, cV11⟩ := V1.out.cells
  obtain ⟨cQ10, cQ11⟩ := Q1.out.cells
  obtain ⟨cX1b0, cX1b1⟩ := X1b.out.cells
  obtain ⟨cX2b0, cX2b1⟩ := X2b.out.cells
  go_wp2_with fail
  generalize w28.alloc (.cells #[.int .i64 xn, .int .i64 xd] 25) = w29 at *
  generalize w28.heap.size = nX2b at *
  refine (HZ1.out _).mono ?_
  rintro e w30 ⟨rfl, hb⟩
  have T30 := Lib.hid (T29.out.step hb)
  replace A := Lib.hid (A.out.step hb)
  replace B := Lib.hid (B.out.step hb)
  replace C := Lib.hid (C.out.step hb)
  replace S1 := Lib.hid (S1.out.step hb)
  replace P1 := Lib.hid (P1.out.step hb)
  replace U1 := Lib.hid (U1.out.step hb)
  replace V1 := Lib.hid (V1.out.step hb)
  replace Q1 := Lib.hid (Q1.out.step hb)
  replace X1b := Lib.hid (X1b.out.step hb)
  replace X2b := Lib.hid (X2b.out.step hb)
  clear hb
  clear cA0 cA1 cB0 cB1 cC0 cC1 cS10 cS11 cP10 cP11 cU10 cU11 cV10 cV11 cQ10 cQ11 cX1b0 cX1b1 cX2b0 cX2b1
  have T31 := Lib.hid (T30.out.alloc (.cells #[.int .i64 zn, .int .i64 zd] 25))
  replace A := Lib.hid (A.out.alloc (.cells #[.int .i64 zn, .int .i64 zd] 25))
  replace B := Lib.hid (B.out.alloc (.cells #[.int .i64 zn, .int .i64 zd] 25))
  replace C := Lib.hid (C.out.alloc (.cells #[.int .i64 zn, .int .i64 zd] 25))
  replace S1 := Lib.hid (S1.out.alloc (.cells #[.int .i64 zn, .int .i64 zd] 25))
  replace P1 := Lib.hid (P1.out.alloc (.cells #[.int .i64 zn, .int .i64 zd] 25))
  replace U1 := Lib.hid (U1.out.alloc (.cells #[.int .i64 zn, .int .i64 zd] 25))
  replace V1 := Lib.hid (V1.out.alloc (.cells #[.int .i64 zn, .int .i64 zd] 25))
  replace Q1 := Lib.hid (Q1.out.alloc (.cells #[.int .i64 zn, .int .i64 zd] 25))
  replace X1b := Lib.hid (X1b.out.alloc (.cells #[.int .i64 zn, .int .i64 zd] 25))
  replace X2b := Lib.hid (X2b.out.alloc (.cells #[.int .i64 zn, .int .i64 zd] 25))
  have Z1b := Lib.hid (C2.new w30 (.int .i64 zn) (.int .i64 zd) 25)
  obtain ⟨cA0, cA1⟩ := A.out.cells
  obtain ⟨cB0, cB1⟩ := B.out.cells
  obtain ⟨cC0, cC1⟩ := C.out.cells
  obtain ⟨cS10, cS11⟩ := S1.out.cells
  obtain ⟨cP10, cP11⟩ := P1.out.cells
  obtain ⟨cU10, cU11⟩ := U1.out.cells
  obtain ⟨cV10, cV11⟩ := V1.out.cells
  obtain ⟨cQ10, cQ11⟩ := Q1.out.cells
  obtain ⟨cX1b0, cX1b1⟩ := X1b.out.cells
  obtain ⟨cX2b0, cX2b1⟩ := X2b.out.cells
  obtain ⟨cZ1b0, cZ1b1⟩ := Z1b.out.cells
  go_wp2_with fail
  generalize w30.alloc (.cells #[.int .i64 zn, .int .i64 zd] 25) = w31 at *
  generalize w30.heap.size = nZ1b at *
  refine (HZ2.out _).mono ?_
  rintro e w32 ⟨rfl, hb⟩
  have T32 := Lib.hid (T31.out.step hb)
  replace A := Lib.hid (A.out.step hb)
  replace B := Lib.hid (B.out.step hb)
  replace C := Lib.hid (C.out.step hb)
  replace S1 := Lib.hid (S1.out.step hb)
  replace P1 := Lib.hid (P1.out.step hb)
  replace U1 := Lib.hid (U1.out.step hb)
  replace V1 := Lib.hid (V1.out.step hb)
  replace Q1 := Lib.hid (Q1.out.step hb)
  replace X1b := Lib.hid (X1b.out.step hb)
  replace X2b := Lib.hid (X2b.out.step hb)
  replace Z1b := Lib.hid (Z1b.out.step hb)
  clear hb
  clear cA0 cA1 cB0 cB1 cC0 cC1 cS10 cS11 cP10 cP11 cU10 cU11 cV10 cV11 cQ10 cQ11 cX1b0 cX1b1 cX2b0 cX2b1 cZ1b0 cZ1b1
  have T33 := Lib.hid (T32.out.alloc (.cells #[.int .i64 zn, .int .i64 zd] 25))
  replace A := Lib.hid (A.out.alloc (.cells #[.int .i64 zn, .int .i64 zd] 25))
  replace B := Lib.hid (B.out.alloc (.cells #[.int .i64 zn, .int .i64 zd] 25))
  replace C := Lib.hid (C.out.alloc (.cells #[.int .i64 zn, .int .i64 zd] 25))
  replace S1 := Lib.hid (S1.out.alloc (.cells #[.int .i64 zn, .int .i64 zd] 25))
  replace P1 := Lib.hid (P1.out.alloc (.cells #[.int .i64 zn, .int .i64 zd] 25))
  replace U1 := Lib.hid (U1.out.alloc (.cells #[.int .i64 zn, .int .i64 zd] 25))
  replace V1 := Lib.hid (V1.out.alloc (.cells #[.int .i64 zn, .int .i64 zd] 25))
  replace Q1 := Lib.hid (Q1.out.alloc (.cells #[.int .i64 zn, .int .i64 zd] 25))
  replace X1b := Lib.hid (X1b.out.alloc (.cells #[.int .i64 zn, .int .i64 zd] 25))
  replace X2b := Lib.hid (X2b.out.alloc (.cells #[.int .i64 zn, .int .i64 zd] 25))
  replace Z1b := Lib.hid (Z1b.out.alloc (.cells #[.int .i64 zn, .int .i64 zd] 25))
  have Z2b := Lib.hid (C2.new w32 (.int .i64 zn) (.int .i64 zd) 25)
  obtain ⟨cA0, cA1⟩ := A.out.cells
  obtain ⟨cB0, cB1⟩ := B.out.cells
  obtain ⟨cC0, cC1⟩ := C.out.cells
  obtain ⟨cS10, cS11⟩ := S1.out.cells
  obtain ⟨cP10, cP11⟩ := P1.out.cells
  obtain ⟨cU10, cU11⟩ := U1.out.cells
  obtain ⟨cV10, cV11⟩ := V1.out.cells
  obtain ⟨cQ10, cQ11⟩ := Q1.out.cells
  obtain ⟨cX1b0, cX1b1⟩ := X1b.out.cells
  obtain ⟨cX2b0, cX2b1⟩ := X2b.out.cells
  obtain ⟨cZ1b0, cZ1b1⟩ := Z1b.out.cells
  obtain ⟨cZ2b0, cZ2b1⟩ := Z2b.out.cells
  go_wp2_with fail
  generalize w32.alloc (.cells #[.int .i64 zn, .int .i64 zd] 25) = w33 at *
  generalize w32.heap.size = nZ2b at *
  go_ret
  exact ⟨by first | rfl | simp, T33.out.bel⟩
end Go.Proofs.YtfcdoifijgbjeaaDoor
