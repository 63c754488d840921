/- RatioOrder: the walks where a ratio is not valid. -/
import Derived.Test.YtfcdoifijgbjeaaDoorF6
namespace Go.Proofs.YtfcdoifijgbjeaaDoor
open Go.RowKit

set_option maxHeartbeats 2000000 in
set_option maxRecDepth 100000 in
theorem order_i1 (an ad bn bd cn cd : Int) (w : World) (ht : Tabs w)
    (hVa : ∀ w, Calls Tryd.prog 15 #[.agg #[.int .i64 an, .int .i64 ad]] w fun e w' => e = .returned (.bool false) ∧ Below w.heap.size w w') :
    Calls Tryd.prog 4 #[.agg #[.int .i64 an, .int .i64 ad], .agg #[.int .i64 bn, .int .i64 bd], .agg #[.int .i64 cn, .int .i64 cd]] w fun e w' => e = .returned (.bool true) ∧ Below w.heap.size w w' := by
  have HVa := Lib.hid hVa
  clear hVa
  have HT0 := Lib.hid ht
  have T0 : Hid (Trk w w) := Lib.hid ⟨ht, Below.refl _ _⟩
  clear ht
  have T1 := Lib.hid (T0.out.alloc (.cells #[.int .i64 an, .int .i64 ad] 25))
  have A := Lib.hid (C2.new (w) (.int .i64 an) (.int .i64 ad) 25)
  have T2 := Lib.hid (T1.out.alloc (.cells #[.int .i64 bn, .int .i64 bd] 25))
  have A' := Lib.hid (A.out.alloc (.cells #[.int .i64 bn, .int .i64 bd] 25))
  clear A
  have A := Lib.hid A'.out
  clear A'
  have B := Lib.hid (C2.new ((w).alloc (.cells #[.int .i64 an, .int .i64 ad] 25)) (.int .i64 bn) (.int .i64 bd) 25)
  have T3 := Lib.hid (T2.out.alloc (.cells #[.int .i64 cn, .int .i64 cd] 25))
  have A' := Lib.hid (A.out.alloc (.cells #[.int .i64 cn, .int .i64 cd] 25))
  clear A
  have A := Lib.hid A'.out
  clear A'
  have B' := Lib.hid (B.out.alloc (.cells #[.int .i64 cn, .int .i64 cd] 25))
  clear B
  have B := Lib.hid B'.out
  clear B'
  have C := Lib.hid (C2.new (((w).alloc (.cells #[.int .i64 an, .int .i64 ad] 25)).alloc (.cells #[.int .i64 bn, .int .i64 bd] 25)) (.int .i64 cn) (.int .i64 cd) 25)
  go_enter Tryd.func4, Tryd.ntmps4
  go_wp2_with fail
  have hz : ((w).alloc (.cells #[.int .i64 an, .int .i64 ad] 25)).heap.size = w.heap.size + 1 := by simp
  rw [hz] at B
  clear hz
  have hz : (((w).alloc (.cells #[.int .i64 an, .int .i64 ad] 25)).alloc (.cells #[.int .i64 bn, .int .i64 bd] 25)).heap.size = w.heap.size + 2 := by simp
  rw [hz] at C
  clear hz
  generalize (((w).alloc (.cells #[.int .i64 an, .int .i64 ad] 25)).alloc (.cells #[.int .i64 bn, .int .i64 bd] 25)).alloc (.cells #[.int .i64 cn, .int .i64 cd] 25) = w3 at *
  refine (head01 _ T3.out.tabs).mono ?_
  rintro e w4 ⟨rfl, hb⟩
  have T4 := Lib.hid (T3.out.step hb)
  have A' := Lib.hid (A.out.step hb)
  clear A
  have A := Lib.hid A'.out
  clear A'
  have B' := Lib.hid (B.out.step hb)
  clear B
  have B := Lib.hid B'.out
  clear B'
  have C' := Lib.hid (C.out.step hb)
  clear C
  have C := Lib.hid C'.out
  clear C'
  clear hb
  obtain ⟨cA0, cA1⟩ := A.out.cells
  obtain ⟨cB0, cB1⟩ := B.out.cells
  obtain ⟨cC0, cC1⟩ := C.out.cells
  go_wp2_with fail
  refine (HVa.out _).mono ?_
  rintro e w5 ⟨rfl, hb⟩
  have T5 := Lib.hid (T4.out.step hb)
  have A' := Lib.hid (A.out.step hb)
  clear A
  have A := Lib.hid A'.out
  clear A'
  have B' := Lib.hid (B.out.step hb)
  clear B
  have B := Lib.hid B'.out
  clear B'
  have C' := Lib.hid (C.out.step hb)
  clear C
  have C := Lib.hid C'.out
  clear C'
  clear hb
  clear cA0 cA1 cB0 cB1 cC0 cC1
  obtain ⟨cA0, cA1⟩ := A.out.cells
  obtain ⟨cB0, cB1⟩ := B.out.cells
  obtain ⟨cC0, cC1⟩ := C.out.cells
  go_wp2_with fail
  go_ret
  exact ⟨rfl, T5.out.bel⟩
set_option maxHeartbeats 2000000 in
set_option maxRecDepth 100000 in
theorem order_i2 (an ad bn bd cn cd : Int) (w : World) (ht : Tabs w)
    (hVa : ∀ w, Calls Tryd.prog 15 #[.agg #[.int .i64 an, .int .i64 ad]] w fun e w' => e = .returned (.bool true) ∧ Below w.heap.size w w')
    (hVb : ∀ w, Calls Tryd.prog 15 #[.agg #[.int .i64 bn, .int .i64 bd]] w fun e w' => e = .returned (.bool false) ∧ Below w.heap.size w w') :
    Calls Tryd.prog 4 #[.agg #[.int .i64 an, .int .i64 ad], .agg #[.int .i64 bn, .int .i64 bd], .agg #[.int .i64 cn, .int .i64 cd]] w fun e w' => e = .returned (.bool true) ∧ Below w.heap.size w w' := by
  have HVa := Lib.hid hVa
  clear hVa
  have HVb := Lib.hid hVb
  clear hVb
  have HT0 := Lib.hid ht
  have T0 : Hid (Trk w w) := Lib.hid ⟨ht, Below.refl _ _⟩
  clear ht
  have T1 := Lib.hid (T0.out.alloc (.cells #[.int .i64 an, .int .i64 ad] 25))
  have A := Lib.hid (C2.new (w) (.int .i64 an) (.int .i64 ad) 25)
  have T2 := Lib.hid (T1.out.alloc (.cells #[.int .i64 bn, .int .i64 bd] 25))
  have A' := Lib.hid (A.out.alloc (.cells #[.int .i64 bn, .int .i64 bd] 25))
  clear A
  have A := Lib.hid A'.out
  clear A'
  have B := Lib.hid (C2.new ((w).alloc (.cells #[.int .i64 an, .int .i64 ad] 25)) (.int .i64 bn) (.int .i64 bd) 25)
  have T3 := Lib.hid (T2.out.alloc (.cells #[.int .i64 cn, .int .i64 cd] 25))
  have A' := Lib.hid (A.out.alloc (.cells #[.int .i64 cn, .int .i64 cd] 25))
  clear A
  have A := Lib.hid A'.out
  clear A'
  have B' := Lib.hid (B.out.alloc (.cells #[.int .i64 cn, .int .i64 cd] 25))
  clear B
  have B := Lib.hid B'.out
  clear B'
  have C := Lib.hid (C2.new (((w).alloc (.cells #[.int .i64 an, .int .i64 ad] 25)).alloc (.cells #[.int .i64 bn, .int .i64 bd] 25)) (.int .i64 cn) (.int .i64 cd) 25)
  go_enter Tryd.func4, Tryd.ntmps4
  go_wp2_with fail
  have hz : ((w).alloc (.cells #[.int .i64 an, .int .i64 ad] 25)).heap.size = w.heap.size + 1 := by simp
  rw [hz] at B
  clear hz
  have hz : (((w).alloc (.cells #[.int .i64 an, .int .i64 ad] 25)).alloc (.cells #[.int .i64 bn, .int .i64 bd] 25)).heap.size = w.heap.size + 2 := by simp
  rw [hz] at C
  clear hz
  generalize (((w).alloc (.cells #[.int .i64 an, .int .i64 ad] 25)).alloc (.cells #[.int .i64 bn, .int .i64 bd] 25)).alloc (.cells #[.int .i64 cn, .int .i64 cd] 25) = w3 at *
  refine (head01 _ T3.out.tabs).mono ?_
  rintro e w4 ⟨rfl, hb⟩
  have T4 := Lib.hid (T3.out.step hb)
  have A' := Lib.hid (A.out.step hb)
  clear A
  have A := Lib.hid A'.out
  clear A'
  have B' := Lib.hid (B.out.step hb)
  clear B
  have B := Lib.hid B'.out
  clear B'
  have C' := Lib.hid (C.out.step hb)
  clear C
  have C := Lib.hid C'.out
  clear C'
  clear hb
  obtain ⟨cA0, cA1⟩ := A.out.cells
  obtain ⟨cB0, cB1⟩ := B.out.cells
  obtain ⟨cC0, cC1⟩ := C.out.cells
  go_wp2_with fail
  refine (HVa.out _).mono ?_
  rintro e w5 ⟨rfl, hb⟩
  have T5 := Lib.hid (T4.out.step hb)
  have A' := Lib.hid (A.out.step hb)
  clear A
  have A := Lib.hid A'.out
  clear A'
  have B' := Lib.hid (B.out.step hb)
  clear B
  have B := Lib.hid B'.out
  clear B'
  have C' := Lib.hid (C.out.step hb)
  clear C
  have C := Lib.hid C'.out
  clear C'
  clear hb
  clear cA0 cA1 cB0 cB1 cC0 cC1
  obtain ⟨cA0, cA1⟩ := A.out.cells
  obtain ⟨cB0, cB1⟩ := B.out.cells
  obtain ⟨cC0, cC1⟩ := C.out.cells
  go_wp2_with fail
  refine (HVb.out _).mono ?_
  rintro e w6 ⟨rfl, hb⟩
  have T6 := Lib.hid (T5.out.step hb)
  have A' := Lib.hid (A.out.step hb)
  clear A
  have A := Lib.hid A'.out
  clear A'
  have B' := Lib.hid (B.out.step hb)
  clear B
  have B := Lib.hid B'.out
  clear B'
  have C' := Lib.hid (C.out.step hb)
  clear C
  have C := Lib.hid C'.out
  clear C'
  clear hb
  clear cA0 cA1 cB0 cB1 cC0 cC1
  obtain ⟨cA0, cA1⟩ := A.out.cells
  obtain ⟨cB0, cB1⟩ := B.out.cells
  obtain ⟨cC0, cC1⟩ := C.out.cells
  go_wp2_with fail
  go_ret
  exact ⟨rfl, T6.out.bel⟩
set_option maxHeartbeats 2000000 in
set_option maxRecDepth 100000 in
theorem order_i3 (an ad bn bd cn cd : Int) (w : World) (ht : Tabs w)
    (hVa : ∀ w, Calls Tryd.prog 15 #[.agg #[.int .i64 an, .int .i64 ad]] w fun e w' => e = .returned (.bool true) ∧ Below w.heap.size w w')
    (hVb : ∀ w, Calls Tryd.prog 15 #[.agg #[.int .i64 bn, .int .i64 bd]] w fun e w' => e = .returned (.bool true) ∧ Below w.heap.size w w')
    (hVc : ∀ w, Calls Tryd.prog 15 #[.agg #[.int .i64 cn, .int .i64 cd]] w fun e w' => e = .returned (.bool false) ∧ Below w.heap.size w w') :
    Calls Tryd.prog 4 #[.agg #[.int .i64 an, .int .i64 ad], .agg #[.int .i64 bn, .int .i64 bd], .agg #[.int .i64 cn, .int .i64 cd]] w fun e w' => e = .returned (.bool true) ∧ Below w.heap.size w w' := by
  have HVa := Lib.hid hVa
  clear hVa
  have HVb := Lib.hid hVb
  clear hVb
  have HVc := Lib.hid hVc
  clear hVc
  have HT0 := Lib.hid ht
  have T0 : Hid (Trk w w) := Lib.hid ⟨ht, Below.refl _ _⟩
  clear ht
  have T1 := Lib.hid (T0.out.alloc (.cells #[.int .i64 an, .int .i64 ad] 25))
  have A := Lib.hid (C2.new (w) (.int .i64 an) (.int .i64 ad) 25)
  have T2 := Lib.hid (T1.out.alloc (.cells #[.int .i64 bn, .int .i64 bd] 25))
  have A' := Lib.hid (A.out.alloc (.cells #[.int .i64 bn, .int .i64 bd] 25))
  clear A
  have A := Lib.hid A'.out
  clear A'
  have B := Lib.hid (C2.new ((w).alloc (.cells #[.int .i64 an, .int .i64 ad] 25)) (.int .i64 bn) (.int .i64 bd) 25)
  have T3 := Lib.hid (T2.out.alloc (.cells #[.int .i64 cn, .int .i64 cd] 25))
  have A' := Lib.hid (A.out.alloc (.cells #[.int .i64 cn, .int .i64 cd] 25))
  clear A
  have A := Lib.hid A'.out
  clear A'
  have B' := Lib.hid (B.out.alloc (.cells #[.int .i64 cn, .int .i64 cd] 25))
  clear B
  have B := Lib.hid B'.out
  clear B'
  have C := Lib.hid (C2.new (((w).alloc (.cells #[.int .i64 an, .int .i64 ad] 25)).alloc (.cells #[.int .i64 bn, .int .i64 bd] 25)) (.int .i64 cn) (.int .i64 cd) 25)
  go_enter Tryd.func4, Tryd.ntmps4
  go_wp2_with fail
  have hz : ((w).alloc (.cells #[.int .i64 an, .int .i64 ad] 25)).heap.size = w.heap.size + 1 := by simp
  rw [hz] at B
  clear hz
  have hz : (((w).alloc (.cells #[.int .i64 an, .int .i64 ad] 25)).alloc (.cells #[.int .i64 bn, .int .i64 bd] 25)).heap.size = w.heap.size + 2 := by simp
  rw [hz] at C
  clear hz
  generalize (((w).alloc (.cells #[.int .i64 an, .int .i64 ad] 25)).alloc (.cells #[.int .i64 bn, .int .i64 bd] 25)).alloc (.cells #[.int .i64 cn, .int .i64 cd] 25) = w3 at *
  refine (head01 _ T3.out.tabs).mono ?_
  rintro e w4 ⟨rfl, hb⟩
  have T4 := Lib.hid (T3.out.step hb)
  have A' := Lib.hid (A.out.step hb)
  clear A
  have A := Lib.hid A'.out
  clear A'
  have B' := Lib.hid (B.out.step hb)
  clear B
  have B := Lib.hid B'.out
  clear B'
  have C' := Lib.hid (C.out.step hb)
  clear C
  have C := Lib.hid C'.out
  clear C'
  clear hb
  obtain ⟨cA0, cA1⟩ := A.out.cells
  obtain ⟨cB0, cB1⟩ := B.out.cells
  obtain ⟨cC0, cC1⟩ := C.out.cells
  go_wp2_with fail
  refine (HVa.out _).mono ?_
  rintro e w5 ⟨rfl, hb⟩
  have T5 := Lib.hid (T4.out.step hb)
  have A' := Lib.hid (A.out.step hb)
  clear A
  have A := Lib.hid A'.out
  clear A'
  have B' := Lib.hid (B.out.step hb)
  clear B
  have B := Lib.hid B'.out
  clear B'
  have C' := Lib.hid (C.out.step hb)
  clear C
  have C := Lib.hid C'.out
  clear C'
  clear hb
  clear cA0 cA1 cB0 cB1 cC0 cC1
  obtain ⟨cA0, cA1⟩ := A.out.cells
  obtain ⟨cB0, cB1⟩ := B.out.cells
  obtain ⟨cC0, cC1⟩ := C.out.cells
  go_wp2_with fail
  refine (HVb.out _).mono ?_
  rintro e w6 ⟨rfl, hb⟩
  have T6 := Lib.hid (T5.out.step hb)
  have A' := Lib.hid (A.out.step hb)
  clear A
  have A := Lib.hid A'.out
  clear A'
  have B' := Lib.hid (B.out.step hb)
  clear B
  have B := Lib.hid B'.out
  clear B'
  have C' := Lib.hid (C.out.step hb)
  clear C
  have C := Lib.hid C'.out
  clear C'
  clear hb
  clear cA0 cA1 cB0 cB1 cC0 cC1
  obtain ⟨cA0, cA1⟩ := A.out.cells
  obtain ⟨cB0, cB1⟩ := B.out.cells
  obtain ⟨cC0, cC1⟩ := C.out.cells
  go_wp2_with fail
  refine (HVc.out _).mono ?_
  rintro e w7 ⟨rfl, hb⟩
  have T7 := Lib.hid (T6.out.step hb)
  have A' := Lib.hid (A.out.step hb)
  clear A
  have A := Lib.hid A'.out
  clear A'
  have B' := Lib.hid (B.out.step hb)
  clear B
  have B := Lib.hid B'.out
  clear B'
  have C' := Lib.hid (C.out.step hb)
  clear C
  have C := Lib.hid C'.out
  clear C'
  clear hb
  clear cA0 cA1 cB0 cB1 cC0 cC1
  obtain ⟨cA0, cA1⟩ := A.out.cells
  obtain ⟨cB0, cB1⟩ := B.out.cells
  obtain ⟨cC0, cC1⟩ := C.out.cells
  go_wp2_with fail
  go_ret
  exact ⟨rfl, T7.out.bel⟩
end Go.Proofs.YtfcdoifijgbjeaaDoor
