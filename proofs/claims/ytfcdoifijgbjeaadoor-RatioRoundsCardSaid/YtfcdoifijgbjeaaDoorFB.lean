/- RatioRounds. -/
import Derived.Test.YtfcdoifijgbjeaaDoorFA
namespace Go.Proofs.YtfcdoifijgbjeaaDoor
open Go.RowKit

set_option maxHeartbeats 2000000 in
set_option maxRecDepth 100000 in
theorem rounds_i1 (an ad bn bd raw : Int) (w : World) (ht : Tabs w)
    (hVa : ∀ w, Calls Tryd.prog 15 #[.agg #[.int .i64 an, .int .i64 ad]] w fun e w' => e = .returned (.bool false) ∧ Below w.heap.size w w') :
    Calls Tryd.prog 6 #[.agg #[.int .i64 an, .int .i64 ad], .agg #[.int .i64 bn, .int .i64 bd], .int .i64 raw] w fun e w' => e = .returned (.bool true) ∧ Below w.heap.size w w' := by
  have HVa := Lib.hid hVa
  clear hVa
  have T0 : Hid (Trk w w) := Lib.hid ⟨ht, Below.refl _ _⟩
  clear ht
  have T1 := Lib.hid (T0.out.alloc (.cells #[.int .i64 an, .int .i64 ad] 25))
  have A := Lib.hid (C2.new (w) (.int .i64 an) (.int .i64 ad) 25)
  have T2 := Lib.hid (T1.out.alloc (.cells #[.int .i64 bn, .int .i64 bd] 25))
  replace A := Lib.hid (A.out.alloc (.cells #[.int .i64 bn, .int .i64 bd] 25))
  have B := Lib.hid (C2.new ((w).alloc (.cells #[.int .i64 an, .int .i64 ad] 25)) (.int .i64 bn) (.int .i64 bd) 25)
  go_enter Tryd.func6, Tryd.ntmps6
  go_wp2_with fail
  have hz : ((w).alloc (.cells #[.int .i64 an, .int .i64 ad] 25)).heap.size = w.heap.size + 1 := by simp
  rw [hz] at B
  clear hz
  generalize ((w).alloc (.cells #[.int .i64 an, .int .i64 ad] 25)).alloc (.cells #[.int .i64 bn, .int .i64 bd] 25) = w2 at *
  refine (head01 _ T2.out.tabs).mono ?_
  rintro e w3 ⟨rfl, hb⟩
  have T3 := Lib.hid (T2.out.step hb)
  replace A := Lib.hid (A.out.step hb)
  replace B := Lib.hid (B.out.step hb)
  clear hb
  obtain ⟨cA0, cA1⟩ := A.out.cells
  obtain ⟨cB0, cB1⟩ := B.out.cells
  go_wp2_with fail
  refine (HVa.out _).mono ?_
  rintro e w4 ⟨rfl, hb⟩
  have T4 := Lib.hid (T3.out.step hb)
  replace A := Lib.hid (A.out.step hb)
  replace B := Lib.hid (B.out.step hb)
  clear hb
  clear cA0 cA1 cB0 cB1
  obtain ⟨cA0, cA1⟩ := A.out.cells
  obtain ⟨cB0, cB1⟩ := B.out.cells
  go_wp2_with fail
  go_ret
  exact ⟨rfl, T4.out.bel⟩
set_option maxHeartbeats 2000000 in
set_option maxRecDepth 100000 in
theorem rounds_i2 (an ad bn bd raw : Int) (w : World) (ht : Tabs w)
    (hVa : ∀ w, Calls Tryd.prog 15 #[.agg #[.int .i64 an, .int .i64 ad]] w fun e w' => e = .returned (.bool true) ∧ Below w.heap.size w w')
    (hVb : ∀ w, Calls Tryd.prog 15 #[.agg #[.int .i64 bn, .int .i64 bd]] w fun e w' => e = .returned (.bool false) ∧ Below w.heap.size w w') :
    Calls Tryd.prog 6 #[.agg #[.int .i64 an, .int .i64 ad], .agg #[.int .i64 bn, .int .i64 bd], .int .i64 raw] w fun e w' => e = .returned (.bool true) ∧ Below w.heap.size w w' := by
  have HVa := Lib.hid hVa
  clear hVa
  have HVb := Lib.hid hVb
  clear hVb
  have T0 : Hid (Trk w w) := Lib.hid ⟨ht, Below.refl _ _⟩
  clear ht
  have T1 := Lib.hid (T0.out.alloc (.cells #[.int .i64 an, .int .i64 ad] 25))
  have A := Lib.hid (C2.new (w) (.int .i64 an) (.int .i64 ad) 25)
  have T2 := Lib.hid (T1.out.alloc (.cells #[.int .i64 bn, .int .i64 bd] 25))
  replace A := Lib.hid (A.out.alloc (.cells #[.int .i64 bn, .int .i64 bd] 25))
  have B := Lib.hid (C2.new ((w).alloc (.cells #[.int .i64 an, .int .i64 ad] 25)) (.int .i64 bn) (.int .i64 bd) 25)
  go_enter Tryd.func6, Tryd.ntmps6
  go_wp2_with fail
  have hz : ((w).alloc (.cells #[.int .i64 an, .int .i64 ad] 25)).heap.size = w.heap.size + 1 := by simp
  rw [hz] at B
  clear hz
  generalize ((w).alloc (.cells #[.int .i64 an, .int .i64 ad] 25)).alloc (.cells #[.int .i64 bn, .int .i64 bd] 25) = w2 at *
  refine (head01 _ T2.out.tabs).mono ?_
  rintro e w3 ⟨rfl, hb⟩
  have T3 := Lib.hid (T2.out.step hb)
  replace A := Lib.hid (A.out.step hb)
  replace B := Lib.hid (B.out.step hb)
  clear hb
  obtain ⟨cA0, cA1⟩ := A.out.cells
  obtain ⟨cB0, cB1⟩ := B.out.cells
  go_wp2_with fail
  refine (HVa.out _).mono ?_
  rintro e w4 ⟨rfl, hb⟩
  have T4 := Lib.hid (T3.out.step hb)
  replace A := Lib.hid (A.out.step hb)
  replace B := Lib.hid (B.out.step hb)
  clear hb
  clear cA0 cA1 cB0 cB1
  obtain ⟨cA0, cA1⟩ := A.out.cells
  obtain ⟨cB0, cB1⟩ := B.out.cells
  go_wp2_with fail
  refine (HVb.out _).mono ?_
  rintro e w5 ⟨rfl, hb⟩
  have T5 := Lib.hid (T4.out.step hb)
  replace A := Lib.hid (A.out.step hb)
  replace B := Lib.hid (B.out.step hb)
  clear hb
  clear cA0 cA1 cB0 cB1
  obtain ⟨cA0, cA1⟩ := A.out.cells
  obtain ⟨cB0, cB1⟩ := B.out.cells
  go_wp2_with fail
  go_ret
  exact ⟨rfl, T5.out.bel⟩
set_option maxHeartbeats 2000000 in
set_option maxRecDepth 100000 in
theorem rounds_i3 (an ad bn bd raw : Int) (w : World) (ht : Tabs w)
    (hVa : ∀ w, Calls Tryd.prog 15 #[.agg #[.int .i64 an, .int .i64 ad]] w fun e w' => e = .returned (.bool true) ∧ Below w.heap.size w w')
    (hVb : ∀ w, Calls Tryd.prog 15 #[.agg #[.int .i64 bn, .int .i64 bd]] w fun e w' => e = .returned (.bool true) ∧ Below w.heap.size w w')
    (na : -1000000000000 ≤ an) (na2 : an ≤ 1000000000000) (big : 1000000000 < max an (-an)) :
    Calls Tryd.prog 6 #[.agg #[.int .i64 an, .int .i64 ad], .agg #[.int .i64 bn, .int .i64 bd], .int .i64 raw] w fun e w' => e = .returned (.bool true) ∧ Below w.heap.size w w' := by
  have HVa := Lib.hid hVa
  clear hVa
  have HVb := Lib.hid hVb
  clear hVb
  have T0 : Hid (Trk w w) := Lib.hid ⟨ht, Below.refl _ _⟩
  clear ht
  have T1 := Lib.hid (T0.out.alloc (.cells #[.int .i64 an, .int .i64 ad] 25))
  have A := Lib.hid (C2.new (w) (.int .i64 an) (.int .i64 ad) 25)
  have T2 := Lib.hid (T1.out.alloc (.cells #[.int .i64 bn, .int .i64 bd] 25))
  replace A := Lib.hid (A.out.alloc (.cells #[.int .i64 bn, .int .i64 bd] 25))
  have B := Lib.hid (C2.new ((w).alloc (.cells #[.int .i64 an, .int .i64 ad] 25)) (.int .i64 bn) (.int .i64 bd) 25)
  go_enter Tryd.func6, Tryd.ntmps6
  go_wp2_with fail
  have hz : ((w).alloc (.cells #[.int .i64 an, .int .i64 ad] 25)).heap.size = w.heap.size + 1 := by simp
  rw [hz] at B
  clear hz
  generalize ((w).alloc (.cells #[.int .i64 an, .int .i64 ad] 25)).alloc (.cells #[.int .i64 bn, .int .i64 bd] 25) = w2 at *
  refine (head01 _ T2.out.tabs).mono ?_
  rintro e w3 ⟨rfl, hb⟩
  have T3 := Lib.hid (T2.out.step hb)
  replace A := Lib.hid (A.out.step hb)
  replace B := Lib.hid (B.out.step hb)
  clear hb
  obtain ⟨cA0, cA1⟩ := A.out.cells
  obtain ⟨cB0, cB1⟩ := B.out.cells
  go_wp2_with fail
  refine (HVa.out _).mono ?_
  rintro e w4 ⟨rfl, hb⟩
  have T4 := Lib.hid (T3.out.step hb)
  replace A := Lib.hid (A.out.step hb)
  replace B := Lib.hid (B.out.step hb)
  clear hb
  clear cA0 cA1 cB0 cB1
  obtain ⟨cA0, cA1⟩ := A.out.cells
  obtain ⟨cB0, cB1⟩ := B.out.cells
  go_wp2_with fail
  refine (HVb.out _).mono ?_
  rintro e w5 ⟨rfl, hb⟩
  have T5 := Lib.hid (T4.out.step hb)
  replace A := Lib.hid (A.out.step hb)
  replace B := Lib.hid (B.out.step hb)
  clear hb
  clear cA0 cA1 cB0 cB1
  obtain ⟨cA0, cA1⟩ := A.out.cells
  obtain ⟨cB0, cB1⟩ := B.out.cells
  go_wp2_with fail
  go_ret
  exact ⟨rfl, T5.out.bel⟩
set_option maxHeartbeats 2000000 in
set_option maxRecDepth 100000 in
theorem rounds_i4 (an ad bn bd raw : Int) (w : World) (ht : Tabs w)
    (hVa : ∀ w, Calls Tryd.prog 15 #[.agg #[.int .i64 an, .int .i64 ad]] w fun e w' => e = .returned (.bool true) ∧ Below w.heap.size w w')
    (hVb : ∀ w, Calls Tryd.prog 15 #[.agg #[.int .i64 bn, .int .i64 bd]] w fun e w' => e = .returned (.bool true) ∧ Below w.heap.size w w')
    (na : -1000000000000 ≤ an) (na2 : an ≤ 1000000000000) (nb : -1000000000000 ≤ bn) (nb2 : bn ≤ 1000000000000) (big : max an (-an) ≤ 1000000000) (big2 : 1000000000 < max bn (-bn)) :
    Calls Tryd.prog 6 #[.agg #[.int .i64 an, .int .i64 ad], .agg #[.int .i64 bn, .int .i64 bd], .int .i64 raw] w fun e w' => e = .returned (.bool true) ∧ Below w.heap.size w w' := by
  have HVa := Lib.hid hVa
  clear hVa
  have HVb := Lib.hid hVb
  clear hVb
  have T0 : Hid (Trk w w) := Lib.hid ⟨ht, Below.refl _ _⟩
  clear ht
  have T1 := Lib.hid (T0.out.alloc (.cells #[.int .i64 an, .int .i64 ad] 25))
  have A := Lib.hid (C2.new (w) (.int .i64 an) (.int .i64 ad) 25)
  have T2 := Lib.hid (T1.out.alloc (.cells #[.int .i64 bn, .int .i64 bd] 25))
  replace A := Lib.hid (A.out.alloc (.cells #[.int .i64 bn, .int .i64 bd] 25))
  have B := Lib.hid (C2.new ((w).alloc (.cells #[.int .i64 an, .int .i64 ad] 25)) (.int .i64 bn) (.int .i64 bd) 25)
  go_enter Tryd.func6, Tryd.ntmps6
  go_wp2_with fail
  have hz : ((w).alloc (.cells #[.int .i64 an, .int .i64 ad] 25)).heap.size = w.heap.size + 1 := by simp
  rw [hz] at B
  clear hz
  generalize ((w).alloc (.cells #[.int .i64 an, .int .i64 ad] 25)).alloc (.cells #[.int .i64 bn, .int .i64 bd] 25) = w2 at *
  refine (head01 _ T2.out.tabs).mono ?_
  rintro e w3 ⟨rfl, hb⟩
  have T3 := Lib.hid (T2.out.step hb)
  replace A := Lib.hid (A.out.step hb)
  replace B := Lib.hid (B.out.step hb)
  clear hb
  obtain ⟨cA0, cA1⟩ := A.out.cells
  obtain ⟨cB0, cB1⟩ := B.out.cells
  go_wp2_with fail
  refine (HVa.out _).mono ?_
  rintro e w4 ⟨rfl, hb⟩
  have T4 := Lib.hid (T3.out.step hb)
  replace A := Lib.hid (A.out.step hb)
  replace B := Lib.hid (B.out.step hb)
  clear hb
  clear cA0 cA1 cB0 cB1
  obtain ⟨cA0, cA1⟩ := A.out.cells
  obtain ⟨cB0, cB1⟩ := B.out.cells
  go_wp2_with fail
  refine (HVb.out _).mono ?_
  rintro e w5 ⟨rfl, hb⟩
  have T5 := Lib.hid (T4.out.step hb)
  replace A := Lib.hid (A.out.step hb)
  replace B := Lib.hid (B.out.step hb)
  clear hb
  clear cA0 cA1 cB0 cB1
  obtain ⟨cA0, cA1⟩ := A.out.cells
  obtain ⟨cB0, cB1⟩ := B.out.cells
  go_wp2_with fail
  go_ret
  exact ⟨rfl, T5.out.bel⟩
set_option maxHeartbeats 2000000 in
set_option maxRecDepth 100000 in
theorem rounds_gt (an ad bn bd raw r n xn xd yn yd t k far c : Int) (w : World) (ht : Tabs w)
    (hVa : ∀ w, Calls Tryd.prog 15 #[.agg #[.int .i64 an, .int .i64 ad]] w fun e w' => e = .returned (.bool true) ∧ Below w.heap.size w w')
    (hVb : ∀ w, Calls Tryd.prog 15 #[.agg #[.int .i64 bn, .int .i64 bd]] w fun e w' => e = .returned (.bool true) ∧ Below w.heap.size w w')
    (na : -1000000000000 ≤ an) (na2 : an ≤ 1000000000000) (nb : -1000000000000 ≤ bn) (nb2 : bn ≤ 1000000000000) (big : max an (-an) ≤ 1000000000) (big2 : max bn (-bn) ≤ 1000000000)
    (hr : raw.tmod 1000 = r) (hr1 : -1000 < r) (hr2 : r < 1000) (hn : 1 + max r (-r) = n)
    (hRa : ∀ w, Calls Tryd.prog 21 #[.agg #[.int .i64 an, .int .i64 ad], .int .i64 n] w (Ret3 w xn xd 0))
    (hRb : ∀ w, Calls Tryd.prog 21 #[.agg #[.int .i64 bn, .int .i64 bd], .int .i64 n] w (Ret3 w yn yd 0))
    (hRx : ∀ w, Calls Tryd.prog 21 #[.agg #[.int .i64 xn, .int .i64 xd], .int .i64 n] w (Ret3 w xn xd 0))
    (hVx : ∀ w, Calls Tryd.prog 15 #[.agg #[.int .i64 xn, .int .i64 xd]] w fun e w' => e = .returned (.bool true) ∧ Below w.heap.size w w')
    (xd0 : xd ≠ 0) (hm : n.tmod xd = 0) (hq : n.tdiv xd = t) (ht1 : -1000 ≤ t) (ht2 : t ≤ 1000) (hk : xn * t = k) (wk : wrap64 k = k)
    (m1 : wrap64 (k * ad) = k * ad) (m2 : wrap64 (an * n) = an * n) (m3 : wrap64 (k * ad - an * n) = k * ad - an * n) (hf : 2 * (k * ad - an * n) = far)
    (ad1 : 1 ≤ ad) (ad2 : ad ≤ 1000000) (f1 : far ≤ ad) (f2 : -ad ≤ far) (f3 : far = ad → k.tmod 2 = 0) (f4 : far = -ad → k.tmod 2 = 0)
    (hCab : ∀ w, Calls Tryd.prog 16 #[.agg #[.int .i64 an, .int .i64 ad], .agg #[.int .i64 bn, .int .i64 bd]] w fun e' w' => e' = .returned (.int .i64 c) ∧ Below w.heap.size w w')
    (hc : 0 < c) :
    Calls Tryd.prog 6 #[.agg #[.int .i64 an, .int .i64 ad], .agg #[.int .i64 bn, .int .i64 bd], .int .i64 raw] w fun e w' => e = .returned (.bool true) ∧ Below w.heap.size w w' := by
  have HVa := Lib.hid hVa
  clear hVa
  have HVb := Lib.hid hVb
  clear hVb
  have HRa := Lib.hid hRa
  clear hRa
  have HRb := Lib.hid hRb
  clear hRb
  have HRx := Lib.hid hRx
  clear hRx
  have HVx := Lib.hid hVx
  clear hVx
  have HCab := Lib.hid hCab
  clear hCab
  have T0 : Hid (Trk w w) := Lib.hid ⟨ht, Below.refl _ _⟩
  clear ht
  have T1 := Lib.hid (T0.out.alloc (.cells #[.int .i64 an, .int .i64 ad] 25))
  have A := Lib.hid (C2.new (w) (.int .i64 an) (.int .i64 ad) 25)
  have T2 := Lib.hid (T1.out.alloc (.cells #[.int .i64 bn, .int .i64 bd] 25))
  replace A := Lib.hid (A.out.alloc (.cells #[.int .i64 bn, .int .i64 bd] 25))
  have B := Lib.hid (C2.new ((w).alloc (.cells #[.int .i64 an, .int .i64 ad] 25)) (.int .i64 bn) (.int .i64 bd) 25)
  go_enter Tryd.func6, Tryd.ntmps6
  go_wp2_with fail
  have hz : ((w).alloc (.cells #[.int .i64 an, .int .i64 ad] 25)).heap.size = w.heap.size + 1 := by simp
  rw [hz] at B
  clear hz
  generalize ((w).alloc (.cells #[.int .i64 an, .int .i64 ad] 25)).alloc (.cells #[.int .i64 bn, .int .i64 bd] 25) = w2 at *
  refine (head01 _ T2.out.tabs).mono ?_
  rintro e w3 ⟨rfl, hb⟩
  have T3 := Lib.hid (T2.out.step hb)
  replace A := Lib.hid (A.out.step hb)
  replace B := Lib.hid (B.out.step hb)
  clear hb
  obtain ⟨cA0, cA1⟩ := A.out.cells
  obtain ⟨cB0, cB1⟩ := B.out.cells
  go_wp2_with fail
  refine (HVa.out _).mono ?_
  rintro e w4 ⟨rfl, hb⟩
  have T4 := Lib.hid (T3.out.step hb)
  replace A := Lib.hid (A.out.step hb)
  replace B := Lib.hid (B.out.step hb)
  clear hb
  clear cA0 cA1 cB0 cB1
  obtain ⟨cA0, cA1⟩ := A.out.cells
  obtain ⟨cB0, cB1⟩ := B.out.cells
  go_wp2_with fail
  refine (HVb.out _).mono ?_
  rintro e w5 ⟨rfl, hb⟩
  have T5 := Lib.hid (T4.out.step hb)
  replace A := Lib.hid (A.out.step hb)
  replace B := Lib.hid (B.out.step hb)
  clear hb
  clear cA0 cA1 cB0 cB1
  obtain ⟨cA0, cA1⟩ := A.out.cells
  obtain ⟨cB0, cB1⟩ := B.out.cells
  go_wp2_with fail
  refine (HRa.out _).mono ?_
  rintro e w6 ⟨rfl, hb⟩
  have T6 := Lib.hid (T5.out.step hb)
  replace A := Lib.hid (A.out.step hb)
  replace B := Lib.hid (B.out.step hb)
  clear hb
  clear cA0 cA1 cB0 cB1
  have T7 := Lib.hid (T6.out.alloc (.cells #[.int .i64 xn, .int .i64 xd] 25))
  replace A := Lib.hid (A.out.alloc (.cells #[.int .i64 xn, .int .i64 xd] 25))
  replace B := Lib.hid (B.out.alloc (.cells #[.int .i64 xn, .int .i64 xd] 25))
  have X := Lib.hid (C2.new w6 (.int .i64 xn) (.int .i64 xd) 25)
  obtain ⟨cA0, cA1⟩ := A.out.cells
  obtain ⟨cB0, cB1⟩ := B.out.cells
  obtain ⟨cX0, cX1⟩ := X.out.cells
  go_wp2_with fail
  generalize w6.alloc (.cells #[.int .i64 xn, .int .i64 xd] 25) = w7 at *
  generalize w6.heap.size = nX at *
  refine (HRb.out _).mono ?_
  rintro e w8 ⟨rfl, hb⟩
  have T8 := Lib.hid (T7.out.step hb)
  replace A := Lib.hid (A.out.step hb)
  replace B := Lib.hid (B.out.step hb)
  replace X := Lib.hid (X.out.step hb)
  clear hb
  clear cA0 cA1 cB0 cB1 cX0 cX1
  have T9 := Lib.hid (T8.out.alloc (.cells #[.int .i64 yn, .int .i64 yd] 25))
  replace A := Lib.hid (A.out.alloc (.cells #[.int .i64 yn, .int .i64 yd] 25))
  replace B := Lib.hid (B.out.alloc (.cells #[.int .i64 yn, .int .i64 yd] 25))
  replace X := Lib.hid (X.out.alloc (.cells #[.int .i64 yn, .int .i64 yd] 25))
  have Y := Lib.hid (C2.new w8 (.int .i64 yn) (.int .i64 yd) 25)
  obtain ⟨cA0, cA1⟩ := A.out.cells
  obtain ⟨cB0, cB1⟩ := B.out.cells
  obtain ⟨cX0, cX1⟩ := X.out.cells
  obtain ⟨cY0, cY1⟩ := Y.out.cells
  go_wp2_with fail
  generalize w8.alloc (.cells #[.int .i64 yn, .int .i64 yd] 25) = w9 at *
  generalize w8.heap.size = nY at *
  refine (HVx.out _).mono ?_
  rintro e w10 ⟨rfl, hb⟩
  have T10 := Lib.hid (T9.out.step hb)
  replace A := Lib.hid (A.out.step hb)
  replace B := Lib.hid (B.out.step hb)
  replace X := Lib.hid (X.out.step hb)
  replace Y := Lib.hid (Y.out.step hb)
  clear hb
  clear cA0 cA1 cB0 cB1 cX0 cX1 cY0 cY1
  obtain ⟨cA0, cA1⟩ := A.out.cells
  obtain ⟨cB0, cB1⟩ := B.out.cells
  obtain ⟨cX0, cX1⟩ := X.out.cells
  obtain ⟨cY0, cY1⟩ := Y.out.cells
  go_wp2_with fail
  go_quiet (fail)
  have hb := drewN_below w10 nq
  have T11 := Lib.hid (T10.out.step hb)
  replace A := Lib.hid (A.out.step hb)
  replace B := Lib.hid (B.out.step hb)
  replace X := Lib.hid (X.out.step hb)
  replace Y := Lib.hid (Y.out.step hb)
  clear hb
  clear cA0 cA1 cB0 cB1 cX0 cX1 cY0 cY1
  generalize w10.drewN nq = w11 at *
  obtain ⟨cA0, cA1⟩ := A.out.cells
  obtain ⟨cB0, cB1⟩ := B.out.cells
  obtain ⟨cX0, cX1⟩ := X.out.cells
  obtain ⟨cY0, cY1⟩ := Y.out.cells
  go_wp2_with fail
  all_goals
    refine (HRx.out _).mono ?_
    rintro e w12 ⟨rfl, hb⟩
    have T12 := Lib.hid (T11.out.step hb)
    replace A := Lib.hid (A.out.step hb)
    replace B := Lib.hid (B.out.step hb)
    replace X := Lib.hid (X.out.step hb)
    replace Y := Lib.hid (Y.out.step hb)
    clear hb
    clear cA0 cA1 cB0 cB1 cX0 cX1 cY0 cY1
    have T13 := Lib.hid (T12.out.alloc (.cells #[.int .i64 xn, .int .i64 xd] 25))
    replace A := Lib.hid (A.out.alloc (.cells #[.int .i64 xn, .int .i64 xd] 25))
    replace B := Lib.hid (B.out.alloc (.cells #[.int .i64 xn, .int .i64 xd] 25))
    replace X := Lib.hid (X.out.alloc (.cells #[.int .i64 xn, .int .i64 xd] 25))
    replace Y := Lib.hid (Y.out.alloc (.cells #[.int .i64 xn, .int .i64 xd] 25))
    have Z := Lib.hid (C2.new w12 (.int .i64 xn) (.int .i64 xd) 25)
    obtain ⟨cA0, cA1⟩ := A.out.cells
    obtain ⟨cB0, cB1⟩ := B.out.cells
    obtain ⟨cX0, cX1⟩ := X.out.cells
    obtain ⟨cY0, cY1⟩ := Y.out.cells
    obtain ⟨cZ0, cZ1⟩ := Z.out.cells
    go_wp2_with fail
    generalize w12.alloc (.cells #[.int .i64 xn, .int .i64 xd] 25) = w13 at *
    generalize w12.heap.size = nZ at *
    refine (HCab.out _).mono ?_
    rintro e w14 ⟨rfl, hb⟩
    have T14 := Lib.hid (T13.out.step hb)
    replace A := Lib.hid (A.out.step hb)
    replace B := Lib.hid (B.out.step hb)
    replace X := Lib.hid (X.out.step hb)
    replace Y := Lib.hid (Y.out.step hb)
    replace Z := Lib.hid (Z.out.step hb)
    clear hb
    clear cA0 cA1 cB0 cB1 cX0 cX1 cY0 cY1 cZ0 cZ1
    obtain ⟨cA0, cA1⟩ := A.out.cells
    obtain ⟨cB0, cB1⟩ := B.out.cells
    obtain ⟨cX0, cX1⟩ := X.out.cells
    obtain ⟨cY0, cY1⟩ := Y.out.cells
    obtain ⟨cZ0, cZ1⟩ := Z.out.cells
    go_wp2_with fail
    go_ret
    exact ⟨by first | rfl | simp, T14.out.bel⟩
set_option maxHeartbeats 2000000 in
set_option maxRecDepth 100000 in
theorem rounds_le (an ad bn bd raw r n xn xd yn yd t k far c c2 : Int) (w : World) (ht : Tabs w)
    (hVa : ∀ w, Calls Tryd.prog 15 #[.agg #[.int .i64 an, .int .i64 ad]] w fun e w' => e = .returned (.bool true) ∧ Below w.heap.size w w')
    (hVb : ∀ w, Calls Tryd.prog 15 #[.agg #[.int .i64 bn, .int .i64 bd]] w fun e w' => e = .returned (.bool true) ∧ Below w.heap.size w w')
    (na : -1000000000000 ≤ an) (na2 : an ≤ 1000000000000) (nb : -1000000000000 ≤ bn) (nb2 : bn ≤ 1000000000000) (big : max an (-an) ≤ 1000000000) (big2 : max bn (-bn) ≤ 1000000000)
    (hr : raw.tmod 1000 = r) (hr1 : -1000 < r) (hr2 : r < 1000) (hn : 1 + max r (-r) = n)
    (hRa : ∀ w, Calls Tryd.prog 21 #[.agg #[.int .i64 an, .int .i64 ad], .int .i64 n] w (Ret3 w xn xd 0))
    (hRb : ∀ w, Calls Tryd.prog 21 #[.agg #[.int .i64 bn, .int .i64 bd], .int .i64 n] w (Ret3 w yn yd 0))
    (hRx : ∀ w, Calls Tryd.prog 21 #[.agg #[.int .i64 xn, .int .i64 xd], .int .i64 n] w (Ret3 w xn xd 0))
    (hVx : ∀ w, Calls Tryd.prog 15 #[.agg #[.int .i64 xn, .int .i64 xd]] w fun e w' => e = .returned (.bool true) ∧ Below w.heap.size w w')
    (xd0 : xd ≠ 0) (hm : n.tmod xd = 0) (hq : n.tdiv xd = t) (ht1 : -1000 ≤ t) (ht2 : t ≤ 1000) (hk : xn * t = k) (wk : wrap64 k = k)
    (m1 : wrap64 (k * ad) = k * ad) (m2 : wrap64 (an * n) = an * n) (m3 : wrap64 (k * ad - an * n) = k * ad - an * n) (hf : 2 * (k * ad - an * n) = far)
    (ad1 : 1 ≤ ad) (ad2 : ad ≤ 1000000) (f1 : far ≤ ad) (f2 : -ad ≤ far) (f3 : far = ad → k.tmod 2 = 0) (f4 : far = -ad → k.tmod 2 = 0)
    (hCab : ∀ w, Calls Tryd.prog 16 #[.agg #[.int .i64 an, .int .i64 ad], .agg #[.int .i64 bn, .int .i64 bd]] w fun e' w' => e' = .returned (.int .i64 c) ∧ Below w.heap.size w w')
    (hc : c ≤ 0)
    (hCxy : ∀ w, Calls Tryd.prog 16 #[.agg #[.int .i64 xn, .int .i64 xd], .agg #[.int .i64 yn, .int .i64 yd]] w fun e' w' => e' = .returned (.int .i64 c2) ∧ Below w.heap.size w w')
    (hc2 : c2 ≤ 0) :
    Calls Tryd.prog 6 #[.agg #[.int .i64 an, .int .i64 ad], .agg #[.int .i64 bn, .int .i64 bd], .int .i64 raw] w fun e w' => e = .returned (.bool true) ∧ Below w.heap.size w w' := by
  have HVa := Lib.hid hVa
  clear hVa
  have HVb := Lib.hid hVb
  clear hVb
  have HRa := Lib.hid hRa
  clear hRa
  have HRb := Lib.hid hRb
  clear hRb
  have HRx := Lib.hid hRx
  clear hRx
  have HVx := Lib.hid hVx
  clear hVx
  have HCab := Lib.hid hCab
  clear hCab
  have HCxy := Lib.hid hCxy
  clear hCxy
  have T0 : Hid (Trk w w) := Lib.hid ⟨ht, Below.refl _ _⟩
  clear ht
  have T1 := Lib.hid (T0.out.alloc (.cells #[.int .i64 an, .int .i64 ad] 25))
  have A := Lib.hid (C2.new (w) (.int .i64 an) (.int .i64 ad) 25)
  have T2 := Lib.hid (T1.out.alloc (.cells #[.int .i64 bn, .int .i64 bd] 25))
  replace A := Lib.hid (A.out.alloc (.cells #[.int .i64 bn, .int .i64 bd] 25))
  have B := Lib.hid (C2.new ((w).alloc (.cells #[.int .i64 an, .int .i64 ad] 25)) (.int .i64 bn) (.int .i64 bd) 25)
  go_enter Tryd.func6, Tryd.ntmps6
  go_wp2_with fail
  have hz : ((w).alloc (.cells #[.int .i64 an, .int .i64 ad] 25)).heap.size = w.heap.size + 1 := by simp
  rw [hz] at B
  clear hz
  generalize ((w).alloc (.cells #[.int .i64 an, .int .i64 ad] 25)).alloc (.cells #[.int .i64 bn, .int .i64 bd] 25) = w2 at *
  refine (head01 _ T2.out.tabs).mono ?_
  rintro e w3 ⟨rfl, hb⟩
  have T3 := Lib.hid (T2.out.step hb)
  replace A := Lib.hid (A.out.step hb)
  replace B := Lib.hid (B.out.step hb)
  clear hb
  obtain ⟨cA0, cA1⟩ := A.out.cells
  obtain ⟨cB0, cB1⟩ := B.out.cells
  go_wp2_with fail
  refine (HVa.out _).mono ?_
  rintro e w4 ⟨rfl, hb⟩
  have T4 := Lib.hid (T3.out.step hb)
  replace A := Lib.hid (A.out.step hb)
  replace B := Lib.hid (B.out.step hb)
  clear hb
  clear cA0 cA1 cB0 cB1
  obtain ⟨cA0, cA1⟩ := A.out.cells
  obtain ⟨cB0, cB1⟩ := B.out.cells
  go_wp2_with fail
  refine (HVb.out _).mono ?_
  rintro e w5 ⟨rfl, hb⟩
  have T5 := Lib.hid (T4.out.step hb)
  replace A := Lib.hid (A.out.step hb)
  replace B := Lib.hid (B.out.step hb)
  clear hb
  clear cA0 cA1 cB0 cB1
  obtain ⟨cA0, cA1⟩ := A.out.cells
  obtain ⟨cB0, cB1⟩ := B.out.cells
  go_wp2_with fail
  refine (HRa.out _).mono ?_
  rintro e w6 ⟨rfl, hb⟩
  have T6 := Lib.hid (T5.out.step hb)
  replace A := Lib.hid (A.out.step hb)
  replace B := Lib.hid (B.out.step hb)
  clear hb
  clear cA0 cA1 cB0 cB1
  have T7 := Lib.hid (T6.out.alloc (.cells #[.int .i64 xn, .int .i64 xd] 25))
  replace A := Lib.hid (A.out.alloc (.cells #[.int .i64 xn, .int .i64 xd] 25))
  replace B := Lib.hid (B.out.alloc (.cells #[.int .i64 xn, .int .i64 xd] 25))
  have X := Lib.hid (C2.new w6 (.int .i64 xn) (.int .i64 xd) 25)
  obtain ⟨cA0, cA1⟩ := A.out.cells
  obtain ⟨cB0, cB1⟩ := B.out.cells
  obtain ⟨cX0, cX1⟩ := X.out.cells
  go_wp2_with fail
  generalize w6.alloc (.cells #[.int .i64 xn, .int .i64 xd] 25) = w7 at *
  generalize w6.heap.size = nX at *
  refine (HRb.out _).mono ?_
  rintro e w8 ⟨rfl, hb⟩
  have T8 := Lib.hid (T7.out.step hb)
  replace A := Lib.hid (A.out.step hb)
  replace B := Lib.hid (B.out.step hb)
  replace X := Lib.hid (X.out.step hb)
  clear hb
  clear cA0 cA1 cB0 cB1 cX0 cX1
  have T9 := Lib.hid (T8.out.alloc (.cells #[.int .i64 yn, .int .i64 yd] 25))
  replace A := Lib.hid (A.out.alloc (.cells #[.int .i64 yn, .int .i64 yd] 25))
  replace B := Lib.hid (B.out.alloc (.cells #[.int .i64 yn, .int .i64 yd] 25))
  replace X := Lib.hid (X.out.alloc (.cells #[.int .i64 yn, .int .i64 yd] 25))
  have Y := Lib.hid (C2.new w8 (.int .i64 yn) (.int .i64 yd) 25)
  obtain ⟨cA0, cA1⟩ := A.out.cells
  obtain ⟨cB0, cB1⟩ := B.out.cells
  obtain ⟨cX0, cX1⟩ := X.out.cells
  obtain ⟨cY0, cY1⟩ := Y.out.cells
  go_wp2_with fail
  generalize w8.alloc (.cells #[.int .i64 yn, .int .i64 yd] 25) = w9 at *
  generalize w8.heap.size = nY at *
  refine (HVx.out _).mono ?_
  rintro e w10 ⟨rfl, hb⟩
  have T10 := Lib.hid (T9.out.step hb)
  replace A := Lib.hid (A.out.step hb)
  replace B := Lib.hid (B.out.step hb)
  replace X := Lib.hid (X.out.step hb)
  replace Y := Lib.hid (Y.out.step hb)
  clear hb
  clear cA0 cA1 cB0 cB1 cX0 cX1 cY0 cY1
  obtain ⟨cA0, cA1⟩ := A.out.cells
  obtain ⟨cB0, cB1⟩ := B.out.cells
  obtain ⟨cX0, cX1⟩ := X.out.cells
  obtain ⟨cY0, cY1⟩ := Y.out.cells
  go_wp2_with fail
  go_quiet (fail)
  have hb := drewN_below w10 nq
  have T11 := Lib.hid (T10.out.step hb)
  replace A := Lib.hid (A.out.step hb)
  replace B := Lib.hid (B.out.step hb)
  replace X := Lib.hid (X.out.step hb)
  replace Y := Lib.hid (Y.out.step hb)
  clear hb
  clear cA0 cA1 cB0 cB1 cX0 cX1 cY0 cY1
  generalize w10.drewN nq = w11 at *
  obtain ⟨cA0, cA1⟩ := A.out.cells
  obtain ⟨cB0, cB1⟩ := B.out.cells
  obtain ⟨cX0, cX1⟩ := X.out.cells
  obtain ⟨cY0, cY1⟩ := Y.out.cells
  go_wp2_with fail
  all_goals
    refine (HRx.out _).mono ?_
    rintro e w12 ⟨rfl, hb⟩
    have T12 := Lib.hid (T11.out.step hb)
    replace A := Lib.hid (A.out.step hb)
    replace B := Lib.hid (B.out.step hb)
    replace X := Lib.hid (X.out.step hb)
    replace Y := Lib.hid (Y.out.step hb)
    clear hb
    clear cA0 cA1 cB0 cB1 cX0 cX1 cY0 cY1
    have T13 := Lib.hid (T12.out.alloc (.cells #[.int .i64 xn, .int .i64 xd] 25))
    replace A := Lib.hid (A.out.alloc (.cells #[.int .i64 xn, .int .i64 xd] 25))
    replace B := Lib.hid (B.out.alloc (.cells #[.int .i64 xn, .int .i64 xd] 25))
    replace X := Lib.hid (X.out.alloc (.cells #[.int .i64 xn, .int .i64 xd] 25))
    replace Y := Lib.hid (Y.out.alloc (.cells #[.int .i64 xn, .int .i64 xd] 25))
    have Z := Lib.hid (C2.new w12 (.int .i64 xn) (.int .i64 xd) 25)
    obtain ⟨cA0, cA1⟩ := A.out.cells
    obtain ⟨cB0, cB1⟩ := B.out.cells
    obtain ⟨cX0, cX1⟩ := X.out.cells
    obtain ⟨cY0, cY1⟩ := Y.out.cells
    obtain ⟨cZ0, cZ1⟩ := Z.out.cells
    go_wp2_with fail
    generalize w12.alloc (.cells #[.int .i64 xn, .int .i64 xd] 25) = w13 at *
    generalize w12.heap.size = nZ at *
    refine (HCab.out _).mono ?_
    rintro e w14 ⟨rfl, hb⟩
    have T14 := Lib.hid (T13.out.step hb)
    replace A := Lib.hid (A.out.step hb)
    replace B := Lib.hid (B.out.step hb)
    replace X := Lib.hid (X.out.step hb)
    replace Y := Lib.hid (Y.out.step hb)
    replace Z := Lib.hid (Z.out.step hb)
    clear hb
    clear cA0 cA1 cB0 cB1 cX0 cX1 cY0 cY1 cZ0 cZ1
    obtain ⟨cA0, cA1⟩ := A.out.cells
    obtain ⟨cB0, cB1⟩ := B.out.cells
    obtain ⟨cX0, cX1⟩ := X.out.cells
    obtain ⟨cY0, cY1⟩ := Y.out.cells
    obtain ⟨cZ0, cZ1⟩ := Z.out.cells
    go_wp2_with fail
    refine (HCxy.out _).mono ?_
    rintro e w15 ⟨rfl, hb⟩
    have T15 := Lib.hid (T14.out.step hb)
    replace A := Lib.hid (A.out.step hb)
    replace B := Lib.hid (B.out.step hb)
    replace X := Lib.hid (X.out.step hb)
    replace Y := Lib.hid (Y.out.step hb)
    replace Z := Lib.hid (Z.out.step hb)
    clear hb
    clear cA0 cA1 cB0 cB1 cX0 cX1 cY0 cY1 cZ0 cZ1
    obtain ⟨cA0, cA1⟩ := A.out.cells
    obtain ⟨cB0, cB1⟩ := B.out.cells
    obtain ⟨cX0, cX1⟩ := X.out.cells
    obtain ⟨cY0, cY1⟩ := Y.out.cells
    obtain ⟨cZ0, cZ1⟩ := Z.out.cells
    go_wp2_with fail
    go_ret
    exact ⟨by first | rfl | simp, T15.out.bel⟩
end Go.Proofs.YtfcdoifijgbjeaaDoor
