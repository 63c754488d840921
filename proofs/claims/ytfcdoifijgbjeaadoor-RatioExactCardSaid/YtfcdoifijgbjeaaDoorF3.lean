/- RatioExact: the walk. -/
import Derived.Test.YtfcdoifijgbjeaaDoorF1
namespace Go.Proofs.YtfcdoifijgbjeaaDoor
open Go.RowKit

theorem run_max4 {P : Program} (w : World) (ts : Array TypeId) (t : TypeId) (x y z u : Int) :
    (Builtin.max_ ts t #[.int .i64 x, .int .i64 y, .int .i64 z, .int .i64 u]).run P w = .ok (.int .i64 (max (max (max x y) z) u)) w := by
  have e : ∀ a b : Int, (if b > a then b else a) = max a b := fun a b => by
    rw [Int.max_def]
    split <;> split <;> omega
  simp [Builtin.max_, Builtin.max2, e]

set_option maxHeartbeats 2000000 in
set_option maxRecDepth 100000 in
theorem exact_i1 (an ad bn bd : Int) (w : World) (ht : Tabs w)
    (hVa : ∀ w, Calls Tryd.prog 15 #[.agg #[.int .i64 an, .int .i64 ad]] w fun e w' => e = .returned (.bool false) ∧ Below w.heap.size w w') :
    Calls Tryd.prog 10 #[.agg #[.int .i64 an, .int .i64 ad], .agg #[.int .i64 bn, .int .i64 bd]] w fun e w' => e = .returned (.bool true) ∧ Below w.heap.size w w' := by
  have HVa := Lib.hid hVa
  clear hVa
  have T0 : Hid (Trk w w) := Lib.hid ⟨ht, Below.refl _ _⟩
  clear ht
  have T1 := Lib.hid (T0.out.alloc (.cells #[.int .i64 an, .int .i64 ad] 25))
  have A := Lib.hid (C2.new (w) (.int .i64 an) (.int .i64 ad) 25)
  have T2 := Lib.hid (T1.out.alloc (.cells #[.int .i64 bn, .int .i64 bd] 25))
  have A' := Lib.hid (A.out.alloc (.cells #[.int .i64 bn, .int .i64 bd] 25))
  clear A
  have A := Lib.hid A'.out
  clear A'
  have B := Lib.hid (C2.new ((w).alloc (.cells #[.int .i64 an, .int .i64 ad] 25)) (.int .i64 bn) (.int .i64 bd) 25)
  go_enter Tryd.func10, Tryd.ntmps10
  go_wp2_with fail
  have hz : ((w).alloc (.cells #[.int .i64 an, .int .i64 ad] 25)).heap.size = w.heap.size + 1 := by simp
  rw [hz] at B
  clear hz
  generalize ((w).alloc (.cells #[.int .i64 an, .int .i64 ad] 25)).alloc (.cells #[.int .i64 bn, .int .i64 bd] 25) = w2 at *
  refine (head01 _ T2.out.tabs).mono ?_
  rintro e w3 ⟨rfl, hb⟩
  have T3 := Lib.hid (T2.out.step hb)
  have A' := Lib.hid (A.out.step hb)
  clear A
  have A := Lib.hid A'.out
  clear A'
  have B' := Lib.hid (B.out.step hb)
  clear B
  have B := Lib.hid B'.out
  clear B'
  clear hb
  obtain ⟨cA0, cA1⟩ := A.out.cells
  obtain ⟨cB0, cB1⟩ := B.out.cells
  go_wp2_with fail
  refine (HVa.out _).mono ?_
  rintro e w4 ⟨rfl, hb⟩
  have T4 := Lib.hid (T3.out.step hb)
  have A' := Lib.hid (A.out.step hb)
  clear A
  have A := Lib.hid A'.out
  clear A'
  have B' := Lib.hid (B.out.step hb)
  clear B
  have B := Lib.hid B'.out
  clear B'
  clear hb
  clear cA0 cA1 cB0 cB1
  obtain ⟨cA0, cA1⟩ := A.out.cells
  obtain ⟨cB0, cB1⟩ := B.out.cells
  go_wp2_with fail
  go_ret
  exact ⟨rfl, T4.out.bel⟩
set_option maxHeartbeats 2000000 in
set_option maxRecDepth 100000 in
theorem exact_i2 (an ad bn bd : Int) (w : World) (ht : Tabs w)
    (hVa : ∀ w, Calls Tryd.prog 15 #[.agg #[.int .i64 an, .int .i64 ad]] w fun e w' => e = .returned (.bool true) ∧ Below w.heap.size w w')
    (hVb : ∀ w, Calls Tryd.prog 15 #[.agg #[.int .i64 bn, .int .i64 bd]] w fun e w' => e = .returned (.bool false) ∧ Below w.heap.size w w') :
    Calls Tryd.prog 10 #[.agg #[.int .i64 an, .int .i64 ad], .agg #[.int .i64 bn, .int .i64 bd]] w fun e w' => e = .returned (.bool true) ∧ Below w.heap.size w w' := by
  have HVa := Lib.hid hVa
  clear hVa
  have HVb := Lib.hid hVb
  clear hVb
  have T0 : Hid (Trk w w) := Lib.hid ⟨ht, Below.refl _ _⟩
  clear ht
  have T1 := Lib.hid (T0.out.alloc (.cells #[.int .i64 an, .int .i64 ad] 25))
  have A := Lib.hid (C2.new (w) (.int .i64 an) (.int .i64 ad) 25)
  have T2 := Lib.hid (T1.out.alloc (.cells #[.int .i64 bn, .int .i64 bd] 25))
  have A' := Lib.hid (A.out.alloc (.cells #[.int .i64 bn, .int .i64 bd] 25))
  clear A
  have A := Lib.hid A'.out
  clear A'
  have B := Lib.hid (C2.new ((w).alloc (.cells #[.int .i64 an, .int .i64 ad] 25)) (.int .i64 bn) (.int .i64 bd) 25)
  go_enter Tryd.func10, Tryd.ntmps10
  go_wp2_with fail
  have hz : ((w).alloc (.cells #[.int .i64 an, .int .i64 ad] 25)).heap.size = w.heap.size + 1 := by simp
  rw [hz] at B
  clear hz
  generalize ((w).alloc (.cells #[.int .i64 an, .int .i64 ad] 25)).alloc (.cells #[.int .i64 bn, .int .i64 bd] 25) = w2 at *
  refine (head01 _ T2.out.tabs).mono ?_
  rintro e w3 ⟨rfl, hb⟩
  have T3 := Lib.hid (T2.out.step hb)
  have A' := Lib.hid (A.out.step hb)
  clear A
  have A := Lib.hid A'.out
  clear A'
  have B' := Lib.hid (B.out.step hb)
  clear B
  have B := Lib.hid B'.out
  clear B'
  clear hb
  obtain ⟨cA0, cA1⟩ := A.out.cells
  obtain ⟨cB0, cB1⟩ := B.out.cells
  go_wp2_with fail
  refine (HVa.out _).mono ?_
  rintro e w4 ⟨rfl, hb⟩
  have T4 := Lib.hid (T3.out.step hb)
  have A' := Lib.hid (A.out.step hb)
  clear A
  have A := Lib.hid A'.out
  clear A'
  have B' := Lib.hid (B.out.step hb)
  clear B
  have B := Lib.hid B'.out
  clear B'
  clear hb
  clear cA0 cA1 cB0 cB1
  obtain ⟨cA0, cA1⟩ := A.out.cells
  obtain ⟨cB0, cB1⟩ := B.out.cells
  go_wp2_with fail
  refine (HVb.out _).mono ?_
  rintro e w5 ⟨rfl, hb⟩
  have T5 := Lib.hid (T4.out.step hb)
  have A' := Lib.hid (A.out.step hb)
  clear A
  have A := Lib.hid A'.out
  clear A'
  have B' := Lib.hid (B.out.step hb)
  clear B
  have B := Lib.hid B'.out
  clear B'
  clear hb
  clear cA0 cA1 cB0 cB1
  obtain ⟨cA0, cA1⟩ := A.out.cells
  obtain ⟨cB0, cB1⟩ := B.out.cells
  go_wp2_with fail
  go_ret
  exact ⟨rfl, T5.out.bel⟩
set_option maxHeartbeats 2000000 in
set_option maxRecDepth 100000 in
theorem exact_i3 (an ad bn bd : Int) (w : World) (ht : Tabs w)
    (hVa : ∀ w, Calls Tryd.prog 15 #[.agg #[.int .i64 an, .int .i64 ad]] w fun e w' => e = .returned (.bool true) ∧ Below w.heap.size w w')
    (hVb : ∀ w, Calls Tryd.prog 15 #[.agg #[.int .i64 bn, .int .i64 bd]] w fun e w' => e = .returned (.bool true) ∧ Below w.heap.size w w')
    (na : -1000000000000 ≤ an) (na2 : an ≤ 1000000000000) (nb : -1000000000000 ≤ bn) (nb2 : bn ≤ 1000000000000) (big : 1000 < max (max (max an (-an)) bn) (-bn)) :
    Calls Tryd.prog 10 #[.agg #[.int .i64 an, .int .i64 ad], .agg #[.int .i64 bn, .int .i64 bd]] w fun e w' => e = .returned (.bool true) ∧ Below w.heap.size w w' := by
  have h4 := fun w => run_max4 (P := Tryd.prog) w #[3, 3, 3, 3] 3 an (-an) bn (-bn)
  generalize hM4 : max (max (max an (-an)) bn) (-bn) = M at *
  clear hM4
  have HVa := Lib.hid hVa
  clear hVa
  have HVb := Lib.hid hVb
  clear hVb
  have T0 : Hid (Trk w w) := Lib.hid ⟨ht, Below.refl _ _⟩
  clear ht
  have T1 := Lib.hid (T0.out.alloc (.cells #[.int .i64 an, .int .i64 ad] 25))
  have A := Lib.hid (C2.new (w) (.int .i64 an) (.int .i64 ad) 25)
  have T2 := Lib.hid (T1.out.alloc (.cells #[.int .i64 bn, .int .i64 bd] 25))
  have A' := Lib.hid (A.out.alloc (.cells #[.int .i64 bn, .int .i64 bd] 25))
  clear A
  have A := Lib.hid A'.out
  clear A'
  have B := Lib.hid (C2.new ((w).alloc (.cells #[.int .i64 an, .int .i64 ad] 25)) (.int .i64 bn) (.int .i64 bd) 25)
  go_enter Tryd.func10, Tryd.ntmps10
  go_wp2_with fail
  have hz : ((w).alloc (.cells #[.int .i64 an, .int .i64 ad] 25)).heap.size = w.heap.size + 1 := by simp
  rw [hz] at B
  clear hz
  generalize ((w).alloc (.cells #[.int .i64 an, .int .i64 ad] 25)).alloc (.cells #[.int .i64 bn, .int .i64 bd] 25) = w2 at *
  refine (head01 _ T2.out.tabs).mono ?_
  rintro e w3 ⟨rfl, hb⟩
  have T3 := Lib.hid (T2.out.step hb)
  have A' := Lib.hid (A.out.step hb)
  clear A
  have A := Lib.hid A'.out
  clear A'
  have B' := Lib.hid (B.out.step hb)
  clear B
  have B := Lib.hid B'.out
  clear B'
  clear hb
  obtain ⟨cA0, cA1⟩ := A.out.cells
  obtain ⟨cB0, cB1⟩ := B.out.cells
  go_wp2_with fail
  refine (HVa.out _).mono ?_
  rintro e w4 ⟨rfl, hb⟩
  have T4 := Lib.hid (T3.out.step hb)
  have A' := Lib.hid (A.out.step hb)
  clear A
  have A := Lib.hid A'.out
  clear A'
  have B' := Lib.hid (B.out.step hb)
  clear B
  have B := Lib.hid B'.out
  clear B'
  clear hb
  clear cA0 cA1 cB0 cB1
  obtain ⟨cA0, cA1⟩ := A.out.cells
  obtain ⟨cB0, cB1⟩ := B.out.cells
  go_wp2_with fail
  refine (HVb.out _).mono ?_
  rintro e w5 ⟨rfl, hb⟩
  have T5 := Lib.hid (T4.out.step hb)
  have A' := Lib.hid (A.out.step hb)
  clear A
  have A := Lib.hid A'.out
  clear A'
  have B' := Lib.hid (B.out.step hb)
  clear B
  have B := Lib.hid B'.out
  clear B'
  clear hb
  clear cA0 cA1 cB0 cB1
  obtain ⟨cA0, cA1⟩ := A.out.cells
  obtain ⟨cB0, cB1⟩ := B.out.cells
  go_wp2_with fail
  go_ret
  exact ⟨rfl, T5.out.bel⟩
set_option maxHeartbeats 2000000 in
set_option maxRecDepth 100000 in
theorem exact_i4 (an ad bn bd : Int) (w : World) (ht : Tabs w)
    (hVa : ∀ w, Calls Tryd.prog 15 #[.agg #[.int .i64 an, .int .i64 ad]] w fun e w' => e = .returned (.bool true) ∧ Below w.heap.size w w')
    (hVb : ∀ w, Calls Tryd.prog 15 #[.agg #[.int .i64 bn, .int .i64 bd]] w fun e w' => e = .returned (.bool true) ∧ Below w.heap.size w w')
    (na : -1000000000000 ≤ an) (na2 : an ≤ 1000000000000) (nb : -1000000000000 ≤ bn) (nb2 : bn ≤ 1000000000000) (big : max (max (max an (-an)) bn) (-bn) ≤ 1000) (big2 : 1000 < max ad bd) :
    Calls Tryd.prog 10 #[.agg #[.int .i64 an, .int .i64 ad], .agg #[.int .i64 bn, .int .i64 bd]] w fun e w' => e = .returned (.bool true) ∧ Below w.heap.size w w' := by
  have h4 := fun w => run_max4 (P := Tryd.prog) w #[3, 3, 3, 3] 3 an (-an) bn (-bn)
  generalize hM4 : max (max (max an (-an)) bn) (-bn) = M at *
  clear hM4
  have HVa := Lib.hid hVa
  clear hVa
  have HVb := Lib.hid hVb
  clear hVb
  have T0 : Hid (Trk w w) := Lib.hid ⟨ht, Below.refl _ _⟩
  clear ht
  have T1 := Lib.hid (T0.out.alloc (.cells #[.int .i64 an, .int .i64 ad] 25))
  have A := Lib.hid (C2.new (w) (.int .i64 an) (.int .i64 ad) 25)
  have T2 := Lib.hid (T1.out.alloc (.cells #[.int .i64 bn, .int .i64 bd] 25))
  have A' := Lib.hid (A.out.alloc (.cells #[.int .i64 bn, .int .i64 bd] 25))
  clear A
  have A := Lib.hid A'.out
  clear A'
  have B := Lib.hid (C2.new ((w).alloc (.cells #[.int .i64 an, .int .i64 ad] 25)) (.int .i64 bn) (.int .i64 bd) 25)
  go_enter Tryd.func10, Tryd.ntmps10
  go_wp2_with fail
  have hz : ((w).alloc (.cells #[.int .i64 an, .int .i64 ad] 25)).heap.size = w.heap.size + 1 := by simp
  rw [hz] at B
  clear hz
  generalize ((w).alloc (.cells #[.int .i64 an, .int .i64 ad] 25)).alloc (.cells #[.int .i64 bn, .int .i64 bd] 25) = w2 at *
  refine (head01 _ T2.out.tabs).mono ?_
  rintro e w3 ⟨rfl, hb⟩
  have T3 := Lib.hid (T2.out.step hb)
  have A' := Lib.hid (A.out.step hb)
  clear A
  have A := Lib.hid A'.out
  clear A'
  have B' := Lib.hid (B.out.step hb)
  clear B
  have B := Lib.hid B'.out
  clear B'
  clear hb
  obtain ⟨cA0, cA1⟩ := A.out.cells
  obtain ⟨cB0, cB1⟩ := B.out.cells
  go_wp2_with fail
  refine (HVa.out _).mono ?_
  rintro e w4 ⟨rfl, hb⟩
  have T4 := Lib.hid (T3.out.step hb)
  have A' := Lib.hid (A.out.step hb)
  clear A
  have A := Lib.hid A'.out
  clear A'
  have B' := Lib.hid (B.out.step hb)
  clear B
  have B := Lib.hid B'.out
  clear B'
  clear hb
  clear cA0 cA1 cB0 cB1
  obtain ⟨cA0, cA1⟩ := A.out.cells
  obtain ⟨cB0, cB1⟩ := B.out.cells
  go_wp2_with fail
  refine (HVb.out _).mono ?_
  rintro e w5 ⟨rfl, hb⟩
  have T5 := Lib.hid (T4.out.step hb)
  have A' := Lib.hid (A.out.step hb)
  clear A
  have A := Lib.hid A'.out
  clear A'
  have B' := Lib.hid (B.out.step hb)
  clear B
  have B := Lib.hid B'.out
  clear B'
  clear hb
  clear cA0 cA1 cB0 cB1
  obtain ⟨cA0, cA1⟩ := A.out.cells
  obtain ⟨cB0, cB1⟩ := B.out.cells
  go_wp2_with fail
  go_ret
  exact ⟨rfl, T5.out.bel⟩
set_option maxHeartbeats 2000000 in
set_option maxRecDepth 100000 in
theorem exact_z (an ad bn bd sn sd dn dd pn pd : Int) (w : World) (ht : Tabs w)
    (hVa : ∀ w, Calls Tryd.prog 15 #[.agg #[.int .i64 an, .int .i64 ad]] w fun e w' => e = .returned (.bool true) ∧ Below w.heap.size w w')
    (hVb : ∀ w, Calls Tryd.prog 15 #[.agg #[.int .i64 bn, .int .i64 bd]] w fun e w' => e = .returned (.bool true) ∧ Below w.heap.size w w')
    (na : -1000000000000 ≤ an) (na2 : an ≤ 1000000000000) (nb : -1000000000000 ≤ bn) (nb2 : bn ≤ 1000000000000) (big : max (max (max an (-an)) bn) (-bn) ≤ 1000) (big2 : max ad bd ≤ 1000)
    (hA : ∀ w, Calls Tryd.prog 17 #[.agg #[.int .i64 an, .int .i64 ad], .agg #[.int .i64 bn, .int .i64 bd]] w (Ret3 w sn sd 0))
    (hS : ∀ w, Calls Tryd.prog 28 #[.agg #[.int .i64 an, .int .i64 ad], .agg #[.int .i64 bn, .int .i64 bd]] w (Ret3 w dn dd 0))
    (hM : ∀ w, Calls Tryd.prog 18 #[.agg #[.int .i64 an, .int .i64 ad], .agg #[.int .i64 bn, .int .i64 bd]] w (Ret3 w pn pd 0))
    (hD : ∀ w, Calls Tryd.prog 31 #[.agg #[.int .i64 an, .int .i64 ad], .agg #[.int .i64 bn, .int .i64 bd]] w (Ret3 w 0 0 1))
    (hVs : ∀ w, Calls Tryd.prog 15 #[.agg #[.int .i64 sn, .int .i64 sd]] w fun e w' => e = .returned (.bool true) ∧ Below w.heap.size w w')
    (hVd : ∀ w, Calls Tryd.prog 15 #[.agg #[.int .i64 dn, .int .i64 dd]] w fun e w' => e = .returned (.bool true) ∧ Below w.heap.size w w')
    (hVp : ∀ w, Calls Tryd.prog 15 #[.agg #[.int .i64 pn, .int .i64 pd]] w fun e w' => e = .returned (.bool true) ∧ Below w.heap.size w w')
    (m0 : wrap64 (ad * bd) = ad * bd) (m1 : wrap64 (an * bd) = an * bd) (m2 : wrap64 (bn * ad) = bn * ad) (m3 : wrap64 (an * bd + bn * ad) = an * bd + bn * ad) (m4 : wrap64 (an * bd - bn * ad) = an * bd - bn * ad) (m5 : wrap64 (an * bn) = an * bn) (m6 : wrap64 (sn * (ad * bd)) = sn * (ad * bd)) (m7 : wrap64 ((an * bd + bn * ad) * sd) = (an * bd + bn * ad) * sd) (m8 : wrap64 (dn * (ad * bd)) = dn * (ad * bd)) (m9 : wrap64 ((an * bd - bn * ad) * dd) = (an * bd - bn * ad) * dd) (m10 : wrap64 (pn * (ad * bd)) = pn * (ad * bd)) (m11 : wrap64 (an * bn * pd) = an * bn * pd)
    (ea : (sn * (ad * bd) != (an * bd + bn * ad) * sd) = false) (eb : (dn * (ad * bd) != (an * bd - bn * ad) * dd) = false) (ec : (pn * (ad * bd) != an * bn * pd) = false)
    (hz : (bn == 0) = true) :
    Calls Tryd.prog 10 #[.agg #[.int .i64 an, .int .i64 ad], .agg #[.int .i64 bn, .int .i64 bd]] w fun e w' => e = .returned (.bool true) ∧ Below w.heap.size w w' := by
  have h4 := fun w => run_max4 (P := Tryd.prog) w #[3, 3, 3, 3] 3 an (-an) bn (-bn)
  generalize hM4 : max (max (max an (-an)) bn) (-bn) = M at *
  clear hM4
  have HVa := Lib.hid hVa
  clear hVa
  have HVb := Lib.hid hVb
  clear hVb
  have HA := Lib.hid hA
  clear hA
  have HS := Lib.hid hS
  clear hS
  have HM := Lib.hid hM
  clear hM
  have HD := Lib.hid hD
  clear hD
  have HVs := Lib.hid hVs
  clear hVs
  have HVd := Lib.hid hVd
  clear hVd
  have HVp := Lib.hid hVp
  clear hVp
  have T0 : Hid (Trk w w) := Lib.hid ⟨ht, Below.refl _ _⟩
  clear ht
  have T1 := Lib.hid (T0.out.alloc (.cells #[.int .i64 an, .int .i64 ad] 25))
  have A := Lib.hid (C2.new (w) (.int .i64 an) (.int .i64 ad) 25)
  have T2 := Lib.hid (T1.out.alloc (.cells #[.int .i64 bn, .int .i64 bd] 25))
  have A' := Lib.hid (A.out.alloc (.cells #[.int .i64 bn, .int .i64 bd] 25))
  clear A
  have A := Lib.hid A'.out
  clear A'
  have B := Lib.hid (C2.new ((w).alloc (.cells #[.int .i64 an, .int .i64 ad] 25)) (.int .i64 bn) (.int .i64 bd) 25)
  go_enter Tryd.func10, Tryd.ntmps10
  go_wp2_with fail
  have hz : ((w).alloc (.cells #[.int .i64 an, .int .i64 ad] 25)).heap.size = w.heap.size + 1 := by simp
  rw [hz] at B
  clear hz
  generalize ((w).alloc (.cells #[.int .i64 an, .int .i64 ad] 25)).alloc (.cells #[.int .i64 bn, .int .i64 bd] 25) = w2 at *
  refine (head01 _ T2.out.tabs).mono ?_
  rintro e w3 ⟨rfl, hb⟩
  have T3 := Lib.hid (T2.out.step hb)
  have A' := Lib.hid (A.out.step hb)
  clear A
  have A := Lib.hid A'.out
  clear A'
  have B' := Lib.hid (B.out.step hb)
  clear B
  have B := Lib.hid B'.out
  clear B'
  clear hb
  obtain ⟨cA0, cA1⟩ := A.out.cells
  obtain ⟨cB0, cB1⟩ := B.out.cells
  go_wp2_with fail
  refine (HVa.out _).mono ?_
  rintro e w4 ⟨rfl, hb⟩
  have T4 := Lib.hid (T3.out.step hb)
  have A' := Lib.hid (A.out.step hb)
  clear A
  have A := Lib.hid A'.out
  clear A'
  have B' := Lib.hid (B.out.step hb)
  clear B
  have B := Lib.hid B'.out
  clear B'
  clear hb
  clear cA0 cA1 cB0 cB1
  obtain ⟨cA0, cA1⟩ := A.out.cells
  obtain ⟨cB0, cB1⟩ := B.out.cells
  go_wp2_with fail
  refine (HVb.out _).mono ?_
  rintro e w5 ⟨rfl, hb⟩
  have T5 := Lib.hid (T4.out.step hb)
  have A' := Lib.hid (A.out.step hb)
  clear A
  have A := Lib.hid A'.out
  clear A'
  have B' := Lib.hid (B.out.step hb)
  clear B
  have B := Lib.hid B'.out
  clear B'
  clear hb
  clear cA0 cA1 cB0 cB1
  obtain ⟨cA0, cA1⟩ := A.out.cells
  obtain ⟨cB0, cB1⟩ := B.out.cells
  go_wp2_with fail
  refine (HA.out _).mono ?_
  rintro e w6 ⟨rfl, hb⟩
  have T6 := Lib.hid (T5.out.step hb)
  have A' := Lib.hid (A.out.step hb)
  clear A
  have A := Lib.hid A'.out
  clear A'
  have B' := Lib.hid (B.out.step hb)
  clear B
  have B := Lib.hid B'.out
  clear B'
  clear hb
  clear cA0 cA1 cB0 cB1
  have T7 := Lib.hid (T6.out.alloc (.cells #[.int .i64 sn, .int .i64 sd] 25))
  have A' := Lib.hid (A.out.alloc (.cells #[.int .i64 sn, .int .i64 sd] 25))
  clear A
  have A := Lib.hid A'.out
  clear A'
  have B' := Lib.hid (B.out.alloc (.cells #[.int .i64 sn, .int .i64 sd] 25))
  clear B
  have B := Lib.hid B'.out
  clear B'
  have S1 := Lib.hid (C2.new w6 (.int .i64 sn) (.int .i64 sd) 25)
  obtain ⟨cA0, cA1⟩ := A.out.cells
  obtain ⟨cB0, cB1⟩ := B.out.cells
  obtain ⟨cS10, cS11⟩ := S1.out.cells
  go_wp2_with fail
  generalize w6.alloc (.cells #[.int .i64 sn, .int .i64 sd] 25) = w7 at *
  generalize w6.heap.size = nS1 at *
  refine (HS.out _).mono ?_
  rintro e w8 ⟨rfl, hb⟩
  have T8 := Lib.hid (T7.out.step hb)
  have A' := Lib.hid (A.out.step hb)
  clear A
  have A := Lib.hid A'.out
  clear A'
  have B' := Lib.hid (B.out.step hb)
  clear B
  have B := Lib.hid B'.out
  clear B'
  have S1' := Lib.hid (S1.out.step hb)
  clear S1
  have S1 := Lib.hid S1'.out
  clear S1'
  clear hb
  clear cA0 cA1 cB0 cB1 cS10 cS11
  have T9 := Lib.hid (T8.out.alloc (.cells #[.int .i64 dn, .int .i64 dd] 25))
  have A' := Lib.hid (A.out.alloc (.cells #[.int .i64 dn, .int .i64 dd] 25))
  clear A
  have A := Lib.hid A'.out
  clear A'
  have B' := Lib.hid (B.out.alloc (.cells #[.int .i64 dn, .int .i64 dd] 25))
  clear B
  have B := Lib.hid B'.out
  clear B'
  have S1' := Lib.hid (S1.out.alloc (.cells #[.int .i64 dn, .int .i64 dd] 25))
  clear S1
  have S1 := Lib.hid S1'.out
  clear S1'
  have S2 := Lib.hid (C2.new w8 (.int .i64 dn) (.int .i64 dd) 25)
  obtain ⟨cA0, cA1⟩ := A.out.cells
  obtain ⟨cB0, cB1⟩ := B.out.cells
  obtain ⟨cS10, cS11⟩ := S1.out.cells
  obtain ⟨cS20, cS21⟩ := S2.out.cells
  go_wp2_with fail
  generalize w8.alloc (.cells #[.int .i64 dn, .int .i64 dd] 25) = w9 at *
  generalize w8.heap.size = nS2 at *
  refine (HM.out _).mono ?_
  rintro e w10 ⟨rfl, hb⟩
  have T10 := Lib.hid (T9.out.step hb)
  have A' := Lib.hid (A.out.step hb)
  clear A
  have A := Lib.hid A'.out
  clear A'
  have B' := Lib.hid (B.out.step hb)
  clear B
  have B := Lib.hid B'.out
  clear B'
  have S1' := Lib.hid (S1.out.step hb)
  clear S1
  have S1 := Lib.hid S1'.out
  clear S1'
  have S2' := Lib.hid (S2.out.step hb)
  clear S2
  have S2 := Lib.hid S2'.out
  clear S2'
  clear hb
  clear cA0 cA1 cB0 cB1 cS10 cS11 cS20 cS21
  have T11 := Lib.hid (T10.out.alloc (.cells #[.int .i64 pn, .int .i64 pd] 25))
  have A' := Lib.hid (A.out.alloc (.cells #[.int .i64 pn, .int .i64 pd] 25))
  clear A
  have A := Lib.hid A'.out
  clear A'
  have B' := Lib.hid (B.out.alloc (.cells #[.int .i64 pn, .int .i64 pd] 25))
  clear B
  have B := Lib.hid B'.out
  clear B'
  have S1' := Lib.hid (S1.out.alloc (.cells #[.int .i64 pn, .int .i64 pd] 25))
  clear S1
  have S1 := Lib.hid S1'.out
  clear S1'
  have S2' := Lib.hid (S2.out.alloc (.cells #[.int .i64 pn, .int .i64 pd] 25))
  clear S2
  have S2 := Lib.hid S2'.out
  clear S2'
  have S3 := Lib.hid (C2.new w10 (.int .i64 pn) (.int .i64 pd) 25)
  obtain ⟨cA0, cA1⟩ := A.out.cells
  obtain ⟨cB0, cB1⟩ := B.out.cells
  obtain ⟨cS10, cS11⟩ := S1.out.cells
  obtain ⟨cS20, cS21⟩ := S2.out.cells
  obtain ⟨cS30, cS31⟩ := S3.out.cells
  go_wp2_with fail
  generalize w10.alloc (.cells #[.int .i64 pn, .int .i64 pd] 25) = w11 at *
  generalize w10.heap.size = nS3 at *
  refine (HD.out _).mono ?_
  rintro e w12 ⟨rfl, hb⟩
  have T12 := Lib.hid (T11.out.step hb)
  have A' := Lib.hid (A.out.step hb)
  clear A
  have A := Lib.hid A'.out
  clear A'
  have B' := Lib.hid (B.out.step hb)
  clear B
  have B := Lib.hid B'.out
  clear B'
  have S1' := Lib.hid (S1.out.step hb)
  clear S1
  have S1 := Lib.hid S1'.out
  clear S1'
  have S2' := Lib.hid (S2.out.step hb)
  clear S2
  have S2 := Lib.hid S2'.out
  clear S2'
  have S3' := Lib.hid (S3.out.step hb)
  clear S3
  have S3 := Lib.hid S3'.out
  clear S3'
  clear hb
  clear cA0 cA1 cB0 cB1 cS10 cS11 cS20 cS21 cS30 cS31
  have T13 := Lib.hid (T12.out.alloc (.cells #[.int .i64 0, .int .i64 0] 25))
  have A' := Lib.hid (A.out.alloc (.cells #[.int .i64 0, .int .i64 0] 25))
  clear A
  have A := Lib.hid A'.out
  clear A'
  have B' := Lib.hid (B.out.alloc (.cells #[.int .i64 0, .int .i64 0] 25))
  clear B
  have B := Lib.hid B'.out
  clear B'
  have S1' := Lib.hid (S1.out.alloc (.cells #[.int .i64 0, .int .i64 0] 25))
  clear S1
  have S1 := Lib.hid S1'.out
  clear S1'
  have S2' := Lib.hid (S2.out.alloc (.cells #[.int .i64 0, .int .i64 0] 25))
  clear S2
  have S2 := Lib.hid S2'.out
  clear S2'
  have S3' := Lib.hid (S3.out.alloc (.cells #[.int .i64 0, .int .i64 0] 25))
  clear S3
  have S3 := Lib.hid S3'.out
  clear S3'
  have S4 := Lib.hid (C2.new w12 (.int .i64 0) (.int .i64 0) 25)
  obtain ⟨cA0, cA1⟩ := A.out.cells
  obtain ⟨cB0, cB1⟩ := B.out.cells
  obtain ⟨cS10, cS11⟩ := S1.out.cells
  obtain ⟨cS20, cS21⟩ := S2.out.cells
  obtain ⟨cS30, cS31⟩ := S3.out.cells
  obtain ⟨cS40, cS41⟩ := S4.out.cells
  go_wp2_with fail
  generalize w12.alloc (.cells #[.int .i64 0, .int .i64 0] 25) = w13 at *
  generalize w12.heap.size = nS4 at *
  refine (HVs.out _).mono ?_
  rintro e w14 ⟨rfl, hb⟩
  have T14 := Lib.hid (T13.out.step hb)
  have A' := Lib.hid (A.out.step hb)
  clear A
  have A := Lib.hid A'.out
  clear A'
  have B' := Lib.hid (B.out.step hb)
  clear B
  have B := Lib.hid B'.out
  clear B'
  have S1' := Lib.hid (S1.out.step hb)
  clear S1
  have S1 := Lib.hid S1'.out
  clear S1'
  have S2' := Lib.hid (S2.out.step hb)
  clear S2
  have S2 := Lib.hid S2'.out
  clear S2'
  have S3' := Lib.hid (S3.out.step hb)
  clear S3
  have S3 := Lib.hid S3'.out
  clear S3'
  have S4' := Lib.hid (S4.out.step hb)
  clear S4
  have S4 := Lib.hid S4'.out
  clear S4'
  clear hb
  clear cA0 cA1 cB0 cB1 cS10 cS11 cS20 cS21 cS30 cS31 cS40 cS41
  obtain ⟨cA0, cA1⟩ := A.out.cells
  obtain ⟨cB0, cB1⟩ := B.out.cells
  obtain ⟨cS10, cS11⟩ := S1.out.cells
  obtain ⟨cS20, cS21⟩ := S2.out.cells
  obtain ⟨cS30, cS31⟩ := S3.out.cells
  obtain ⟨cS40, cS41⟩ := S4.out.cells
  go_wp2_with fail
  refine (HVd.out _).mono ?_
  rintro e w15 ⟨rfl, hb⟩
  have T15 := Lib.hid (T14.out.step hb)
  have A' := Lib.hid (A.out.step hb)
  clear A
  have A := Lib.hid A'.out
  clear A'
  have B' := Lib.hid (B.out.step hb)
  clear B
  have B := Lib.hid B'.out
  clear B'
  have S1' := Lib.hid (S1.out.step hb)
  clear S1
  have S1 := Lib.hid S1'.out
  clear S1'
  have S2' := Lib.hid (S2.out.step hb)
  clear S2
  have S2 := Lib.hid S2'.out
  clear S2'
  have S3' := Lib.hid (S3.out.step hb)
  clear S3
  have S3 := Lib.hid S3'.out
  clear S3'
  have S4' := Lib.hid (S4.out.step hb)
  clear S4
  have S4 := Lib.hid S4'.out
  clear S4'
  clear hb
  clear cA0 cA1 cB0 cB1 cS10 cS11 cS20 cS21 cS30 cS31 cS40 cS41
  obtain ⟨cA0, cA1⟩ := A.out.cells
  obtain ⟨cB0, cB1⟩ := B.out.cells
  obtain ⟨cS10, cS11⟩ := S1.out.cells
  obtain ⟨cS20, cS21⟩ := S2.out.cells
  obtain ⟨cS30, cS31⟩ := S3.out.cells
  obtain ⟨cS40, cS41⟩ := S4.out.cells
  go_wp2_with fail
  refine (HVp.out _).mono ?_
  rintro e w16 ⟨rfl, hb⟩
  have T16 := Lib.hid (T15.out.step hb)
  have A' := Lib.hid (A.out.step hb)
  clear A
  have A := Lib.hid A'.out
  clear A'
  have B' := Lib.hid (B.out.step hb)
  clear B
  have B := Lib.hid B'.out
  clear B'
  have S1' := Lib.hid (S1.out.step hb)
  clear S1
  have S1 := Lib.hid S1'.out
  clear S1'
  have S2' := Lib.hid (S2.out.step hb)
  clear S2
  have S2 := Lib.hid S2'.out
  clear S2'
  have S3' := Lib.hid (S3.out.step hb)
  clear S3
  have S3 := Lib.hid S3'.out
  clear S3'
  have S4' := Lib.hid (S4.out.step hb)
  clear S4
  have S4 := Lib.hid S4'.out
  clear S4'
  clear hb
  clear cA0 cA1 cB0 cB1 cS10 cS11 cS20 cS21 cS30 cS31 cS40 cS41
  obtain ⟨cA0, cA1⟩ := A.out.cells
  obtain ⟨cB0, cB1⟩ := B.out.cells
  obtain ⟨cS10, cS11⟩ := S1.out.cells
  obtain ⟨cS20, cS21⟩ := S2.out.cells
  obtain ⟨cS30, cS31⟩ := S3.out.cells
  obtain ⟨cS40, cS41⟩ := S4.out.cells
  go_wp2_with fail
  go_ret
  exact ⟨rfl, T16.out.bel⟩
set_option maxHeartbeats 2000000 in
set_option maxRecDepth 100000 in
theorem exact_n (an ad bn bd sn sd dn dd pn pd qn qd : Int) (w : World) (ht : Tabs w)
    (hVa : ∀ w, Calls Tryd.prog 15 #[.agg #[.int .i64 an, .int .i64 ad]] w fun e w' => e = .returned (.bool true) ∧ Below w.heap.size w w')
    (hVb : ∀ w, Calls Tryd.prog 15 #[.agg #[.int .i64 bn, .int .i64 bd]] w fun e w' => e = .returned (.bool true) ∧ Below w.heap.size w w')
    (na : -1000000000000 ≤ an) (na2 : an ≤ 1000000000000) (nb : -1000000000000 ≤ bn) (nb2 : bn ≤ 1000000000000) (big : max (max (max an (-an)) bn) (-bn) ≤ 1000) (big2 : max ad bd ≤ 1000)
    (hA : ∀ w, Calls Tryd.prog 17 #[.agg #[.int .i64 an, .int .i64 ad], .agg #[.int .i64 bn, .int .i64 bd]] w (Ret3 w sn sd 0))
    (hS : ∀ w, Calls Tryd.prog 28 #[.agg #[.int .i64 an, .int .i64 ad], .agg #[.int .i64 bn, .int .i64 bd]] w (Ret3 w dn dd 0))
    (hM : ∀ w, Calls Tryd.prog 18 #[.agg #[.int .i64 an, .int .i64 ad], .agg #[.int .i64 bn, .int .i64 bd]] w (Ret3 w pn pd 0))
    (hD : ∀ w, Calls Tryd.prog 31 #[.agg #[.int .i64 an, .int .i64 ad], .agg #[.int .i64 bn, .int .i64 bd]] w (Ret3 w qn qd 0))
    (hVs : ∀ w, Calls Tryd.prog 15 #[.agg #[.int .i64 sn, .int .i64 sd]] w fun e w' => e = .returned (.bool true) ∧ Below w.heap.size w w')
    (hVd : ∀ w, Calls Tryd.prog 15 #[.agg #[.int .i64 dn, .int .i64 dd]] w fun e w' => e = .returned (.bool true) ∧ Below w.heap.size w w')
    (hVp : ∀ w, Calls Tryd.prog 15 #[.agg #[.int .i64 pn, .int .i64 pd]] w fun e w' => e = .returned (.bool true) ∧ Below w.heap.size w w')
    (m0 : wrap64 (ad * bd) = ad * bd) (m1 : wrap64 (an * bd) = an * bd) (m2 : wrap64 (bn * ad) = bn * ad) (m3 : wrap64 (an * bd + bn * ad) = an * bd + bn * ad) (m4 : wrap64 (an * bd - bn * ad) = an * bd - bn * ad) (m5 : wrap64 (an * bn) = an * bn) (m6 : wrap64 (sn * (ad * bd)) = sn * (ad * bd)) (m7 : wrap64 ((an * bd + bn * ad) * sd) = (an * bd + bn * ad) * sd) (m8 : wrap64 (dn * (ad * bd)) = dn * (ad * bd)) (m9 : wrap64 ((an * bd - bn * ad) * dd) = (an * bd - bn * ad) * dd) (m10 : wrap64 (pn * (ad * bd)) = pn * (ad * bd)) (m11 : wrap64 (an * bn * pd) = an * bn * pd) (m12 : wrap64 (ad * bn) = ad * bn) (m13 : wrap64 (qn * (ad * bn)) = qn * (ad * bn)) (m14 : wrap64 (an * bd * qd) = an * bd * qd)
    (ea : (sn * (ad * bd) != (an * bd + bn * ad) * sd) = false) (eb : (dn * (ad * bd) != (an * bd - bn * ad) * dd) = false) (ec : (pn * (ad * bd) != an * bn * pd) = false)
    (hVq : ∀ w, Calls Tryd.prog 15 #[.agg #[.int .i64 qn, .int .i64 qd]] w fun e w' => e = .returned (.bool true) ∧ Below w.heap.size w w')
    (hz : (bn == 0) = false) (eq : (qn * (ad * bn) == an * bd * qd) = true) :
    Calls Tryd.prog 10 #[.agg #[.int .i64 an, .int .i64 ad], .agg #[.int .i64 bn, .int .i64 bd]] w fun e w' => e = .returned (.bool true) ∧ Below w.heap.size w w' := by
  have h4 := fun w => run_max4 (P := Tryd.prog) w #[3, 3, 3, 3] 3 an (-an) bn (-bn)
  generalize hM4 : max (max (max an (-an)) bn) (-bn) = M at *
  clear hM4
  have HVa := Lib.hid hVa
  clear hVa
  have HVb := Lib.hid hVb
  clear hVb
  have HA := Lib.hid hA
  clear hA
  have HS := Lib.hid hS
  clear hS
  have HM := Lib.hid hM
  clear hM
  have HD := Lib.hid hD
  clear hD
  have HVs := Lib.hid hVs
  clear hVs
  have HVd := Lib.hid hVd
  clear hVd
  have HVp := Lib.hid hVp
  clear hVp
  have HVq := Lib.hid hVq
  clear hVq
  have T0 : Hid (Trk w w) := Lib.hid ⟨ht, Below.refl _ _⟩
  clear ht
  have T1 := Lib.hid (T0.out.alloc (.cells #[.int .i64 an, .int .i64 ad] 25))
  have A := Lib.hid (C2.new (w) (.int .i64 an) (.int .i64 ad) 25)
  have T2 := Lib.hid (T1.out.alloc (.cells #[.int .i64 bn, .int .i64 bd] 25))
  have A' := Lib.hid (A.out.alloc (.cells #[.int .i64 bn, .int .i64 bd] 25))
  clear A
  have A := Lib.hid A'.out
  clear A'
  have B := Lib.hid (C2.new ((w).alloc (.cells #[.int .i64 an, .int .i64 ad] 25)) (.int .i64 bn) (.int .i64 bd) 25)
  go_enter Tryd.func10, Tryd.ntmps10
  go_wp2_with fail
  have hz : ((w).alloc (.cells #[.int .i64 an, .int .i64 ad] 25)).heap.size = w.heap.size + 1 := by simp
  rw [hz] at B
  clear hz
  generalize ((w).alloc (.cells #[.int .i64 an, .int .i64 ad] 25)).alloc (.cells #[.int .i64 bn, .int .i64 bd] 25) = w2 at *
  refine (head01 _ T2.out.tabs).mono ?_
  rintro e w3 ⟨rfl, hb⟩
  have T3 := Lib.hid (T2.out.step hb)
  have A' := Lib.hid (A.out.step hb)
  clear A
  have A := Lib.hid A'.out
  clear A'
  have B' := Lib.hid (B.out.step hb)
  clear B
  have B := Lib.hid B'.out
  clear B'
  clear hb
  obtain ⟨cA0, cA1⟩ := A.out.cells
  obtain ⟨cB0, cB1⟩ := B.out.cells
  go_wp2_with fail
  refine (HVa.out _).mono ?_
  rintro e w4 ⟨rfl, hb⟩
  have T4 := Lib.hid (T3.out.step hb)
  have A' := Lib.hid (A.out.step hb)
  clear A
  have A := Lib.hid A'.out
  clear A'
  have B' := Lib.hid (B.out.step hb)
  clear B
  have B := Lib.hid B'.out
  clear B'
  clear hb
  clear cA0 cA1 cB0 cB1
  obtain ⟨cA0, cA1⟩ := A.out.cells
  obtain ⟨cB0, cB1⟩ := B.out.cells
  go_wp2_with fail
  refine (HVb.out _).mono ?_
  rintro e w5 ⟨rfl, hb⟩
  have T5 := Lib.hid (T4.out.step hb)
  have A' := Lib.hid (A.out.step hb)
  clear A
  have A := Lib.hid A'.out
  clear A'
  have B' := Lib.hid (B.out.step hb)
  clear B
  have B := Lib.hid B'.out
  clear B'
  clear hb
  clear cA0 cA1 cB0 cB1
  obtain ⟨cA0, cA1⟩ := A.out.cells
  obtain ⟨cB0, cB1⟩ := B.out.cells
  go_wp2_with fail
  refine (HA.out _).mono ?_
  rintro e w6 ⟨rfl, hb⟩
  have T6 := Lib.hid (T5.out.step hb)
  have A' := Lib.hid (A.out.step hb)
  clear A
  have A := Lib.hid A'.out
  clear A'
  have B' := Lib.hid (B.out.step hb)
  clear B
  have B := Lib.hid B'.out
  clear B'
  clear hb
  clear cA0 cA1 cB0 cB1
  have T7 := Lib.hid (T6.out.alloc (.cells #[.int .i64 sn, .int .i64 sd] 25))
  have A' := Lib.hid (A.out.alloc (.cells #[.int .i64 sn, .int .i64 sd] 25))
  clear A
  have A := Lib.hid A'.out
  clear A'
  have B' := Lib.hid (B.out.alloc (.cells #[.int .i64 sn, .int .i64 sd] 25))
  clear B
  have B := Lib.hid B'.out
  clear B'
  have S1 := Lib.hid (C2.new w6 (.int .i64 sn) (.int .i64 sd) 25)
  obtain ⟨cA0, cA1⟩ := A.out.cells
  obtain ⟨cB0, cB1⟩ := B.out.cells
  obtain ⟨cS10, cS11⟩ := S1.out.cells
  go_wp2_with fail
  generalize w6.alloc (.cells #[.int .i64 sn, .int .i64 sd] 25) = w7 at *
  generalize w6.heap.size = nS1 at *
  refine (HS.out _).mono ?_
  rintro e w8 ⟨rfl, hb⟩
  have T8 := Lib.hid (T7.out.step hb)
  have A' := Lib.hid (A.out.step hb)
  clear A
  have A := Lib.hid A'.out
  clear A'
  have B' := Lib.hid (B.out.step hb)
  clear B
  have B := Lib.hid B'.out
  clear B'
  have S1' := Lib.hid (S1.out.step hb)
  clear S1
  have S1 := Lib.hid S1'.out
  clear S1'
  clear hb
  clear cA0 cA1 cB0 cB1 cS10 cS11
  have T9 := Lib.hid (T8.out.alloc (.cells #[.int .i64 dn, .int .i64 dd] 25))
  have A' := Lib.hid (A.out.alloc (.cells #[.int .i64 dn, .int .i64 dd] 25))
  clear A
  have A := Lib.hid A'.out
  clear A'
  have B' := Lib.hid (B.out.alloc (.cells #[.int .i64 dn, .int .i64 dd] 25))
  clear B
  have B := Lib.hid B'.out
  clear B'
  have S1' := Lib.hid (S1.out.alloc (.cells #[.int .i64 dn, .int .i64 dd] 25))
  clear S1
  have S1 := Lib.hid S1'.out
  clear S1'
  have S2 := Lib.hid (C2.new w8 (.int .i64 dn) (.int .i64 dd) 25)
  obtain ⟨cA0, cA1⟩ := A.out.cells
  obtain ⟨cB0, cB1⟩ := B.out.cells
  obtain ⟨cS10, cS11⟩ := S1.out.cells
  obtain ⟨cS20, cS21⟩ := S2.out.cells
  go_wp2_with fail
  generalize w8.alloc (.cells #[.int .i64 dn, .int .i64 dd] 25) = w9 at *
  generalize w8.heap.size = nS2 at *
  refine (HM.out _).mono ?_
  rintro e w10 ⟨rfl, hb⟩
  have T10 := Lib.hid (T9.out.step hb)
  have A' := Lib.hid (A.out.step hb)
  clear A
  have A := Lib.hid A'.out
  clear A'
  have B' := Lib.hid (B.out.step hb)
  clear B
  have B := Lib.hid B'.out
  clear B'
  have S1' := Lib.hid (S1.out.step hb)
  clear S1
  have S1 := Lib.hid S1'.out
  clear S1'
  have S2' := Lib.hid (S2.out.step hb)
  clear S2
  have S2 := Lib.hid S2'.out
  clear S2'
  clear hb
  clear cA0 cA1 cB0 cB1 cS10 cS11 cS20 cS21
  have T11 := Lib.hid (T10.out.alloc (.cells #[.int .i64 pn, .int .i64 pd] 25))
  have A' := Lib.hid (A.out.alloc (.cells #[.int .i64 pn, .int .i64 pd] 25))
  clear A
  have A := Lib.hid A'.out
  clear A'
  have B' := Lib.hid (B.out.alloc (.cells #[.int .i64 pn, .int .i64 pd] 25))
  clear B
  have B := Lib.hid B'.out
  clear B'
  have S1' := Lib.hid (S1.out.alloc (.cells #[.int .i64 pn, .int .i64 pd] 25))
  clear S1
  have S1 := Lib.hid S1'.out
  clear S1'
  have S2' := Lib.hid (S2.out.alloc (.cells #[.int .i64 pn, .int .i64 pd] 25))
  clear S2
  have S2 := Lib.hid S2'.out
  clear S2'
  have S3 := Lib.hid (C2.new w10 (.int .i64 pn) (.int .i64 pd) 25)
  obtain ⟨cA0, cA1⟩ := A.out.cells
  obtain ⟨cB0, cB1⟩ := B.out.cells
  obtain ⟨cS10, cS11⟩ := S1.out.cells
  obtain ⟨cS20, cS21⟩ := S2.out.cells
  obtain ⟨cS30, cS31⟩ := S3.out.cells
  go_wp2_with fail
  generalize w10.alloc (.cells #[.int .i64 pn, .int .i64 pd] 25) = w11 at *
  generalize w10.heap.size = nS3 at *
  refine (HD.out _).mono ?_
  rintro e w12 ⟨rfl, hb⟩
  have T12 := Lib.hid (T11.out.step hb)
  have A' := Lib.hid (A.out.step hb)
  clear A
  have A := Lib.hid A'.out
  clear A'
  have B' := Lib.hid (B.out.step hb)
  clear B
  have B := Lib.hid B'.out
  clear B'
  have S1' := Lib.hid (S1.out.step hb)
  clear S1
  have S1 := Lib.hid S1'.out
  clear S1'
  have S2' := Lib.hid (S2.out.step hb)
  clear S2
  have S2 := Lib.hid S2'.out
  clear S2'
  have S3' := Lib.hid (S3.out.step hb)
  clear S3
  have S3 := Lib.hid S3'.out
  clear S3'
  clear hb
  clear cA0 cA1 cB0 cB1 cS10 cS11 cS20 cS21 cS30 cS31
  have T13 := Lib.hid (T12.out.alloc (.cells #[.int .i64 qn, .int .i64 qd] 25))
  have A' := Lib.hid (A.out.alloc (.cells #[.int .i64 qn, .int .i64 qd] 25))
  clear A
  have A := Lib.hid A'.out
  clear A'
  have B' := Lib.hid (B.out.alloc (.cells #[.int .i64 qn, .int .i64 qd] 25))
  clear B
  have B := Lib.hid B'.out
  clear B'
  have S1' := Lib.hid (S1.out.alloc (.cells #[.int .i64 qn, .int .i64 qd] 25))
  clear S1
  have S1 := Lib.hid S1'.out
  clear S1'
  have S2' := Lib.hid (S2.out.alloc (.cells #[.int .i64 qn, .int .i64 qd] 25))
  clear S2
  have S2 := Lib.hid S2'.out
  clear S2'
  have S3' := Lib.hid (S3.out.alloc (.cells #[.int .i64 qn, .int .i64 qd] 25))
  clear S3
  have S3 := Lib.hid S3'.out
  clear S3'
  have S4 := Lib.hid (C2.new w12 (.int .i64 qn) (.int .i64 qd) 25)
  obtain ⟨cA0, cA1⟩ := A.out.cells
  obtain ⟨cB0, cB1⟩ := B.out.cells
  obtain ⟨cS10, cS11⟩ := S1.out.cells
  obtain ⟨cS20, cS21⟩ := S2.out.cells
  obtain ⟨cS30, cS31⟩ := S3.out.cells
  obtain ⟨cS40, cS41⟩ := S4.out.cells
  go_wp2_with fail
  generalize w12.alloc (.cells #[.int .i64 qn, .int .i64 qd] 25) = w13 at *
  generalize w12.heap.size = nS4 at *
  refine (HVs.out _).mono ?_
  rintro e w14 ⟨rfl, hb⟩
  have T14 := Lib.hid (T13.out.step hb)
  have A' := Lib.hid (A.out.step hb)
  clear A
  have A := Lib.hid A'.out
  clear A'
  have B' := Lib.hid (B.out.step hb)
  clear B
  have B := Lib.hid B'.out
  clear B'
  have S1' := Lib.hid (S1.out.step hb)
  clear S1
  have S1 := Lib.hid S1'.out
  clear S1'
  have S2' := Lib.hid (S2.out.step hb)
  clear S2
  have S2 := Lib.hid S2'.out
  clear S2'
  have S3' := Lib.hid (S3.out.step hb)
  clear S3
  have S3 := Lib.hid S3'.out
  clear S3'
  have S4' := Lib.hid (S4.out.step hb)
  clear S4
  have S4 := Lib.hid S4'.out
  clear S4'
  clear hb
  clear cA0 cA1 cB0 cB1 cS10 cS11 cS20 cS21 cS30 cS31 cS40 cS41
  obtain ⟨cA0, cA1⟩ := A.out.cells
  obtain ⟨cB0, cB1⟩ := B.out.cells
  obtain ⟨cS10, cS11⟩ := S1.out.cells
  obtain ⟨cS20, cS21⟩ := S2.out.cells
  obtain ⟨cS30, cS31⟩ := S3.out.cells
  obtain ⟨cS40, cS41⟩ := S4.out.cells
  go_wp2_with fail
  refine (HVd.out _).mono ?_
  rintro e w15 ⟨rfl, hb⟩
  have T15 := Lib.hid (T14.out.step hb)
  have A' := Lib.hid (A.out.step hb)
  clear A
  have A := Lib.hid A'.out
  clear A'
  have B' := Lib.hid (B.out.step hb)
  clear B
  have B := Lib.hid B'.out
  clear B'
  have S1' := Lib.hid (S1.out.step hb)
  clear S1
  have S1 := Lib.hid S1'.out
  clear S1'
  have S2' := Lib.hid (S2.out.step hb)
  clear S2
  have S2 := Lib.hid S2'.out
  clear S2'
  have S3' := Lib.hid (S3.out.step hb)
  clear S3
  have S3 := Lib.hid S3'.out
  clear S3'
  have S4' := Lib.hid (S4.out.step hb)
  clear S4
  have S4 := Lib.hid S4'.out
  clear S4'
  clear hb
  clear cA0 cA1 cB0 cB1 cS10 cS11 cS20 cS21 cS30 cS31 cS40 cS41
  obtain ⟨cA0, cA1⟩ := A.out.cells
  obtain ⟨cB0, cB1⟩ := B.out.cells
  obtain ⟨cS10, cS11⟩ := S1.out.cells
  obtain ⟨cS20, cS21⟩ := S2.out.cells
  obtain ⟨cS30, cS31⟩ := S3.out.cells
  obtain ⟨cS40, cS41⟩ := S4.out.cells
  go_wp2_with fail
  refine (HVp.out _).mono ?_
  rintro e w16 ⟨rfl, hb⟩
  have T16 := Lib.hid (T15.out.step hb)
  have A' := Lib.hid (A.out.step hb)
  clear A
  have A := Lib.hid A'.out
  clear A'
  have B' := Lib.hid (B.out.step hb)
  clear B
  have B := Lib.hid B'.out
  clear B'
  have S1' := Lib.hid (S1.out.step hb)
  clear S1
  have S1 := Lib.hid S1'.out
  clear S1'
  have S2' := Lib.hid (S2.out.step hb)
  clear S2
  have S2 := Lib.hid S2'.out
  clear S2'
  have S3' := Lib.hid (S3.out.step hb)
  clear S3
  have S3 := Lib.hid S3'.out
  clear S3'
  have S4' := Lib.hid (S4.out.step hb)
  clear S4
  have S4 := Lib.hid S4'.out
  clear S4'
  clear hb
  clear cA0 cA1 cB0 cB1 cS10 cS11 cS20 cS21 cS30 cS31 cS40 cS41
  obtain ⟨cA0, cA1⟩ := A.out.cells
  obtain ⟨cB0, cB1⟩ := B.out.cells
  obtain ⟨cS10, cS11⟩ := S1.out.cells
  obtain ⟨cS20, cS21⟩ := S2.out.cells
  obtain ⟨cS30, cS31⟩ := S3.out.cells
  obtain ⟨cS40, cS41⟩ := S4.out.cells
  go_wp2_with fail
  refine (HVq.out _).mono ?_
  rintro e w17 ⟨rfl, hb⟩
  have T17 := Lib.hid (T16.out.step hb)
  have A' := Lib.hid (A.out.step hb)
  clear A
  have A := Lib.hid A'.out
  clear A'
  have B' := Lib.hid (B.out.step hb)
  clear B
  have B := Lib.hid B'.out
  clear B'
  have S1' := Lib.hid (S1.out.step hb)
  clear S1
  have S1 := Lib.hid S1'.out
  clear S1'
  have S2' := Lib.hid (S2.out.step hb)
  clear S2
  have S2 := Lib.hid S2'.out
  clear S2'
  have S3' := Lib.hid (S3.out.step hb)
  clear S3
  have S3 := Lib.hid S3'.out
  clear S3'
  have S4' := Lib.hid (S4.out.step hb)
  clear S4
  have S4 := Lib.hid S4'.out
  clear S4'
  clear hb
  clear cA0 cA1 cB0 cB1 cS10 cS11 cS20 cS21 cS30 cS31 cS40 cS41
  obtain ⟨cA0, cA1⟩ := A.out.cells
  obtain ⟨cB0, cB1⟩ := B.out.cells
  obtain ⟨cS10, cS11⟩ := S1.out.cells
  obtain ⟨cS20, cS21⟩ := S2.out.cells
  obtain ⟨cS30, cS31⟩ := S3.out.cells
  obtain ⟨cS40, cS41⟩ := S4.out.cells
  go_wp2_with fail
  go_ret
  exact ⟨rfl, T17.out.bel⟩

theorem quot (X Y : Int) (hY : Y ≠ 0) : (Rat.divInt X Y).num * Y = X * (Rat.divInt X Y).den ∧ (Rat.divInt X Y).num.natAbs ≤ X.natAbs ∧ (Rat.divInt X Y).den ≤ Y.natAbs := by
  refine ⟨(Rat.divInt_eq_divInt_iff (by have := (Rat.divInt X Y).den_nz; omega) hY).1 (Rat.num_divInt_den _), ?_, ?_⟩
  · rw [div_numAbs X Y hY]; exact Nat.div_le_self _ _
  · rw [div_den X Y hY]; exact Nat.div_le_self _ _
theorem q_addN (p q : Rat) : Rat.divInt (p.num * q.den - q.num * p.den) (p.den * q.den) = p + -q := by
  have h := q_add p (-q)
  rw [Rat.neg_num, Rat.neg_den, Int.neg_mul, ← Int.sub_eq_add_neg] at h
  exact h
theorem ne_of_eq {x y : Int} (h : x = y) : (x != y) = false := by simp [h]
set_option maxHeartbeats 1000000 in
theorem law_RatioExact (an ad bn bd : Int) (w : World) (h1 : (Lit.int .i64 an).wf = true) (h2 : (Lit.int .i64 ad).wf = true) (h3 : (Lit.int .i64 bn).wf = true) (h4 : (Lit.int .i64 bd).wf = true) (ht : Tabs w) :
    Calls Tryd.prog 10 #[.agg #[.int .i64 an, .int .i64 ad], .agg #[.int .i64 bn, .int .i64 bd]] w fun e w' => e = .returned (.bool true) ∧ Below w.heap.size w w' := by
  have h1 : I64 an := by simp only [Lit.wf, Bool.and_eq_true, decide_eq_true_eq] at h1; exact h1
  have h2 : I64 ad := by simp only [Lit.wf, Bool.and_eq_true, decide_eq_true_eq] at h2; exact h2
  have h3 : I64 bn := by simp only [Lit.wf, Bool.and_eq_true, decide_eq_true_eq] at h3; exact h3
  have h4 : I64 bd := by simp only [Lit.wf, Bool.and_eq_true, decide_eq_true_eq] at h4; exact h4
  rcases hva : vld an ad with _ | _
  · exact exact_i1 an ad bn bd w ht (V_no h1 h2 hva)
  rcases hvb : vld bn bd with _ | _
  · exact exact_i2 an ad bn bd w ht (V_yes h1 h2 hva) (V_no h3 h4 hvb)
  obtain ⟨p, rfl, rfl, hp⟩ := vld_q hva
  obtain ⟨q, rfl, rfl, hq⟩ := vld_q hvb
  have hp1 := hp.1
  have hq1 := hq.1
  by_cases big : 1000 < max (max (max p.num (-p.num)) q.num) (-q.num)
  · exact exact_i3 _ _ _ _ w ht (V_ok hp) (V_ok hq) (by omega) (by omega) (by omega) (by omega) big
  by_cases big2 : (1000 : Int) < max (p.den : Int) q.den
  · exact exact_i4 _ _ _ _ w ht (V_ok hp) (V_ok hq) (by omega) (by omega) (by omega) (by omega) (by omega) big2
  have a1 : p.num.natAbs ≤ 1000 := by omega
  have a2 : ((p.den : Int)).natAbs ≤ 1000 := by omega
  have a3 : q.num.natAbs ≤ 1000 := by omega
  have a4 : ((q.den : Int)).natAbs ≤ 1000 := by omega
  have n1 : -1000000000000 ≤ p.num := by omega
  have n2 : p.num ≤ 1000000000000 := by omega
  have n3 : -1000000000000 ≤ q.num := by omega
  have n4 : q.num ≤ 1000000000000 := by omega
  have n5 : max (max (max p.num (-p.num)) q.num) (-q.num) ≤ 1000 := by omega
  have n6 : max (p.den : Int) q.den ≤ 1000 := by omega
  have pd := p.den_nz
  have qd := q.den_nz
  clear big big2 hp1 hq1
  have d0 : (p.den : Int) * q.den ≠ 0 := Int.mul_ne_zero (Int.natCast_ne_zero.2 pd) (Int.natCast_ne_zero.2 qd)
  have b1 := mul_bd a2 a4
  have b2 := mul_bd a1 a4
  have b3 := mul_bd a3 a2
  have b4 : (p.num * q.den + q.num * p.den).natAbs ≤ 2000000 := Nat.le_trans (Int.natAbs_add_le _ _) (Nat.add_le_add b2 b3)
  have b5 : (p.num * q.den - q.num * p.den).natAbs ≤ 2000000 := Nat.le_trans (Int.natAbs_sub_le _ _) (Nat.add_le_add b2 b3)
  have b6 := mul_bd a1 a3
  obtain ⟨s1, s2, s3⟩ := quot (p.num * q.den + q.num * p.den) (p.den * q.den) d0
  obtain ⟨t1, t2, t3⟩ := quot (p.num * q.den - q.num * p.den) (p.den * q.den) d0
  obtain ⟨u1, u2, u3⟩ := quot (p.num * q.num) (p.den * q.den) d0
  have em : Rat.divInt (p.num * q.num) (p.den * q.den) = p * q := by rw [q_mul, Rat.num_divInt_den]
  rw [q_add] at s1 s2 s3
  rw [q_addN] at t1 t2 t3
  rw [em] at u1 u2 u3
  have hs : Rok (p + q) := ⟨Nat.le_trans s2 (Nat.le_trans b4 (by decide)), Nat.le_trans s3 (Nat.le_trans b1 (by decide))⟩
  have hd : Rok (p + -q) := ⟨Nat.le_trans t2 (Nat.le_trans b5 (by decide)), Nat.le_trans t3 (Nat.le_trans b1 (by decide))⟩
  have hm : Rok (p * q) := ⟨Nat.le_trans u2 (Nat.le_trans b6 (by decide)), Nat.le_trans u3 (Nat.le_trans b1 (by decide))⟩
  have cA := fun w => Add_ok p q w hp hq
  have cS := fun w => Sub_ok p q w hp hq
  have cM := fun w => Mul_ok p q w hp hq
  rw [resN_ok hs, resD_ok hs, resE_ok hs] at cA
  rw [resN_ok hd, resD_ok hd, resE_ok hd] at cS
  rw [resN_ok hm, resD_ok hm, resE_ok hm] at cM
  have k1 := mul_bd (Nat.le_trans s2 b4) b1
  have k2 := mul_bd (y := ((p + q).den : Int)) b4 (by rw [Int.natAbs_natCast]; exact hs.2 : (((p + q).den : Int)).natAbs ≤ 1000000)
  have k3 := mul_bd (Nat.le_trans t2 b5) b1
  have k4 := mul_bd (y := ((p + -q).den : Int)) b5 (by rw [Int.natAbs_natCast]; exact hd.2 : (((p + -q).den : Int)).natAbs ≤ 1000000)
  have k5 := mul_bd (Nat.le_trans u2 b6) b1
  have k6 := mul_bd (y := ((p * q).den : Int)) b6 (by rw [Int.natAbs_natCast]; exact hm.2 : (((p * q).den : Int)).natAbs ≤ 1000000)
  by_cases hz : q.num = 0
  · exact exact_z _ _ _ _ _ _ _ _ _ _ w ht (V_ok hp) (V_ok hq) n1 n2 n3 n4 n5 n6 cA cS cM (fun w => Div_zero p q w hp hq hz) (V_ok hs) (V_ok hd) (V_ok hm)
      (wrap_abs b1 (by decide)) (wrap_abs b2 (by decide)) (wrap_abs b3 (by decide)) (wrap_abs b4 (by decide)) (wrap_abs b5 (by decide)) (wrap_abs b6 (by decide)) (wrap_abs k1 (by decide)) (wrap_abs k2 (by decide)) (wrap_abs k3 (by decide)) (wrap_abs k4 (by decide)) (wrap_abs k5 (by decide)) (wrap_abs k6 (by decide))
      (ne_of_eq s1) (ne_of_eq t1) (ne_of_eq u1) (by simp [hz])
  · have d1 : (p.den : Int) * q.num ≠ 0 := Int.mul_ne_zero (Int.natCast_ne_zero.2 pd) hz
    obtain ⟨v1, v2, v3⟩ := quot (p.num * q.den) (p.den * q.num) d1
    have ei : Rat.divInt (p.num * q.den) (p.den * q.num) = p * q⁻¹ := by rw [q_mul, q_inv]
    rw [ei] at v1 v2 v3
    have b7 := mul_bd a2 a3
    have hi : Rok (p * q⁻¹) := ⟨Nat.le_trans v2 (Nat.le_trans b2 (by decide)), Nat.le_trans v3 (Nat.le_trans b7 (by decide))⟩
    have cD := fun w => Div_ok p q w hp hq hz
    rw [resN_ok hi, resD_ok hi, resE_ok hi] at cD
    have k7 := mul_bd (Nat.le_trans v2 b2) b7
    have k8 := mul_bd (y := ((p * q⁻¹).den : Int)) b2 (by rw [Int.natAbs_natCast]; exact hi.2 : (((p * q⁻¹).den : Int)).natAbs ≤ 1000000)
    exact exact_n _ _ _ _ _ _ _ _ _ _ _ _ w ht (V_ok hp) (V_ok hq) n1 n2 n3 n4 n5 n6 cA cS cM cD (V_ok hs) (V_ok hd) (V_ok hm)
      (wrap_abs b1 (by decide)) (wrap_abs b2 (by decide)) (wrap_abs b3 (by decide)) (wrap_abs b4 (by decide)) (wrap_abs b5 (by decide)) (wrap_abs b6 (by decide)) (wrap_abs k1 (by decide)) (wrap_abs k2 (by decide)) (wrap_abs k3 (by decide)) (wrap_abs k4 (by decide)) (wrap_abs k5 (by decide)) (wrap_abs k6 (by decide)) (wrap_abs b7 (by decide)) (wrap_abs k7 (by decide)) (wrap_abs k8 (by decide))
      (ne_of_eq s1) (ne_of_eq t1) (ne_of_eq u1) (V_ok hi) (by simp [hz]) (by simp [v1])
end Go.Proofs.YtfcdoifijgbjeaaDoor
