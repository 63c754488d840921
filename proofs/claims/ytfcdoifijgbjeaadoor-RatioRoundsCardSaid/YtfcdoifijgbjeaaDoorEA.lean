/- Layer 01: Cmp. -/
import Derived.Test.YtfcdoifijgbjeaaDoorE9
namespace Go.Proofs.YtfcdoifijgbjeaaDoor
open Go.RowKit

set_option maxHeartbeats 1000000 in
theorem Cmp_bad1 (an ad bn bd : Int) (w : World)
    (hV : ∀ w, Calls Tryd.prog 15 #[.agg #[.int .i64 an, .int .i64 ad]] w fun e w' => e = .returned (.bool false) ∧ Below w.heap.size w w') :
    Calls Tryd.prog 16 #[.agg #[.int .i64 an, .int .i64 ad], .agg #[.int .i64 bn, .int .i64 bd]] w fun e w' => e = .returned (.int .i64 0) ∧ Below w.heap.size w w' := by
  have HV := Lib.hid hV
  clear hV
  obtain ⟨⟨c0, c1⟩, ⟨c2, c3⟩, hb, hz⟩ := box2_facts w an ad bn bd
  have HB := Lib.hid hb
  have HZ := Lib.hid hz
  clear hb hz
  unfold box2 at c0 c1 c2 c3 HB HZ
  have HC := Lib.hid (And.intro c0 c1)
  have HD := Lib.hid (And.intro c2 c3)
  go_enter Tryd.func16, Tryd.ntmps16
  go_wp2_with fail
  generalize (w.alloc (.cells #[.int .i64 an, .int .i64 ad] 25)).alloc (.cells #[.int .i64 bn, .int .i64 bd] 25) = w0 at *
  refine (HV.out _).mono ?_
  rintro e w1 ⟨rfl, hb1⟩
  have hz := HZ.out
  have HB1 := Lib.hid (HB.out.trans (hb1.mono (by omega)))
  have hz1 : w.heap.size + 2 ≤ w1.heap.size := by have := hb1.size; omega
  have HC1 := Lib.hid (cells2_below HC.out hb1 (by omega))
  have HD1 := Lib.hid (cells2_below HD.out hb1 (by omega))
  clear hb1 c0 c1 c2 c3 hz
  go_wp2_with fail
  go_ret
  exact ⟨rfl, HB1.out⟩
set_option maxHeartbeats 1000000 in
theorem Cmp_bad2 (an ad bn bd : Int) (w : World)
    (hV : ∀ w, Calls Tryd.prog 15 #[.agg #[.int .i64 an, .int .i64 ad]] w fun e w' => e = .returned (.bool true) ∧ Below w.heap.size w w')
    (hV2 : ∀ w, Calls Tryd.prog 15 #[.agg #[.int .i64 bn, .int .i64 bd]] w fun e w' => e = .returned (.bool false) ∧ Below w.heap.size w w') :
    Calls Tryd.prog 16 #[.agg #[.int .i64 an, .int .i64 ad], .agg #[.int .i64 bn, .int .i64 bd]] w fun e w' => e = .returned (.int .i64 0) ∧ Below w.heap.size w w' := by
  have HV := Lib.hid hV
  have HV2 := Lib.hid hV2
  clear hV hV2
  obtain ⟨⟨c0, c1⟩, ⟨c2, c3⟩, hb, hz⟩ := box2_facts w an ad bn bd
  have HB := Lib.hid hb
  have HZ := Lib.hid hz
  clear hb hz
  unfold box2 at c0 c1 c2 c3 HB HZ
  have HC := Lib.hid (And.intro c0 c1)
  have HD := Lib.hid (And.intro c2 c3)
  go_enter Tryd.func16, Tryd.ntmps16
  go_wp2_with fail
  generalize (w.alloc (.cells #[.int .i64 an, .int .i64 ad] 25)).alloc (.cells #[.int .i64 bn, .int .i64 bd] 25) = w0 at *
  refine (HV.out _).mono ?_
  rintro e w1 ⟨rfl, hb1⟩
  have hz := HZ.out
  have HB1 := Lib.hid (HB.out.trans (hb1.mono (by omega)))
  have hz1 : w.heap.size + 2 ≤ w1.heap.size := by have := hb1.size; omega
  have HC1 := Lib.hid (cells2_below HC.out hb1 (by omega))
  have HD1 := Lib.hid (cells2_below HD.out hb1 (by omega))
  clear hb1 c0 c1 c2 c3 hz
  obtain ⟨c2, c3⟩ := HD1.out
  go_wp2_with fail
  refine (HV2.out _).mono ?_
  rintro e w2 ⟨rfl, hb2⟩
  have HB2 := Lib.hid (HB1.out.trans (hb2.mono (by omega)))
  clear c2 c3
  obtain ⟨c0, c1⟩ := cells2_below HC1.out hb2 (by omega)
  obtain ⟨c2, c3⟩ := cells2_below HD1.out hb2 (by omega)
  clear hb2 hz1
  go_wp2_with fail
  go_ret
  exact ⟨rfl, HB2.out⟩
set_option maxHeartbeats 1000000 in
theorem Cmp_lt (an ad bn bd : Int) (w : World)
    (hV : ∀ w, Calls Tryd.prog 15 #[.agg #[.int .i64 an, .int .i64 ad]] w fun e w' => e = .returned (.bool true) ∧ Below w.heap.size w w')
    (hV2 : ∀ w, Calls Tryd.prog 15 #[.agg #[.int .i64 bn, .int .i64 bd]] w fun e w' => e = .returned (.bool true) ∧ Below w.heap.size w w')
    (m1 : wrap64 (an * bd) = an * bd) (m2 : wrap64 (bn * ad) = bn * ad) (m3 : wrap64 (an * bd - bn * ad) = an * bd - bn * ad) (h : an * bd - bn * ad < 0) :
    Calls Tryd.prog 16 #[.agg #[.int .i64 an, .int .i64 ad], .agg #[.int .i64 bn, .int .i64 bd]] w fun e w' => e = .returned (.int .i64 (-1)) ∧ Below w.heap.size w w' := by
  have HV := Lib.hid hV
  have HV2 := Lib.hid hV2
  clear hV hV2
  have h1 : decide (an * bd - bn * ad < 0) = true := by simpa using h
  obtain ⟨⟨c0, c1⟩, ⟨c2, c3⟩, hb, hz⟩ := box2_facts w an ad bn bd
  have HB := Lib.hid hb
  have HZ := Lib.hid hz
  clear hb hz
  unfold box2 at c0 c1 c2 c3 HB HZ
  have HC := Lib.hid (And.intro c0 c1)
  have HD := Lib.hid (And.intro c2 c3)
  go_enter Tryd.func16, Tryd.ntmps16
  go_wp2_with fail
  generalize (w.alloc (.cells #[.int .i64 an, .int .i64 ad] 25)).alloc (.cells #[.int .i64 bn, .int .i64 bd] 25) = w0 at *
  refine (HV.out _).mono ?_
  rintro e w1 ⟨rfl, hb1⟩
  have hz := HZ.out
  have HB1 := Lib.hid (HB.out.trans (hb1.mono (by omega)))
  have hz1 : w.heap.size + 2 ≤ w1.heap.size := by have := hb1.size; omega
  have HC1 := Lib.hid (cells2_below HC.out hb1 (by omega))
  have HD1 := Lib.hid (cells2_below HD.out hb1 (by omega))
  clear hb1 c0 c1 c2 c3 hz
  obtain ⟨c2, c3⟩ := HD1.out
  go_wp2_with fail
  refine (HV2.out _).mono ?_
  rintro e w2 ⟨rfl, hb2⟩
  have HB2 := Lib.hid (HB1.out.trans (hb2.mono (by omega)))
  clear c2 c3
  obtain ⟨c0, c1⟩ := cells2_below HC1.out hb2 (by omega)
  obtain ⟨c2, c3⟩ := cells2_below HD1.out hb2 (by omega)
  clear hb2 hz1
  go_wp2_with fail
  go_ret
  exact ⟨rfl, HB2.out⟩
set_option maxHeartbeats 1000000 in
theorem Cmp_gt (an ad bn bd : Int) (w : World)
    (hV : ∀ w, Calls Tryd.prog 15 #[.agg #[.int .i64 an, .int .i64 ad]] w fun e w' => e = .returned (.bool true) ∧ Below w.heap.size w w')
    (hV2 : ∀ w, Calls Tryd.prog 15 #[.agg #[.int .i64 bn, .int .i64 bd]] w fun e w' => e = .returned (.bool true) ∧ Below w.heap.size w w')
    (m1 : wrap64 (an * bd) = an * bd) (m2 : wrap64 (bn * ad) = bn * ad) (m3 : wrap64 (an * bd - bn * ad) = an * bd - bn * ad) (h : 0 < an * bd - bn * ad) :
    Calls Tryd.prog 16 #[.agg #[.int .i64 an, .int .i64 ad], .agg #[.int .i64 bn, .int .i64 bd]] w fun e w' => e = .returned (.int .i64 1) ∧ Below w.heap.size w w' := by
  have HV := Lib.hid hV
  have HV2 := Lib.hid hV2
  clear hV hV2
  have h1 : decide (an * bd - bn * ad < 0) = false := by simp; omega
  have h2 : decide (0 < an * bd - bn * ad) = true := by simpa using h
  obtain ⟨⟨c0, c1⟩, ⟨c2, c3⟩, hb, hz⟩ := box2_facts w an ad bn bd
  have HB := Lib.hid hb
  have HZ := Lib.hid hz
  clear hb hz
  unfold box2 at c0 c1 c2 c3 HB HZ
  have HC := Lib.hid (And.intro c0 c1)
  have HD := Lib.hid (And.intro c2 c3)
  go_enter Tryd.func16, Tryd.ntmps16
  go_wp2_with fail
  generalize (w.alloc (.cells #[.int .i64 an, .int .i64 ad] 25)).alloc (.cells #[.int .i64 bn, .int .i64 bd] 25) = w0 at *
  refine (HV.out _).mono ?_
  rintro e w1 ⟨rfl, hb1⟩
  have hz := HZ.out
  have HB1 := Lib.hid (HB.out.trans (hb1.mono (by omega)))
  have hz1 : w.heap.size + 2 ≤ w1.heap.size := by have := hb1.size; omega
  have HC1 := Lib.hid (cells2_below HC.out hb1 (by omega))
  have HD1 := Lib.hid (cells2_below HD.out hb1 (by omega))
  clear hb1 c0 c1 c2 c3 hz
  obtain ⟨c2, c3⟩ := HD1.out
  go_wp2_with fail
  refine (HV2.out _).mono ?_
  rintro e w2 ⟨rfl, hb2⟩
  have HB2 := Lib.hid (HB1.out.trans (hb2.mono (by omega)))
  clear c2 c3
  obtain ⟨c0, c1⟩ := cells2_below HC1.out hb2 (by omega)
  obtain ⟨c2, c3⟩ := cells2_below HD1.out hb2 (by omega)
  clear hb2 hz1
  go_wp2_with fail
  go_ret
  exact ⟨rfl, HB2.out⟩
set_option maxHeartbeats 1000000 in
theorem Cmp_eq (an ad bn bd : Int) (w : World)
    (hV : ∀ w, Calls Tryd.prog 15 #[.agg #[.int .i64 an, .int .i64 ad]] w fun e w' => e = .returned (.bool true) ∧ Below w.heap.size w w')
    (hV2 : ∀ w, Calls Tryd.prog 15 #[.agg #[.int .i64 bn, .int .i64 bd]] w fun e w' => e = .returned (.bool true) ∧ Below w.heap.size w w')
    (m1 : wrap64 (an * bd) = an * bd) (m2 : wrap64 (bn * ad) = bn * ad) (m3 : wrap64 (an * bd - bn * ad) = an * bd - bn * ad) (h : an * bd - bn * ad = 0) :
    Calls Tryd.prog 16 #[.agg #[.int .i64 an, .int .i64 ad], .agg #[.int .i64 bn, .int .i64 bd]] w fun e w' => e = .returned (.int .i64 0) ∧ Below w.heap.size w w' := by
  have HV := Lib.hid hV
  have HV2 := Lib.hid hV2
  clear hV hV2
  have h1 : decide (an * bd - bn * ad < 0) = false := by simp; omega
  have h2 : decide (0 < an * bd - bn * ad) = false := by simp; omega
  have h3 : ¬ an * bd - bn * ad < 0 := by omega
  have h4 : ¬ 0 < an * bd - bn * ad := by omega
  clear h
  obtain ⟨⟨c0, c1⟩, ⟨c2, c3⟩, hb, hz⟩ := box2_facts w an ad bn bd
  have HB := Lib.hid hb
  have HZ := Lib.hid hz
  clear hb hz
  unfold box2 at c0 c1 c2 c3 HB HZ
  have HC := Lib.hid (And.intro c0 c1)
  have HD := Lib.hid (And.intro c2 c3)
  go_enter Tryd.func16, Tryd.ntmps16
  go_wp2_with fail
  generalize (w.alloc (.cells #[.int .i64 an, .int .i64 ad] 25)).alloc (.cells #[.int .i64 bn, .int .i64 bd] 25) = w0 at *
  refine (HV.out _).mono ?_
  rintro e w1 ⟨rfl, hb1⟩
  have hz := HZ.out
  have HB1 := Lib.hid (HB.out.trans (hb1.mono (by omega)))
  have hz1 : w.heap.size + 2 ≤ w1.heap.size := by have := hb1.size; omega
  have HC1 := Lib.hid (cells2_below HC.out hb1 (by omega))
  have HD1 := Lib.hid (cells2_below HD.out hb1 (by omega))
  clear hb1 c0 c1 c2 c3 hz
  obtain ⟨c2, c3⟩ := HD1.out
  go_wp2_with fail
  refine (HV2.out _).mono ?_
  rintro e w2 ⟨rfl, hb2⟩
  have HB2 := Lib.hid (HB1.out.trans (hb2.mono (by omega)))
  clear c2 c3
  obtain ⟨c0, c1⟩ := cells2_below HC1.out hb2 (by omega)
  obtain ⟨c2, c3⟩ := cells2_below HD1.out hb2 (by omega)
  clear hb2 hz1
  go_wp2_with fail
  go_ret
  exact ⟨rfl, HB2.out⟩

theorem Cmp_bad (an ad bn bd : Int) (w : World) (ha : I64 an) (ha' : I64 ad) (hb : I64 bn) (hb' : I64 bd) (h : ¬ (vld an ad = true ∧ vld bn bd = true)) :
    Calls Tryd.prog 16 #[.agg #[.int .i64 an, .int .i64 ad], .agg #[.int .i64 bn, .int .i64 bd]] w fun e' w' => e' = .returned (.int .i64 0) ∧ Below w.heap.size w w' := by
  rcases h1 : vld an ad with _ | _
  · exact Cmp_bad1 an ad bn bd w (V_no ha ha' h1)
  · rcases h2 : vld bn bd with _ | _
    · exact Cmp_bad2 an ad bn bd w (V_yes ha ha' h1) (V_no hb hb' h2)
    · exact absurd ⟨h1, h2⟩ h
/-- Cmp at two valid ratios. -/
theorem Cmp_ok (p q : Rat) (w : World) (hp : Rok p) (hq : Rok q) :
    Calls Tryd.prog 16 #[.agg #[.int .i64 p.num, .int .i64 p.den], .agg #[.int .i64 q.num, .int .i64 q.den]] w fun e' w' => e' = .returned (.int .i64 (sg3 (p.num * q.den - q.num * p.den))) ∧ Below w.heap.size w w' := by
  have b1 := mul_bd (x := p.num) (y := (q.den : Int)) hp.1 (by have := hq.2; omega : ((q.den : Int)).natAbs ≤ 1000000)
  have b2 := mul_bd (x := q.num) (y := (p.den : Int)) hq.1 (by have := hp.2; omega : ((p.den : Int)).natAbs ≤ 1000000)
  have m3 : wrap64 (p.num * q.den - q.num * p.den) = p.num * q.den - q.num * p.den := by
    generalize p.num * (q.den : Int) = X at *
    generalize q.num * (p.den : Int) = Y at *
    unfold wrap64; omega
  have m1 := wrap_abs b1 (by omega)
  have m2 := wrap_abs b2 (by omega)
  rcases (by omega : p.num * q.den - q.num * p.den < 0 ∨ 0 < p.num * q.den - q.num * p.den ∨ p.num * q.den - q.num * p.den = 0) with h | h | h
  · rw [sg3_neg h]; exact Cmp_lt _ _ _ _ w (V_ok hp) (V_ok hq) m1 m2 m3 h
  · rw [sg3_pos h]; exact Cmp_gt _ _ _ _ w (V_ok hp) (V_ok hq) m1 m2 m3 h
  · rw [sg3_zero h]; exact Cmp_eq _ _ _ _ w (V_ok hp) (V_ok hq) m1 m2 m3 h
end Go.Proofs.YtfcdoifijgbjeaaDoor
