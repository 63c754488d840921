/- Layer 01: Add, Sub, Mul, Div. -/
import Derived.Test.YtfcdoifijgbjeaaDoorE5
namespace Go.Proofs.YtfcdoifijgbjeaaDoor
open Go.RowKit

theorem Valid_is (n d : Int) (b : Bool) (w : World) (hn1 : -9223372036854775808 ≤ n) (hn2 : n ≤ 9223372036854775807) (hd1 : -9223372036854775808 ≤ d) (hd2 : d ≤ 9223372036854775807) (h : vld n d = b) :
    Calls Tryd.prog 15 #[.agg #[.int .i64 n, .int .i64 d]] w fun e w' => e = .returned (.bool b) ∧ Below w.heap.size w w' := h ▸ Valid_any n d w hn1 hn2 hd1 hd2

/-- The world of a function with two ratios by value and one as its result. -/
def box3 (w : World) (an ad bn bd : Int) : World := ((w.alloc (.cells #[.int .i64 an, .int .i64 ad] 25)).alloc (.cells #[.int .i64 bn, .int .i64 bd] 25)).alloc (.cells #[.int .i64 0, .int .i64 0] 25)
theorem box3_facts (w : World) (an ad bn bd : Int) :
    ((box3 w an ad bn bd).cell? ⟨w.heap.size, 0, none⟩ = some (.int .i64 an) ∧ (box3 w an ad bn bd).cell? ⟨w.heap.size, 1, none⟩ = some (.int .i64 ad)) ∧
    ((box3 w an ad bn bd).cell? ⟨w.heap.size + 1, 0, none⟩ = some (.int .i64 bn) ∧ (box3 w an ad bn bd).cell? ⟨w.heap.size + 1, 1, none⟩ = some (.int .i64 bd)) ∧
    (box3 w an ad bn bd).there (w.heap.size + 2) 0 2 ∧ (box3 w an ad bn bd).rangeAt (w.heap.size + 2) 0 [.int .i64 0, .int .i64 0] ∧
    Below w.heap.size w (box3 w an ad bn bd) ∧ (box3 w an ad bn bd).heap.size = w.heap.size + 3 := by
  have z1 : (w.alloc (.cells #[.int .i64 an, .int .i64 ad] 25)).heap.size = w.heap.size + 1 := by simp
  have z2 : ((w.alloc (.cells #[.int .i64 an, .int .i64 ad] 25)).alloc (.cells #[.int .i64 bn, .int .i64 bd] 25)).heap.size = w.heap.size + 2 := by simp
  have z3 : (box3 w an ad bn bd).heap.size = w.heap.size + 3 := by unfold box3; simp
  have a1 := (Below.refl w.heap.size w).alloc (Nat.le_refl _) (.cells #[.int .i64 an, .int .i64 ad] 25)
  have A0 : (w.alloc (.cells #[.int .i64 an, .int .i64 ad] 25)).cell? ⟨w.heap.size, 0, none⟩ = some (.int .i64 an) ∧ (w.alloc (.cells #[.int .i64 an, .int .i64 ad] 25)).cell? ⟨w.heap.size, 1, none⟩ = some (.int .i64 ad) := ⟨new0 rfl rfl, new0 rfl rfl⟩
  unfold box3 at z3 ⊢
  generalize w.alloc (.cells #[.int .i64 an, .int .i64 ad] 25) = w1 at *
  have B0 : (w1.alloc (.cells #[.int .i64 bn, .int .i64 bd] 25)).cell? ⟨w1.heap.size, 0, none⟩ = some (.int .i64 bn) ∧ (w1.alloc (.cells #[.int .i64 bn, .int .i64 bd] 25)).cell? ⟨w1.heap.size, 1, none⟩ = some (.int .i64 bd) := ⟨new0 rfl rfl, new0 rfl rfl⟩
  have a2 := a1.alloc (by omega) (.cells #[.int .i64 bn, .int .i64 bd] 25)
  have A1 := cells2_below (w' := w1.alloc (.cells #[.int .i64 bn, .int .i64 bd] 25)) A0 ((Below.refl _ _).alloc (Nat.le_refl _) _) (by omega)
  rw [z1] at B0
  generalize w1.alloc (.cells #[.int .i64 bn, .int .i64 bd] 25) = w2 at *
  have t := there_new w2 #[.int .i64 0, .int .i64 0] 25 2 (by simp)
  have r := rangeAt_new w2 #[.int .i64 0, .int .i64 0] 25
  rw [z2] at t r
  exact ⟨cells2_below A1 ((Below.refl _ _).alloc (Nat.le_refl _) _) (by omega), cells2_below B0 ((Below.refl _ _).alloc (Nat.le_refl _) _) (by omega), t, r, a2.alloc (by omega) _, z3⟩

set_option maxHeartbeats 1000000 in
theorem on_bad1 (an ad bn bd : Int) (fv : Value) (w : World)
    (hV : ∀ w, Calls Tryd.prog 15 #[.agg #[.int .i64 an, .int .i64 ad]] w fun e w' => e = .returned (.bool false) ∧ Below w.heap.size w w') :
    Calls Tryd.prog 40 #[.agg #[.int .i64 an, .int .i64 ad], .agg #[.int .i64 bn, .int .i64 bd], fv] w fun e' w' => e' = .returned (.tuple #[.agg #[.int .i64 0, .int .i64 0], .int .i64 1]) ∧ Below w.heap.size w w' := by
  have HV := Lib.hid hV
  clear hV
  obtain ⟨⟨c0, c1⟩, ⟨c2, c3⟩, t, r, hb, hz⟩ := box3_facts w an ad bn bd
  have HT := Lib.hid t
  have HR := Lib.hid r
  have HB := Lib.hid hb
  have HZ := Lib.hid hz
  clear t r hb hz
  unfold box3 at c0 c1 c2 c3 HT HR HB HZ
  go_enter Tryd.func40, Tryd.ntmps40
  go_wp2_with fail
  generalize ((w.alloc (.cells #[.int .i64 an, .int .i64 ad] 25)).alloc (.cells #[.int .i64 bn, .int .i64 bd] 25)).alloc (.cells #[.int .i64 0, .int .i64 0] 25) = w0 at *
  refine (HV.out _).mono ?_
  rintro e w1 ⟨rfl, hb1⟩
  have hz := HZ.out
  have t1 := there_below HT.out hb1 (by omega)
  have r1 := rangeAt_below HR.out hb1 (by omega)
  have HB1 := Lib.hid (HB.out.trans (hb1.mono (by omega)))
  clear hb1 c0 c1 c2 c3 hz
  have k0 := (t1 0 (by omega)).2
  have k1 := (t1 1 (by omega)).2
  have d0 := there_cell t1 0 (by omega)
  have d1 := there_cell t1 1 (by omega)
  rw [Nat.zero_add] at k0 k1 d0 d1
  have HR6 := Lib.hid (rangeAt_set (rangeAt_set r1 0 (.int .i64 0)) 1 (.int .i64 0))
  have HB6 := Lib.hid ((HB1.out.setCell (p := ⟨w.heap.size + 2, 0, none⟩) (by simp) (.int .i64 0)).setCell (p := ⟨w.heap.size + 2, 1, none⟩) (by simp) (.int .i64 0))
  clear t1 r1
  go_wp2_with fail
  exact bodyPost_ret (results_cell_tmp_mid Tryd.results40 _ _ (w.heap.size + 2) 0 [.int .i64 0, .int .i64 0] _ rfl HR6.out Tryd.underlying25 rfl (by kernel_rfl)) rfl ⟨rfl, HB6.out⟩
set_option maxHeartbeats 1000000 in
theorem on_bad2 (an ad bn bd : Int) (fv : Value) (w : World)
    (hV : ∀ w, Calls Tryd.prog 15 #[.agg #[.int .i64 an, .int .i64 ad]] w fun e w' => e = .returned (.bool true) ∧ Below w.heap.size w w')
    (hV2 : ∀ w, Calls Tryd.prog 15 #[.agg #[.int .i64 bn, .int .i64 bd]] w fun e w' => e = .returned (.bool false) ∧ Below w.heap.size w w') :
    Calls Tryd.prog 40 #[.agg #[.int .i64 an, .int .i64 ad], .agg #[.int .i64 bn, .int .i64 bd], fv] w fun e' w' => e' = .returned (.tuple #[.agg #[.int .i64 0, .int .i64 0], .int .i64 1]) ∧ Below w.heap.size w w' := by
  have HV := Lib.hid hV
  have HV2 := Lib.hid hV2
  clear hV hV2
  obtain ⟨⟨c0, c1⟩, ⟨c2, c3⟩, t, r, hb, hz⟩ := box3_facts w an ad bn bd
  have HT := Lib.hid t
  have HR := Lib.hid r
  have HB := Lib.hid hb
  have HZ := Lib.hid hz
  clear t r hb hz
  unfold box3 at c0 c1 c2 c3 HT HR HB HZ
  go_enter Tryd.func40, Tryd.ntmps40
  go_wp2_with fail
  generalize ((w.alloc (.cells #[.int .i64 an, .int .i64 ad] 25)).alloc (.cells #[.int .i64 bn, .int .i64 bd] 25)).alloc (.cells #[.int .i64 0, .int .i64 0] 25) = w0 at *
  refine (HV.out _).mono ?_
  rintro e w1 ⟨rfl, hb1⟩
  have hz := HZ.out
  have HT1 := Lib.hid (there_below HT.out hb1 (by omega))
  have HR1 := Lib.hid (rangeAt_below HR.out hb1 (by omega))
  have HB1 := Lib.hid (HB.out.trans (hb1.mono (by omega)))
  have hz1 : w.heap.size + 3 ≤ w1.heap.size := by have := hb1.size; omega
  obtain ⟨e2, e3⟩ := cells2_below ⟨c2, c3⟩ hb1 (by omega)
  have HB01 := Lib.hid hb1
  clear hb1 c0 c1 c2 c3 hz
  go_wp2_with fail
  refine (HV2.out _).mono ?_
  rintro e w2 ⟨rfl, hb2⟩
  have t2 := there_below HT1.out hb2 (by omega)
  have r2 := rangeAt_below HR1.out hb2 (by omega)
  have HB2 := Lib.hid (HB1.out.trans (hb2.mono (by omega)))
  have hz2 : w.heap.size + 3 ≤ w2.heap.size := by have := hb2.size; omega
  clear hb2 e2 e3 hz1
  have k0 := (t2 0 (by omega)).2
  have k1 := (t2 1 (by omega)).2
  have d0 := there_cell t2 0 (by omega)
  have d1 := there_cell t2 1 (by omega)
  rw [Nat.zero_add] at k0 k1 d0 d1
  have HR6 := Lib.hid (rangeAt_set (rangeAt_set r2 0 (.int .i64 0)) 1 (.int .i64 0))
  have HB6 := Lib.hid ((HB2.out.setCell (p := ⟨w.heap.size + 2, 0, none⟩) (by simp) (.int .i64 0)).setCell (p := ⟨w.heap.size + 2, 1, none⟩) (by simp) (.int .i64 0))
  clear t2 r2 hz2
  go_wp2_with fail
  exact bodyPost_ret (results_cell_tmp_mid Tryd.results40 _ _ (w.heap.size + 2) 0 [.int .i64 0, .int .i64 0] _ rfl HR6.out Tryd.underlying25 rfl (by kernel_rfl)) rfl ⟨rfl, HB6.out⟩
set_option maxHeartbeats 1000000 in
theorem on_Add (an ad bn bd : Int) (x y e : Int) (p0 p1 : Value) (w : World)
    (hV : ∀ w, Calls Tryd.prog 15 #[.agg #[.int .i64 an, .int .i64 ad]] w fun e w' => e = .returned (.bool true) ∧ Below w.heap.size w w')
    (hV2 : ∀ w, Calls Tryd.prog 15 #[.agg #[.int .i64 bn, .int .i64 bd]] w fun e w' => e = .returned (.bool true) ∧ Below w.heap.size w w')
    (hF : ∀ w', Below w.heap.size w w' → Calls Tryd.prog 41 #[p0, p1] w' fun e' w'' => e' = .returned (.tuple #[.agg #[.int .i64 x, .int .i64 y], .int .i64 e]) ∧ Below w'.heap.size w' w'') :
    Calls Tryd.prog 40 #[.agg #[.int .i64 an, .int .i64 ad], .agg #[.int .i64 bn, .int .i64 bd], .func (.func 41) #[] #[p0, p1]] w fun e' w' => e' = .returned (.tuple #[.agg #[.int .i64 x, .int .i64 y], .int .i64 e]) ∧ Below w.heap.size w w' := by
  have HV := Lib.hid hV
  have HV2 := Lib.hid hV2
  have HF := Lib.hid hF
  clear hV hV2 hF
  obtain ⟨⟨c0, c1⟩, ⟨c2, c3⟩, t, r, hb, hz⟩ := box3_facts w an ad bn bd
  have HT := Lib.hid t
  have HR := Lib.hid r
  have HB := Lib.hid hb
  have HZ := Lib.hid hz
  clear t r hb hz
  unfold box3 at c0 c1 c2 c3 HT HR HB HZ
  go_enter Tryd.func40, Tryd.ntmps40
  go_wp2_with fail
  generalize ((w.alloc (.cells #[.int .i64 an, .int .i64 ad] 25)).alloc (.cells #[.int .i64 bn, .int .i64 bd] 25)).alloc (.cells #[.int .i64 0, .int .i64 0] 25) = w0 at *
  refine (HV.out _).mono ?_
  rintro e' w1 ⟨rfl, hb1⟩
  have hz := HZ.out
  have HT1 := Lib.hid (there_below HT.out hb1 (by omega))
  have HR1 := Lib.hid (rangeAt_below HR.out hb1 (by omega))
  have HB1 := Lib.hid (HB.out.trans (hb1.mono (by omega)))
  have hz1 : w.heap.size + 3 ≤ w1.heap.size := by have := hb1.size; omega
  obtain ⟨e2, e3⟩ := cells2_below ⟨c2, c3⟩ hb1 (by omega)
  have HB01 := Lib.hid hb1
  clear hb1 c0 c1 c2 c3 hz
  go_wp2_with fail
  refine (HV2.out _).mono ?_
  rintro e' w2 ⟨rfl, hb2⟩
  have t2 := there_below HT1.out hb2 (by omega)
  have r2 := rangeAt_below HR1.out hb2 (by omega)
  have HB2 := Lib.hid (HB1.out.trans (hb2.mono (by omega)))
  have hz2 : w.heap.size + 3 ≤ w2.heap.size := by have := hb2.size; omega
  clear hb2 e2 e3 hz1
  go_wp2_with fail
  refine (HF.out _ HB2.out).mono ?_
  rintro e' w3 ⟨rfl, hb3⟩
  have t3 := there_below t2 hb3 (by omega)
  have hb4 := HB2.out.trans (hb3.mono (by omega))
  clear hb3 t2 r2 hz2
  have k0 := (t3 0 (by omega)).2
  have k1 := (t3 1 (by omega)).2
  have d0 := there_cell t3 0 (by omega)
  have d1 := there_cell t3 1 (by omega)
  rw [Nat.zero_add] at k0 k1 d0 d1
  have r3 : w3.rangeAt (w.heap.size + 2) 0 [valAt w3 ⟨w.heap.size + 2, 0, none⟩, valAt w3 ⟨w.heap.size + 2, 1, none⟩] := fun j u hj => by
    match j, hj with
    | 0, hj => simp at hj; subst hj; simpa using d0
    | 1, hj => simp at hj; subst hj; simpa using d1
  have HR6 := Lib.hid (rangeAt_set (rangeAt_set r3 0 (.int .i64 x)) 1 (.int .i64 y))
  have HB6 := Lib.hid ((hb4.setCell (p := ⟨w.heap.size + 2, 0, none⟩) (by simp) (.int .i64 x)).setCell (p := ⟨w.heap.size + 2, 1, none⟩) (by simp) (.int .i64 y))
  clear t3 r3 hb4
  go_wp2_with fail
  exact bodyPost_ret (results_cell_tmp_mid Tryd.results40 _ _ (w.heap.size + 2) 0 [.int .i64 x, .int .i64 y] _ rfl HR6.out Tryd.underlying25 rfl (by kernel_rfl)) rfl ⟨rfl, HB6.out⟩
set_option maxHeartbeats 1000000 in
theorem on_Mul (an ad bn bd : Int) (x y e : Int) (p0 p1 : Value) (w : World)
    (hV : ∀ w, Calls Tryd.prog 15 #[.agg #[.int .i64 an, .int .i64 ad]] w fun e w' => e = .returned (.bool true) ∧ Below w.heap.size w w')
    (hV2 : ∀ w, Calls Tryd.prog 15 #[.agg #[.int .i64 bn, .int .i64 bd]] w fun e w' => e = .returned (.bool true) ∧ Below w.heap.size w w')
    (hF : ∀ w', Below w.heap.size w w' → Calls Tryd.prog 42 #[p0, p1] w' fun e' w'' => e' = .returned (.tuple #[.agg #[.int .i64 x, .int .i64 y], .int .i64 e]) ∧ Below w'.heap.size w' w'') :
    Calls Tryd.prog 40 #[.agg #[.int .i64 an, .int .i64 ad], .agg #[.int .i64 bn, .int .i64 bd], .func (.func 42) #[] #[p0, p1]] w fun e' w' => e' = .returned (.tuple #[.agg #[.int .i64 x, .int .i64 y], .int .i64 e]) ∧ Below w.heap.size w w' := by
  have HV := Lib.hid hV
  have HV2 := Lib.hid hV2
  have HF := Lib.hid hF
  clear hV hV2 hF
  obtain ⟨⟨c0, c1⟩, ⟨c2, c3⟩, t, r, hb, hz⟩ := box3_facts w an ad bn bd
  have HT := Lib.hid t
  have HR := Lib.hid r
  have HB := Lib.hid hb
  have HZ := Lib.hid hz
  clear t r hb hz
  unfold box3 at c0 c1 c2 c3 HT HR HB HZ
  go_enter Tryd.func40, Tryd.ntmps40
  go_wp2_with fail
  generalize ((w.alloc (.cells #[.int .i64 an, .int .i64 ad] 25)).alloc (.cells #[.int .i64 bn, .int .i64 bd] 25)).alloc (.cells #[.int .i64 0, .int .i64 0] 25) = w0 at *
  refine (HV.out _).mono ?_
  rintro e' w1 ⟨rfl, hb1⟩
  have hz := HZ.out
  have HT1 := Lib.hid (there_below HT.out hb1 (by omega))
  have HR1 := Lib.hid (rangeAt_below HR.out hb1 (by omega))
  have HB1 := Lib.hid (HB.out.trans (hb1.mono (by omega)))
  have hz1 : w.heap.size + 3 ≤ w1.heap.size := by have := hb1.size; omega
  obtain ⟨e2, e3⟩ := cells2_below ⟨c2, c3⟩ hb1 (by omega)
  have HB01 := Lib.hid hb1
  clear hb1 c0 c1 c2 c3 hz
  go_wp2_with fail
  refine (HV2.out _).mono ?_
  rintro e' w2 ⟨rfl, hb2⟩
  have t2 := there_below HT1.out hb2 (by omega)
  have r2 := rangeAt_below HR1.out hb2 (by omega)
  have HB2 := Lib.hid (HB1.out.trans (hb2.mono (by omega)))
  have hz2 : w.heap.size + 3 ≤ w2.heap.size := by have := hb2.size; omega
  clear hb2 e2 e3 hz1
  go_wp2_with fail
  refine (HF.out _ HB2.out).mono ?_
  rintro e' w3 ⟨rfl, hb3⟩
  have t3 := there_below t2 hb3 (by omega)
  have hb4 := HB2.out.trans (hb3.mono (by omega))
  clear hb3 t2 r2 hz2
  have k0 := (t3 0 (by omega)).2
  have k1 := (t3 1 (by omega)).2
  have d0 := there_cell t3 0 (by omega)
  have d1 := there_cell t3 1 (by omega)
  rw [Nat.zero_add] at k0 k1 d0 d1
  have r3 : w3.rangeAt (w.heap.size + 2) 0 [valAt w3 ⟨w.heap.size + 2, 0, none⟩, valAt w3 ⟨w.heap.size + 2, 1, none⟩] := fun j u hj => by
    match j, hj with
    | 0, hj => simp at hj; subst hj; simpa using d0
    | 1, hj => simp at hj; subst hj; simpa using d1
  have HR6 := Lib.hid (rangeAt_set (rangeAt_set r3 0 (.int .i64 x)) 1 (.int .i64 y))
  have HB6 := Lib.hid ((hb4.setCell (p := ⟨w.heap.size + 2, 0, none⟩) (by simp) (.int .i64 x)).setCell (p := ⟨w.heap.size + 2, 1, none⟩) (by simp) (.int .i64 y))
  clear t3 r3 hb4
  go_wp2_with fail
  exact bodyPost_ret (results_cell_tmp_mid Tryd.results40 _ _ (w.heap.size + 2) 0 [.int .i64 x, .int .i64 y] _ rfl HR6.out Tryd.underlying25 rfl (by kernel_rfl)) rfl ⟨rfl, HB6.out⟩
set_option maxHeartbeats 1000000 in
theorem on_Div (an ad bn bd : Int) (x y e : Int) (p0 p1 : Value) (w : World)
    (hV : ∀ w, Calls Tryd.prog 15 #[.agg #[.int .i64 an, .int .i64 ad]] w fun e w' => e = .returned (.bool true) ∧ Below w.heap.size w w')
    (hV2 : ∀ w, Calls Tryd.prog 15 #[.agg #[.int .i64 bn, .int .i64 bd]] w fun e w' => e = .returned (.bool true) ∧ Below w.heap.size w w')
    (hF : ∀ w', Below w.heap.size w w' → Calls Tryd.prog 52 #[p0, p1] w' fun e' w'' => e' = .returned (.tuple #[.agg #[.int .i64 x, .int .i64 y], .int .i64 e]) ∧ Below w'.heap.size w' w'') :
    Calls Tryd.prog 40 #[.agg #[.int .i64 an, .int .i64 ad], .agg #[.int .i64 bn, .int .i64 bd], .func (.func 52) #[] #[p0, p1]] w fun e' w' => e' = .returned (.tuple #[.agg #[.int .i64 x, .int .i64 y], .int .i64 e]) ∧ Below w.heap.size w w' := by
  have HV := Lib.hid hV
  have HV2 := Lib.hid hV2
  have HF := Lib.hid hF
  clear hV hV2 hF
  obtain ⟨⟨c0, c1⟩, ⟨c2, c3⟩, t, r, hb, hz⟩ := box3_facts w an ad bn bd
  have HT := Lib.hid t
  have HR := Lib.hid r
  have HB := Lib.hid hb
  have HZ := Lib.hid hz
  clear t r hb hz
  unfold box3 at c0 c1 c2 c3 HT HR HB HZ
  go_enter Tryd.func40, Tryd.ntmps40
  go_wp2_with fail
  generalize ((w.alloc (.cells #[.int .i64 an, .int .i64 ad] 25)).alloc (.cells #[.int .i64 bn, .int .i64 bd] 25)).alloc (.cells #[.int .i64 0, .int .i64 0] 25) = w0 at *
  refine (HV.out _).mono ?_
  rintro e' w1 ⟨rfl, hb1⟩
  have hz := HZ.out
  have HT1 := Lib.hid (there_below HT.out hb1 (by omega))
  have HR1 := Lib.hid (rangeAt_below HR.out hb1 (by omega))
  have HB1 := Lib.hid (HB.out.trans (hb1.mono (by omega)))
  have hz1 : w.heap.size + 3 ≤ w1.heap.size := by have := hb1.size; omega
  obtain ⟨e2, e3⟩ := cells2_below ⟨c2, c3⟩ hb1 (by omega)
  have HB01 := Lib.hid hb1
  clear hb1 c0 c1 c2 c3 hz
  go_wp2_with fail
  refine (HV2.out _).mono ?_
  rintro e' w2 ⟨rfl, hb2⟩
  have t2 := there_below HT1.out hb2 (by omega)
  have r2 := rangeAt_below HR1.out hb2 (by omega)
  have HB2 := Lib.hid (HB1.out.trans (hb2.mono (by omega)))
  have hz2 : w.heap.size + 3 ≤ w2.heap.size := by have := hb2.size; omega
  clear hb2 e2 e3 hz1
  go_wp2_with fail
  refine (HF.out _ HB2.out).mono ?_
  rintro e' w3 ⟨rfl, hb3⟩
  have t3 := there_below t2 hb3 (by omega)
  have hb4 := HB2.out.trans (hb3.mono (by omega))
  clear hb3 t2 r2 hz2
  have k0 := (t3 0 (by omega)).2
  have k1 := (t3 1 (by omega)).2
  have d0 := there_cell t3 0 (by omega)
  have d1 := there_cell t3 1 (by omega)
  rw [Nat.zero_add] at k0 k1 d0 d1
  have r3 : w3.rangeAt (w.heap.size + 2) 0 [valAt w3 ⟨w.heap.size + 2, 0, none⟩, valAt w3 ⟨w.heap.size + 2, 1, none⟩] := fun j u hj => by
    match j, hj with
    | 0, hj => simp at hj; subst hj; simpa using d0
    | 1, hj => simp at hj; subst hj; simpa using d1
  have HR6 := Lib.hid (rangeAt_set (rangeAt_set r3 0 (.int .i64 x)) 1 (.int .i64 y))
  have HB6 := Lib.hid ((hb4.setCell (p := ⟨w.heap.size + 2, 0, none⟩) (by simp) (.int .i64 x)).setCell (p := ⟨w.heap.size + 2, 1, none⟩) (by simp) (.int .i64 y))
  clear t3 r3 hb4
  go_wp2_with fail
  exact bodyPost_ret (results_cell_tmp_mid Tryd.results40 _ _ (w.heap.size + 2) 0 [.int .i64 x, .int .i64 y] _ rfl HR6.out Tryd.underlying25 rfl (by kernel_rfl)) rfl ⟨rfl, HB6.out⟩
end Go.Proofs.YtfcdoifijgbjeaaDoor
