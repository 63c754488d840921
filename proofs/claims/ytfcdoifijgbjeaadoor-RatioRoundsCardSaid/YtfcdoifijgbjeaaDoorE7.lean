/- Layer 01: Add, Mul, Div: the closures; the functions. -/
import Derived.Test.YtfcdoifijgbjeaaDoorE6
namespace Go.Proofs.YtfcdoifijgbjeaaDoor
open Go.RowKit

set_option maxHeartbeats 1000000 in
theorem Add1 (an ad bn bd x y e : Int) (A B : Nat) (w : World) (hA : A < w.heap.size) (hB : B < w.heap.size)
    (ca : w.cell? ⟨A, 0, none⟩ = some (.int .i64 an) ∧ w.cell? ⟨A, 1, none⟩ = some (.int .i64 ad)) (cb : w.cell? ⟨B, 0, none⟩ = some (.int .i64 bn) ∧ w.cell? ⟨B, 1, none⟩ = some (.int .i64 bd))
    (m1 : wrap64 (an * bd) = an * bd) (m2 : wrap64 (bn * ad) = bn * ad) (m3 : wrap64 (an * bd + bn * ad) = an * bd + bn * ad) (m4 : wrap64 (ad * bd) = ad * bd)
    (hF : ∀ w, Calls Tryd.prog 13 #[.int .i64 (an * bd + bn * ad), .int .i64 (ad * bd)] w fun e' w' => e' = .returned (.tuple #[.agg #[.int .i64 x, .int .i64 y], .int .i64 e]) ∧ Below w.heap.size w w') :
    Calls Tryd.prog 41 #[.pointer (some ⟨A, 0, none⟩), .pointer (some ⟨B, 0, none⟩)] w fun e' w' => e' = .returned (.tuple #[.agg #[.int .i64 x, .int .i64 y], .int .i64 e]) ∧ Below w.heap.size w w' := by
  have HF := Lib.hid hF
  clear hF
  obtain ⟨c0, c1⟩ := cells2_below (w' := w.alloc (.cells #[.int .i64 0, .int .i64 0] 25)) ca ((Below.refl _ _).alloc (Nat.le_refl _) _) hA
  obtain ⟨c2, c3⟩ := cells2_below (w' := w.alloc (.cells #[.int .i64 0, .int .i64 0] 25)) cb ((Below.refl _ _).alloc (Nat.le_refl _) _) hB
  have t0 := there_new w #[.int .i64 0, .int .i64 0] 25 2 (by simp)
  have hb0 := (Below.refl w.heap.size w).alloc (Nat.le_refl _) (.cells #[.int .i64 0, .int .i64 0] 25)
  have hs0 : w.heap.size < (w.alloc (.cells #[.int .i64 0, .int .i64 0] 25)).heap.size := by simp
  clear ca cb hA hB
  go_enter Tryd.func41, Tryd.ntmps41
  go_wp2_with fail
  generalize w.alloc (.cells #[.int .i64 0, .int .i64 0] 25) = w0 at *
  refine (HF.out _).mono ?_
  rintro e' w1 ⟨rfl, hb1⟩
  have t := there_below t0 hb1 hs0
  have hb := hb0.trans (hb1.mono (Nat.le_of_lt hs0))
  clear t0 hb0 hb1 hs0 c0 c1 c2 c3
  have k0 := (t 0 (by omega)).2
  have k1 := (t 1 (by omega)).2
  have d0 := there_cell t 0 (by omega)
  have d1 := there_cell t 1 (by omega)
  rw [Nat.zero_add] at k0 k1 d0 d1
  have r : w1.rangeAt (w.heap.size) 0 [valAt w1 ⟨w.heap.size, 0, none⟩, valAt w1 ⟨w.heap.size, 1, none⟩] := fun j u hj => by
    match j, hj with
    | 0, hj => simp at hj; subst hj; simpa using d0
    | 1, hj => simp at hj; subst hj; simpa using d1
  have HR6 := Lib.hid (rangeAt_set (rangeAt_set r 0 (.int .i64 x)) 1 (.int .i64 y))
  have HB6 := Lib.hid ((hb.setCell (p := ⟨w.heap.size, 0, none⟩) (by simp) (.int .i64 x)).setCell (p := ⟨w.heap.size, 1, none⟩) (by simp) (.int .i64 y))
  clear t r
  go_wp2_with fail
  exact bodyPost_ret (results_cell_tmp_mid Tryd.results41 _ _ (w.heap.size) 0 [.int .i64 x, .int .i64 y] _ rfl HR6.out Tryd.underlying25 rfl (by kernel_rfl)) rfl ⟨rfl, HB6.out⟩
set_option maxHeartbeats 1000000 in
theorem Mul1 (an ad bn bd x y e : Int) (A B : Nat) (w : World) (hA : A < w.heap.size) (hB : B < w.heap.size)
    (ca : w.cell? ⟨A, 0, none⟩ = some (.int .i64 an) ∧ w.cell? ⟨A, 1, none⟩ = some (.int .i64 ad)) (cb : w.cell? ⟨B, 0, none⟩ = some (.int .i64 bn) ∧ w.cell? ⟨B, 1, none⟩ = some (.int .i64 bd))
    
    (hF : ∀ w, Calls Tryd.prog 43 #[.agg #[.int .i64 an, .int .i64 ad], .int .i64 bn, .int .i64 bd] w fun e' w' => e' = .returned (.tuple #[.agg #[.int .i64 x, .int .i64 y], .int .i64 e]) ∧ Below w.heap.size w w') :
    Calls Tryd.prog 42 #[.pointer (some ⟨A, 0, none⟩), .pointer (some ⟨B, 0, none⟩)] w fun e' w' => e' = .returned (.tuple #[.agg #[.int .i64 x, .int .i64 y], .int .i64 e]) ∧ Below w.heap.size w w' := by
  have HF := Lib.hid hF
  clear hF
  obtain ⟨c0, c1⟩ := cells2_below (w' := w.alloc (.cells #[.int .i64 0, .int .i64 0] 25)) ca ((Below.refl _ _).alloc (Nat.le_refl _) _) hA
  obtain ⟨c2, c3⟩ := cells2_below (w' := w.alloc (.cells #[.int .i64 0, .int .i64 0] 25)) cb ((Below.refl _ _).alloc (Nat.le_refl _) _) hB
  have t0 := there_new w #[.int .i64 0, .int .i64 0] 25 2 (by simp)
  have hb0 := (Below.refl w.heap.size w).alloc (Nat.le_refl _) (.cells #[.int .i64 0, .int .i64 0] 25)
  have hs0 : w.heap.size < (w.alloc (.cells #[.int .i64 0, .int .i64 0] 25)).heap.size := by simp
  clear ca cb hA hB
  go_enter Tryd.func42, Tryd.ntmps42
  go_wp2_with fail
  generalize w.alloc (.cells #[.int .i64 0, .int .i64 0] 25) = w0 at *
  refine (HF.out _).mono ?_
  rintro e' w1 ⟨rfl, hb1⟩
  have t := there_below t0 hb1 hs0
  have hb := hb0.trans (hb1.mono (Nat.le_of_lt hs0))
  clear t0 hb0 hb1 hs0 c0 c1 c2 c3
  have k0 := (t 0 (by omega)).2
  have k1 := (t 1 (by omega)).2
  have d0 := there_cell t 0 (by omega)
  have d1 := there_cell t 1 (by omega)
  rw [Nat.zero_add] at k0 k1 d0 d1
  have r : w1.rangeAt (w.heap.size) 0 [valAt w1 ⟨w.heap.size, 0, none⟩, valAt w1 ⟨w.heap.size, 1, none⟩] := fun j u hj => by
    match j, hj with
    | 0, hj => simp at hj; subst hj; simpa using d0
    | 1, hj => simp at hj; subst hj; simpa using d1
  have HR6 := Lib.hid (rangeAt_set (rangeAt_set r 0 (.int .i64 x)) 1 (.int .i64 y))
  have HB6 := Lib.hid ((hb.setCell (p := ⟨w.heap.size, 0, none⟩) (by simp) (.int .i64 x)).setCell (p := ⟨w.heap.size, 1, none⟩) (by simp) (.int .i64 y))
  clear t r
  go_wp2_with fail
  exact bodyPost_ret (results_cell_tmp_mid Tryd.results42 _ _ (w.heap.size) 0 [.int .i64 x, .int .i64 y] _ rfl HR6.out Tryd.underlying25 rfl (by kernel_rfl)) rfl ⟨rfl, HB6.out⟩
set_option maxHeartbeats 1000000 in
theorem Div1 (an ad bn bd x y e : Int) (A B : Nat) (w : World) (hA : A < w.heap.size) (hB : B < w.heap.size)
    (ca : w.cell? ⟨A, 0, none⟩ = some (.int .i64 an) ∧ w.cell? ⟨A, 1, none⟩ = some (.int .i64 ad)) (cb : w.cell? ⟨B, 0, none⟩ = some (.int .i64 bn) ∧ w.cell? ⟨B, 1, none⟩ = some (.int .i64 bd))
    (hn : (bn == 0) = false)
    (hF : ∀ w, Calls Tryd.prog 43 #[.agg #[.int .i64 an, .int .i64 ad], .int .i64 bd, .int .i64 bn] w fun e' w' => e' = .returned (.tuple #[.agg #[.int .i64 x, .int .i64 y], .int .i64 e]) ∧ Below w.heap.size w w') :
    Calls Tryd.prog 52 #[.pointer (some ⟨B, 0, none⟩), .pointer (some ⟨A, 0, none⟩)] w fun e' w' => e' = .returned (.tuple #[.agg #[.int .i64 x, .int .i64 y], .int .i64 e]) ∧ Below w.heap.size w w' := by
  have HF := Lib.hid hF
  clear hF
  obtain ⟨c0, c1⟩ := cells2_below (w' := w.alloc (.cells #[.int .i64 0, .int .i64 0] 25)) ca ((Below.refl _ _).alloc (Nat.le_refl _) _) hA
  obtain ⟨c2, c3⟩ := cells2_below (w' := w.alloc (.cells #[.int .i64 0, .int .i64 0] 25)) cb ((Below.refl _ _).alloc (Nat.le_refl _) _) hB
  have t0 := there_new w #[.int .i64 0, .int .i64 0] 25 2 (by simp)
  have hb0 := (Below.refl w.heap.size w).alloc (Nat.le_refl _) (.cells #[.int .i64 0, .int .i64 0] 25)
  have hs0 : w.heap.size < (w.alloc (.cells #[.int .i64 0, .int .i64 0] 25)).heap.size := by simp
  clear ca cb hA hB
  go_enter Tryd.func52, Tryd.ntmps52
  go_wp2_with fail
  generalize w.alloc (.cells #[.int .i64 0, .int .i64 0] 25) = w0 at *
  refine (HF.out _).mono ?_
  rintro e' w1 ⟨rfl, hb1⟩
  have t := there_below t0 hb1 hs0
  have hb := hb0.trans (hb1.mono (Nat.le_of_lt hs0))
  clear t0 hb0 hb1 hs0 c0 c1 c2 c3
  have k0 := (t 0 (by omega)).2
  have k1 := (t 1 (by omega)).2
  have d0 := there_cell t 0 (by omega)
  have d1 := there_cell t 1 (by omega)
  rw [Nat.zero_add] at k0 k1 d0 d1
  have r : w1.rangeAt (w.heap.size) 0 [valAt w1 ⟨w.heap.size, 0, none⟩, valAt w1 ⟨w.heap.size, 1, none⟩] := fun j u hj => by
    match j, hj with
    | 0, hj => simp at hj; subst hj; simpa using d0
    | 1, hj => simp at hj; subst hj; simpa using d1
  have HR6 := Lib.hid (rangeAt_set (rangeAt_set r 0 (.int .i64 x)) 1 (.int .i64 y))
  have HB6 := Lib.hid ((hb.setCell (p := ⟨w.heap.size, 0, none⟩) (by simp) (.int .i64 x)).setCell (p := ⟨w.heap.size, 1, none⟩) (by simp) (.int .i64 y))
  clear t r
  go_wp2_with fail
  exact bodyPost_ret (results_cell_tmp_mid Tryd.results52 _ _ (w.heap.size) 0 [.int .i64 x, .int .i64 y] _ rfl HR6.out Tryd.underlying25 rfl (by kernel_rfl)) rfl ⟨rfl, HB6.out⟩
set_option maxHeartbeats 1000000 in
theorem Div1_zero (an ad bn bd : Int) (A B : Nat) (w : World) (hA : A < w.heap.size) (hB : B < w.heap.size)
    (ca : w.cell? ⟨A, 0, none⟩ = some (.int .i64 an) ∧ w.cell? ⟨A, 1, none⟩ = some (.int .i64 ad)) (cb : w.cell? ⟨B, 0, none⟩ = some (.int .i64 bn) ∧ w.cell? ⟨B, 1, none⟩ = some (.int .i64 bd))
    (hz : bn = 0) :
    Calls Tryd.prog 52 #[.pointer (some ⟨B, 0, none⟩), .pointer (some ⟨A, 0, none⟩)] w fun e' w' => e' = .returned (.tuple #[.agg #[.int .i64 0, .int .i64 0], .int .i64 1]) ∧ Below w.heap.size w w' := by
  subst hz
  obtain ⟨c0, c1⟩ := cells2_below (w' := w.alloc (.cells #[.int .i64 0, .int .i64 0] 25)) ca ((Below.refl _ _).alloc (Nat.le_refl _) _) hA
  obtain ⟨c2, c3⟩ := cells2_below (w' := w.alloc (.cells #[.int .i64 0, .int .i64 0] 25)) cb ((Below.refl _ _).alloc (Nat.le_refl _) _) hB
  have t0 := there_new w #[.int .i64 0, .int .i64 0] 25 2 (by simp)
  have hb0 := (Below.refl w.heap.size w).alloc (Nat.le_refl _) (.cells #[.int .i64 0, .int .i64 0] 25)
  have hs0 : w.heap.size < (w.alloc (.cells #[.int .i64 0, .int .i64 0] 25)).heap.size := by simp
  clear ca cb hA hB
  go_enter Tryd.func52, Tryd.ntmps52
  go_wp2_with fail
  exact bodyPost_ret (results_cell_tmp_mid Tryd.results52 _ _ w.heap.size 0 [.int .i64 0, .int .i64 0] _ rfl (rangeAt_new w #[.int .i64 0, .int .i64 0] 25) Tryd.underlying25 rfl (by kernel_rfl)) rfl ⟨rfl, hb0⟩
set_option maxHeartbeats 1000000 in
theorem Add_walk (an ad bn bd x y e : Int) (w : World)
    (hF : ∀ w', w.heap.size + 2 ≤ w'.heap.size → (w'.cell? ⟨w.heap.size, 0, none⟩ = some (.int .i64 an) ∧ w'.cell? ⟨w.heap.size, 1, none⟩ = some (.int .i64 ad)) → (w'.cell? ⟨w.heap.size + 1, 0, none⟩ = some (.int .i64 bn) ∧ w'.cell? ⟨w.heap.size + 1, 1, none⟩ = some (.int .i64 bd)) →
      Calls Tryd.prog 40 #[.agg #[.int .i64 an, .int .i64 ad], .agg #[.int .i64 bn, .int .i64 bd], .func (.func 41) #[] #[.pointer (some ⟨w.heap.size, 0, none⟩), .pointer (some ⟨w.heap.size + 1, 0, none⟩)]] w' fun e' w'' => e' = .returned (.tuple #[.agg #[.int .i64 x, .int .i64 y], .int .i64 e]) ∧ Below w'.heap.size w' w'') :
    Calls Tryd.prog 17 #[.agg #[.int .i64 an, .int .i64 ad], .agg #[.int .i64 bn, .int .i64 bd]] w fun e' w' => e' = .returned (.tuple #[.agg #[.int .i64 x, .int .i64 y], .int .i64 e]) ∧ Below w.heap.size w w' := by
  have HF := Lib.hid hF
  clear hF
  obtain ⟨⟨c0, c1⟩, ⟨c2, c3⟩, t, _, hb, hz⟩ := box3_facts w an ad bn bd
  have HT := Lib.hid t
  have HB := Lib.hid hb
  have HZ := Lib.hid hz
  clear t hb hz
  unfold box3 at c0 c1 c2 c3 HT HB HZ
  go_enter Tryd.func17, Tryd.ntmps17
  go_wp2_with fail
  generalize ((w.alloc (.cells #[.int .i64 an, .int .i64 ad] 25)).alloc (.cells #[.int .i64 bn, .int .i64 bd] 25)).alloc (.cells #[.int .i64 0, .int .i64 0] 25) = w0 at *
  refine (HF.out _ (by have := HZ.out; omega) ⟨c0, c1⟩ ⟨c2, c3⟩).mono ?_
  rintro e' w1 ⟨rfl, hb1⟩
  have hz := HZ.out
  have t := there_below HT.out hb1 (by omega)
  have hb := HB.out.trans (hb1.mono (by omega))
  clear hb1 c0 c1 c2 c3 hz
  have k0 := (t 0 (by omega)).2
  have k1 := (t 1 (by omega)).2
  have d0 := there_cell t 0 (by omega)
  have d1 := there_cell t 1 (by omega)
  rw [Nat.zero_add] at k0 k1 d0 d1
  have r : w1.rangeAt (w.heap.size + 2) 0 [valAt w1 ⟨w.heap.size + 2, 0, none⟩, valAt w1 ⟨w.heap.size + 2, 1, none⟩] := fun j u hj => by
    match j, hj with
    | 0, hj => simp at hj; subst hj; simpa using d0
    | 1, hj => simp at hj; subst hj; simpa using d1
  have HR6 := Lib.hid (rangeAt_set (rangeAt_set r 0 (.int .i64 x)) 1 (.int .i64 y))
  have HB6 := Lib.hid ((hb.setCell (p := ⟨w.heap.size + 2, 0, none⟩) (by simp) (.int .i64 x)).setCell (p := ⟨w.heap.size + 2, 1, none⟩) (by simp) (.int .i64 y))
  clear t r
  go_wp2_with fail
  exact bodyPost_ret (results_cell_tmp_mid Tryd.results17 _ _ (w.heap.size + 2) 0 [.int .i64 x, .int .i64 y] _ rfl HR6.out Tryd.underlying25 rfl (by kernel_rfl)) rfl ⟨rfl, HB6.out⟩
set_option maxHeartbeats 1000000 in
theorem Mul_walk (an ad bn bd x y e : Int) (w : World)
    (hF : ∀ w', w.heap.size + 2 ≤ w'.heap.size → (w'.cell? ⟨w.heap.size, 0, none⟩ = some (.int .i64 an) ∧ w'.cell? ⟨w.heap.size, 1, none⟩ = some (.int .i64 ad)) → (w'.cell? ⟨w.heap.size + 1, 0, none⟩ = some (.int .i64 bn) ∧ w'.cell? ⟨w.heap.size + 1, 1, none⟩ = some (.int .i64 bd)) →
      Calls Tryd.prog 40 #[.agg #[.int .i64 an, .int .i64 ad], .agg #[.int .i64 bn, .int .i64 bd], .func (.func 42) #[] #[.pointer (some ⟨w.heap.size, 0, none⟩), .pointer (some ⟨w.heap.size + 1, 0, none⟩)]] w' fun e' w'' => e' = .returned (.tuple #[.agg #[.int .i64 x, .int .i64 y], .int .i64 e]) ∧ Below w'.heap.size w' w'') :
    Calls Tryd.prog 18 #[.agg #[.int .i64 an, .int .i64 ad], .agg #[.int .i64 bn, .int .i64 bd]] w fun e' w' => e' = .returned (.tuple #[.agg #[.int .i64 x, .int .i64 y], .int .i64 e]) ∧ Below w.heap.size w w' := by
  have HF := Lib.hid hF
  clear hF
  obtain ⟨⟨c0, c1⟩, ⟨c2, c3⟩, t, _, hb, hz⟩ := box3_facts w an ad bn bd
  have HT := Lib.hid t
  have HB := Lib.hid hb
  have HZ := Lib.hid hz
  clear t hb hz
  unfold box3 at c0 c1 c2 c3 HT HB HZ
  go_enter Tryd.func18, Tryd.ntmps18
  go_wp2_with fail
  generalize ((w.alloc (.cells #[.int .i64 an, .int .i64 ad] 25)).alloc (.cells #[.int .i64 bn, .int .i64 bd] 25)).alloc (.cells #[.int .i64 0, .int .i64 0] 25) = w0 at *
  refine (HF.out _ (by have := HZ.out; omega) ⟨c0, c1⟩ ⟨c2, c3⟩).mono ?_
  rintro e' w1 ⟨rfl, hb1⟩
  have hz := HZ.out
  have t := there_below HT.out hb1 (by omega)
  have hb := HB.out.trans (hb1.mono (by omega))
  clear hb1 c0 c1 c2 c3 hz
  have k0 := (t 0 (by omega)).2
  have k1 := (t 1 (by omega)).2
  have d0 := there_cell t 0 (by omega)
  have d1 := there_cell t 1 (by omega)
  rw [Nat.zero_add] at k0 k1 d0 d1
  have r : w1.rangeAt (w.heap.size + 2) 0 [valAt w1 ⟨w.heap.size + 2, 0, none⟩, valAt w1 ⟨w.heap.size + 2, 1, none⟩] := fun j u hj => by
    match j, hj with
    | 0, hj => simp at hj; subst hj; simpa using d0
    | 1, hj => simp at hj; subst hj; simpa using d1
  have HR6 := Lib.hid (rangeAt_set (rangeAt_set r 0 (.int .i64 x)) 1 (.int .i64 y))
  have HB6 := Lib.hid ((hb.setCell (p := ⟨w.heap.size + 2, 0, none⟩) (by simp) (.int .i64 x)).setCell (p := ⟨w.heap.size + 2, 1, none⟩) (by simp) (.int .i64 y))
  clear t r
  go_wp2_with fail
  exact bodyPost_ret (results_cell_tmp_mid Tryd.results18 _ _ (w.heap.size + 2) 0 [.int .i64 x, .int .i64 y] _ rfl HR6.out Tryd.underlying25 rfl (by kernel_rfl)) rfl ⟨rfl, HB6.out⟩
set_option maxHeartbeats 1000000 in
theorem Div_walk (an ad bn bd x y e : Int) (w : World)
    (hF : ∀ w', w.heap.size + 2 ≤ w'.heap.size → (w'.cell? ⟨w.heap.size, 0, none⟩ = some (.int .i64 an) ∧ w'.cell? ⟨w.heap.size, 1, none⟩ = some (.int .i64 ad)) → (w'.cell? ⟨w.heap.size + 1, 0, none⟩ = some (.int .i64 bn) ∧ w'.cell? ⟨w.heap.size + 1, 1, none⟩ = some (.int .i64 bd)) →
      Calls Tryd.prog 40 #[.agg #[.int .i64 an, .int .i64 ad], .agg #[.int .i64 bn, .int .i64 bd], .func (.func 52) #[] #[.pointer (some ⟨w.heap.size + 1, 0, none⟩), .pointer (some ⟨w.heap.size, 0, none⟩)]] w' fun e' w'' => e' = .returned (.tuple #[.agg #[.int .i64 x, .int .i64 y], .int .i64 e]) ∧ Below w'.heap.size w' w'') :
    Calls Tryd.prog 31 #[.agg #[.int .i64 an, .int .i64 ad], .agg #[.int .i64 bn, .int .i64 bd]] w fun e' w' => e' = .returned (.tuple #[.agg #[.int .i64 x, .int .i64 y], .int .i64 e]) ∧ Below w.heap.size w w' := by
  have HF := Lib.hid hF
  clear hF
  obtain ⟨⟨c0, c1⟩, ⟨c2, c3⟩, t, _, hb, hz⟩ := box3_facts w an ad bn bd
  have HT := Lib.hid t
  have HB := Lib.hid hb
  have HZ := Lib.hid hz
  clear t hb hz
  unfold box3 at c0 c1 c2 c3 HT HB HZ
  go_enter Tryd.func31, Tryd.ntmps31
  go_wp2_with fail
  generalize ((w.alloc (.cells #[.int .i64 an, .int .i64 ad] 25)).alloc (.cells #[.int .i64 bn, .int .i64 bd] 25)).alloc (.cells #[.int .i64 0, .int .i64 0] 25) = w0 at *
  refine (HF.out _ (by have := HZ.out; omega) ⟨c0, c1⟩ ⟨c2, c3⟩).mono ?_
  rintro e' w1 ⟨rfl, hb1⟩
  have hz := HZ.out
  have t := there_below HT.out hb1 (by omega)
  have hb := HB.out.trans (hb1.mono (by omega))
  clear hb1 c0 c1 c2 c3 hz
  have k0 := (t 0 (by omega)).2
  have k1 := (t 1 (by omega)).2
  have d0 := there_cell t 0 (by omega)
  have d1 := there_cell t 1 (by omega)
  rw [Nat.zero_add] at k0 k1 d0 d1
  have r : w1.rangeAt (w.heap.size + 2) 0 [valAt w1 ⟨w.heap.size + 2, 0, none⟩, valAt w1 ⟨w.heap.size + 2, 1, none⟩] := fun j u hj => by
    match j, hj with
    | 0, hj => simp at hj; subst hj; simpa using d0
    | 1, hj => simp at hj; subst hj; simpa using d1
  have HR6 := Lib.hid (rangeAt_set (rangeAt_set r 0 (.int .i64 x)) 1 (.int .i64 y))
  have HB6 := Lib.hid ((hb.setCell (p := ⟨w.heap.size + 2, 0, none⟩) (by simp) (.int .i64 x)).setCell (p := ⟨w.heap.size + 2, 1, none⟩) (by simp) (.int .i64 y))
  clear t r
  go_wp2_with fail
  exact bodyPost_ret (results_cell_tmp_mid Tryd.results31 _ _ (w.heap.size + 2) 0 [.int .i64 x, .int .i64 y] _ rfl HR6.out Tryd.underlying25 rfl (by kernel_rfl)) rfl ⟨rfl, HB6.out⟩
end Go.Proofs.YtfcdoifijgbjeaaDoor
