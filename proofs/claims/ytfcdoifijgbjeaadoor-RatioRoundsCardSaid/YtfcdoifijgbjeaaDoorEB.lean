/- Layer 01: Round. -/
import Derived.Test.YtfcdoifijgbjeaaDoorEA
namespace Go.Proofs.YtfcdoifijgbjeaaDoor
open Go.RowKit

theorem and_one_int (m : Int) : bits .and .i64 m 1 = m % 2 := by
  have h1 : (BitVec.ofInt 64 1).toNat = 2 ^ 1 - 1 := by decide
  have key : (BitVec.ofInt 64 m &&& BitVec.ofInt 64 1).toNat = (m % ((2 ^ 64 : Nat) : Int)).toNat % 2 ^ 1 := by
    rw [BitVec.toNat_and, BitVec.toNat_ofInt, h1, Nat.and_two_pow_sub_one_eq_mod]
  show IntKind.i64.wrap ((BitVec.ofInt 64 m &&& BitVec.ofInt 64 1).toNat : Nat) = _
  rw [key, IntKind.wrap_i64]
  omega

/-- The world of a function with a ratio by value and one as its result. -/
def box1 (w : World) (n d : Int) : World := (w.alloc (.cells #[.int .i64 n, .int .i64 d] 25)).alloc (.cells #[.int .i64 0, .int .i64 0] 25)
theorem box1_facts (w : World) (n d : Int) :
    ((box1 w n d).cell? ⟨w.heap.size, 0, none⟩ = some (.int .i64 n) ∧ (box1 w n d).cell? ⟨w.heap.size, 1, none⟩ = some (.int .i64 d)) ∧
    (box1 w n d).there (w.heap.size + 1) 0 2 ∧ Below w.heap.size w (box1 w n d) ∧ (box1 w n d).heap.size = w.heap.size + 2 := by
  have z1 : (w.alloc (.cells #[.int .i64 n, .int .i64 d] 25)).heap.size = w.heap.size + 1 := by simp
  have z2 : (box1 w n d).heap.size = w.heap.size + 2 := by unfold box1; simp
  have a1 := (Below.refl w.heap.size w).alloc (Nat.le_refl _) (.cells #[.int .i64 n, .int .i64 d] 25)
  have A0 : (w.alloc (.cells #[.int .i64 n, .int .i64 d] 25)).cell? ⟨w.heap.size, 0, none⟩ = some (.int .i64 n) ∧ (w.alloc (.cells #[.int .i64 n, .int .i64 d] 25)).cell? ⟨w.heap.size, 1, none⟩ = some (.int .i64 d) := ⟨new0 rfl rfl, new0 rfl rfl⟩
  unfold box1 at z2 ⊢
  generalize w.alloc (.cells #[.int .i64 n, .int .i64 d] 25) = w1 at *
  have t := there_new w1 #[.int .i64 0, .int .i64 0] 25 2 (by simp)
  rw [z1] at t
  exact ⟨cells2_below A0 ((Below.refl _ _).alloc (Nat.le_refl _) _) (by omega), t, a1.alloc (by omega) _, z2⟩

set_option maxHeartbeats 1000000 in
theorem Round_bad1 (n d p : Int) (w : World)
    (hV : ∀ w, Calls Tryd.prog 15 #[.agg #[.int .i64 n, .int .i64 d]] w fun e w' => e = .returned (.bool false) ∧ Below w.heap.size w w') :
    Calls Tryd.prog 21 #[.agg #[.int .i64 n, .int .i64 d], .int .i64 p] w fun e' w' => e' = .returned (.tuple #[.agg #[.int .i64 0, .int .i64 0], .int .i64 1]) ∧ Below w.heap.size w w' := by
  have HV := Lib.hid hV
  clear hV
  obtain ⟨⟨c0, c1⟩, t, hb, hz⟩ := box1_facts w n d
  have HT := Lib.hid t
  have HB := Lib.hid hb
  have HZ := Lib.hid hz
  have HC := Lib.hid (And.intro c0 c1)
  clear t hb hz
  unfold box1 at c0 c1 HT HB HZ HC
  go_enter Tryd.func21, Tryd.ntmps21
  go_wp2_with fail
  generalize (w.alloc (.cells #[.int .i64 n, .int .i64 d] 25)).alloc (.cells #[.int .i64 0, .int .i64 0] 25) = w0 at *
  refine (HV.out _).mono ?_
  rintro e' w1 ⟨rfl, hb1⟩
  have hz := HZ.out
  have hs1 := hb1.size
  have HT1 := Lib.hid (there_below HT.out hb1 (by omega))
  have HB1 := Lib.hid (HB.out.trans (hb1.mono (by omega)))
  have HC1 := Lib.hid (cells2_below HC.out hb1 (by omega))
  have HZ1 : Hid (w.heap.size + 2 ≤ w1.heap.size) := Lib.hid (by omega)
  clear hb1 c0 c1 hz hs1
  have t := HT1.out
  have k0 := (t 0 (by omega)).2
  have k1 := (t 1 (by omega)).2
  have d0 := there_cell t 0 (by omega)
  have d1 := there_cell t 1 (by omega)
  rw [Nat.zero_add] at k0 k1 d0 d1
  have r : w1.rangeAt (w.heap.size + 1) 0 [valAt w1 ⟨w.heap.size + 1, 0, none⟩, valAt w1 ⟨w.heap.size + 1, 1, none⟩] := fun j u hj => by
    match j, hj with
    | 0, hj => simp at hj; subst hj; simpa using d0
    | 1, hj => simp at hj; subst hj; simpa using d1
  have HR6 := Lib.hid (rangeAt_set (rangeAt_set r 0 (.int .i64 0)) 1 (.int .i64 0))
  have HB6 := Lib.hid ((HB1.out.setCell (p := ⟨w.heap.size + 1, 0, none⟩) (by simp) (.int .i64 0)).setCell (p := ⟨w.heap.size + 1, 1, none⟩) (by simp) (.int .i64 0))
  clear t r
  go_wp2_with fail
  exact bodyPost_ret (results_cell_tmp_mid Tryd.results21 _ _ (w.heap.size + 1) 0 [.int .i64 0, .int .i64 0] _ rfl HR6.out Tryd.underlying25 rfl (by kernel_rfl)) rfl ⟨rfl, HB6.out⟩
set_option maxHeartbeats 1000000 in
theorem Round_bad2 (n d p : Int) (w : World)
    (hV : ∀ w, Calls Tryd.prog 15 #[.agg #[.int .i64 n, .int .i64 d]] w fun e w' => e = .returned (.bool true) ∧ Below w.heap.size w w') (hp : p < 1) :
    Calls Tryd.prog 21 #[.agg #[.int .i64 n, .int .i64 d], .int .i64 p] w fun e' w' => e' = .returned (.tuple #[.agg #[.int .i64 0, .int .i64 0], .int .i64 1]) ∧ Below w.heap.size w w' := by
  have HV := Lib.hid hV
  clear hV
  obtain ⟨⟨c0, c1⟩, t, hb, hz⟩ := box1_facts w n d
  have HT := Lib.hid t
  have HB := Lib.hid hb
  have HZ := Lib.hid hz
  have HC := Lib.hid (And.intro c0 c1)
  clear t hb hz
  unfold box1 at c0 c1 HT HB HZ HC
  go_enter Tryd.func21, Tryd.ntmps21
  go_wp2_with fail
  generalize (w.alloc (.cells #[.int .i64 n, .int .i64 d] 25)).alloc (.cells #[.int .i64 0, .int .i64 0] 25) = w0 at *
  refine (HV.out _).mono ?_
  rintro e' w1 ⟨rfl, hb1⟩
  have hz := HZ.out
  have hs1 := hb1.size
  have HT1 := Lib.hid (there_below HT.out hb1 (by omega))
  have HB1 := Lib.hid (HB.out.trans (hb1.mono (by omega)))
  have HC1 := Lib.hid (cells2_below HC.out hb1 (by omega))
  have HZ1 : Hid (w.heap.size + 2 ≤ w1.heap.size) := Lib.hid (by omega)
  clear hb1 c0 c1 hz hs1
  have t := HT1.out
  have k0 := (t 0 (by omega)).2
  have k1 := (t 1 (by omega)).2
  have d0 := there_cell t 0 (by omega)
  have d1 := there_cell t 1 (by omega)
  rw [Nat.zero_add] at k0 k1 d0 d1
  have r : w1.rangeAt (w.heap.size + 1) 0 [valAt w1 ⟨w.heap.size + 1, 0, none⟩, valAt w1 ⟨w.heap.size + 1, 1, none⟩] := fun j u hj => by
    match j, hj with
    | 0, hj => simp at hj; subst hj; simpa using d0
    | 1, hj => simp at hj; subst hj; simpa using d1
  have HR6 := Lib.hid (rangeAt_set (rangeAt_set r 0 (.int .i64 0)) 1 (.int .i64 0))
  have HB6 := Lib.hid ((HB1.out.setCell (p := ⟨w.heap.size + 1, 0, none⟩) (by simp) (.int .i64 0)).setCell (p := ⟨w.heap.size + 1, 1, none⟩) (by simp) (.int .i64 0))
  clear t r
  go_wp2_with fail
  exact bodyPost_ret (results_cell_tmp_mid Tryd.results21 _ _ (w.heap.size + 1) 0 [.int .i64 0, .int .i64 0] _ rfl HR6.out Tryd.underlying25 rfl (by kernel_rfl)) rfl ⟨rfl, HB6.out⟩
set_option maxHeartbeats 1000000 in
theorem Round_bad3 (n d p : Int) (w : World)
    (hV : ∀ w, Calls Tryd.prog 15 #[.agg #[.int .i64 n, .int .i64 d]] w fun e w' => e = .returned (.bool true) ∧ Below w.heap.size w w') (hp : 1 ≤ p) (hp2 : 1000000 < p) :
    Calls Tryd.prog 21 #[.agg #[.int .i64 n, .int .i64 d], .int .i64 p] w fun e' w' => e' = .returned (.tuple #[.agg #[.int .i64 0, .int .i64 0], .int .i64 1]) ∧ Below w.heap.size w w' := by
  have HV := Lib.hid hV
  clear hV
  obtain ⟨⟨c0, c1⟩, t, hb, hz⟩ := box1_facts w n d
  have HT := Lib.hid t
  have HB := Lib.hid hb
  have HZ := Lib.hid hz
  have HC := Lib.hid (And.intro c0 c1)
  clear t hb hz
  unfold box1 at c0 c1 HT HB HZ HC
  go_enter Tryd.func21, Tryd.ntmps21
  go_wp2_with fail
  generalize (w.alloc (.cells #[.int .i64 n, .int .i64 d] 25)).alloc (.cells #[.int .i64 0, .int .i64 0] 25) = w0 at *
  refine (HV.out _).mono ?_
  rintro e' w1 ⟨rfl, hb1⟩
  have hz := HZ.out
  have hs1 := hb1.size
  have HT1 := Lib.hid (there_below HT.out hb1 (by omega))
  have HB1 := Lib.hid (HB.out.trans (hb1.mono (by omega)))
  have HC1 := Lib.hid (cells2_below HC.out hb1 (by omega))
  have HZ1 : Hid (w.heap.size + 2 ≤ w1.heap.size) := Lib.hid (by omega)
  clear hb1 c0 c1 hz hs1
  have t := HT1.out
  have k0 := (t 0 (by omega)).2
  have k1 := (t 1 (by omega)).2
  have d0 := there_cell t 0 (by omega)
  have d1 := there_cell t 1 (by omega)
  rw [Nat.zero_add] at k0 k1 d0 d1
  have r : w1.rangeAt (w.heap.size + 1) 0 [valAt w1 ⟨w.heap.size + 1, 0, none⟩, valAt w1 ⟨w.heap.size + 1, 1, none⟩] := fun j u hj => by
    match j, hj with
    | 0, hj => simp at hj; subst hj; simpa using d0
    | 1, hj => simp at hj; subst hj; simpa using d1
  have HR6 := Lib.hid (rangeAt_set (rangeAt_set r 0 (.int .i64 0)) 1 (.int .i64 0))
  have HB6 := Lib.hid ((HB1.out.setCell (p := ⟨w.heap.size + 1, 0, none⟩) (by simp) (.int .i64 0)).setCell (p := ⟨w.heap.size + 1, 1, none⟩) (by simp) (.int .i64 0))
  clear t r
  go_wp2_with fail
  exact bodyPost_ret (results_cell_tmp_mid Tryd.results21 _ _ (w.heap.size + 1) 0 [.int .i64 0, .int .i64 0] _ rfl HR6.out Tryd.underlying25 rfl (by kernel_rfl)) rfl ⟨rfl, HB6.out⟩
set_option maxHeartbeats 1000000 in
theorem Round_up (n d p Q R x y e : Int) (w : World)
    (hV : ∀ w, Calls Tryd.prog 15 #[.agg #[.int .i64 n, .int .i64 d]] w fun e w' => e = .returned (.bool true) ∧ Below w.heap.size w w') (hp : 1 ≤ p) (hp2 : p ≤ 1000000) (m1 : wrap64 (n * p) = n * p) (hR0 : 0 ≤ R) (hRd : R < d) (hd : d ≤ 1000000)
    (hBe : ∀ w, Calls Tryd.prog 44 #[.int .i64 (n * p), .int .i64 d] w fun e w' => e = .returned (.tuple #[.int .i64 Q, .int .i64 R]) ∧ Below w.heap.size w w')
    (hM : ∀ w, Calls Tryd.prog 13 #[.int .i64 (Q + 1), .int .i64 p] w fun e' w' => e' = .returned (.tuple #[.agg #[.int .i64 x, .int .i64 y], .int .i64 e]) ∧ Below w.heap.size w w') (hQ1 : -1000000000000000000 ≤ Q) (hQ2 : Q ≤ 1000000000000000000) (h : d - R < R) :
    Calls Tryd.prog 21 #[.agg #[.int .i64 n, .int .i64 d], .int .i64 p] w fun e' w' => e' = .returned (.tuple #[.agg #[.int .i64 x, .int .i64 y], .int .i64 e]) ∧ Below w.heap.size w w' := by
  have HV := Lib.hid hV
  have HBe := Lib.hid hBe
  have HM := Lib.hid hM
  clear hV hBe hM
  obtain ⟨⟨c0, c1⟩, t, hb, hz⟩ := box1_facts w n d
  have HT := Lib.hid t
  have HB := Lib.hid hb
  have HZ := Lib.hid hz
  have HC := Lib.hid (And.intro c0 c1)
  clear t hb hz
  unfold box1 at c0 c1 HT HB HZ HC
  go_enter Tryd.func21, Tryd.ntmps21
  go_wp2_with fail
  generalize (w.alloc (.cells #[.int .i64 n, .int .i64 d] 25)).alloc (.cells #[.int .i64 0, .int .i64 0] 25) = w0 at *
  refine (HV.out _).mono ?_
  rintro e' w1 ⟨rfl, hb1⟩
  have hz := HZ.out
  have hs1 := hb1.size
  have HT1 := Lib.hid (there_below HT.out hb1 (by omega))
  have HB1 := Lib.hid (HB.out.trans (hb1.mono (by omega)))
  have HC1 := Lib.hid (cells2_below HC.out hb1 (by omega))
  have HZ1 : Hid (w.heap.size + 2 ≤ w1.heap.size) := Lib.hid (by omega)
  clear hb1 c0 c1 hz hs1
  obtain ⟨c0, c1⟩ := HC1.out
  go_wp2_with fail
  refine (HBe.out _).mono ?_
  rintro e' w2 ⟨rfl, hb2⟩
  have hz1 := HZ1.out
  have hs2 := hb2.size
  have HT2 := Lib.hid (there_below HT1.out hb2 (by omega))
  have HB2 := Lib.hid (HB1.out.trans (hb2.mono (by omega)))
  have HZ2 : Hid (w.heap.size + 2 ≤ w2.heap.size) := Lib.hid (by omega)
  clear c0 c1
  obtain ⟨c0, c1⟩ := cells2_below HC1.out hb2 (by omega)
  clear hb2 hz1 hs2
  go_wp2_with fail
  refine (HM.out _).mono ?_
  rintro e' w3 ⟨rfl, hb3⟩
  have hz2 := HZ2.out
  have HT3 := Lib.hid (there_below HT2.out hb3 (by omega))
  have HB3 := Lib.hid (HB2.out.trans (hb3.mono (by omega)))
  clear hb3 hz2 c0 c1
  have t := HT3.out
  have k0 := (t 0 (by omega)).2
  have k1 := (t 1 (by omega)).2
  have d0 := there_cell t 0 (by omega)
  have d1 := there_cell t 1 (by omega)
  rw [Nat.zero_add] at k0 k1 d0 d1
  have r : w3.rangeAt (w.heap.size + 1) 0 [valAt w3 ⟨w.heap.size + 1, 0, none⟩, valAt w3 ⟨w.heap.size + 1, 1, none⟩] := fun j u hj => by
    match j, hj with
    | 0, hj => simp at hj; subst hj; simpa using d0
    | 1, hj => simp at hj; subst hj; simpa using d1
  have HR6 := Lib.hid (rangeAt_set (rangeAt_set r 0 (.int .i64 x)) 1 (.int .i64 y))
  have HB6 := Lib.hid ((HB3.out.setCell (p := ⟨w.heap.size + 1, 0, none⟩) (by simp) (.int .i64 x)).setCell (p := ⟨w.heap.size + 1, 1, none⟩) (by simp) (.int .i64 y))
  clear t r
  go_wp2_with fail
  exact bodyPost_ret (results_cell_tmp_mid Tryd.results21 _ _ (w.heap.size + 1) 0 [.int .i64 x, .int .i64 y] _ rfl HR6.out Tryd.underlying25 rfl (by kernel_rfl)) rfl ⟨rfl, HB6.out⟩
set_option maxHeartbeats 1000000 in
theorem Round_mid1 (n d p Q R x y e : Int) (w : World)
    (hV : ∀ w, Calls Tryd.prog 15 #[.agg #[.int .i64 n, .int .i64 d]] w fun e w' => e = .returned (.bool true) ∧ Below w.heap.size w w') (hp : 1 ≤ p) (hp2 : p ≤ 1000000) (m1 : wrap64 (n * p) = n * p) (hR0 : 0 ≤ R) (hRd : R < d) (hd : d ≤ 1000000)
    (hBe : ∀ w, Calls Tryd.prog 44 #[.int .i64 (n * p), .int .i64 d] w fun e w' => e = .returned (.tuple #[.int .i64 Q, .int .i64 R]) ∧ Below w.heap.size w w')
    (hM : ∀ w, Calls Tryd.prog 13 #[.int .i64 (Q + 1), .int .i64 p] w fun e' w' => e' = .returned (.tuple #[.agg #[.int .i64 x, .int .i64 y], .int .i64 e]) ∧ Below w.heap.size w w') (hQ1 : -1000000000000000000 ≤ Q) (hQ2 : Q ≤ 1000000000000000000) (h : R = d - R) (ho : Q % 2 = 1) :
    Calls Tryd.prog 21 #[.agg #[.int .i64 n, .int .i64 d], .int .i64 p] w fun e' w' => e' = .returned (.tuple #[.agg #[.int .i64 x, .int .i64 y], .int .i64 e]) ∧ Below w.heap.size w w' := by
  have h1 : (R == d - R) = true := by simpa using h
  have h2 : ¬ d - R < R := by omega
  have h3 : bits .and .i64 Q 1 = 1 := by rw [and_one_int, ho]
  clear h ho
  have HV := Lib.hid hV
  have HBe := Lib.hid hBe
  have HM := Lib.hid hM
  clear hV hBe hM
  obtain ⟨⟨c0, c1⟩, t, hb, hz⟩ := box1_facts w n d
  have HT := Lib.hid t
  have HB := Lib.hid hb
  have HZ := Lib.hid hz
  have HC := Lib.hid (And.intro c0 c1)
  clear t hb hz
  unfold box1 at c0 c1 HT HB HZ HC
  go_enter Tryd.func21, Tryd.ntmps21
  go_wp2_with fail
  generalize (w.alloc (.cells #[.int .i64 n, .int .i64 d] 25)).alloc (.cells #[.int .i64 0, .int .i64 0] 25) = w0 at *
  refine (HV.out _).mono ?_
  rintro e' w1 ⟨rfl, hb1⟩
  have hz := HZ.out
  have hs1 := hb1.size
  have HT1 := Lib.hid (there_below HT.out hb1 (by omega))
  have HB1 := Lib.hid (HB.out.trans (hb1.mono (by omega)))
  have HC1 := Lib.hid (cells2_below HC.out hb1 (by omega))
  have HZ1 : Hid (w.heap.size + 2 ≤ w1.heap.size) := Lib.hid (by omega)
  clear hb1 c0 c1 hz hs1
  obtain ⟨c0, c1⟩ := HC1.out
  go_wp2_with fail
  refine (HBe.out _).mono ?_
  rintro e' w2 ⟨rfl, hb2⟩
  have hz1 := HZ1.out
  have hs2 := hb2.size
  have HT2 := Lib.hid (there_below HT1.out hb2 (by omega))
  have HB2 := Lib.hid (HB1.out.trans (hb2.mono (by omega)))
  have HZ2 : Hid (w.heap.size + 2 ≤ w2.heap.size) := Lib.hid (by omega)
  clear c0 c1
  obtain ⟨c0, c1⟩ := cells2_below HC1.out hb2 (by omega)
  clear hb2 hz1 hs2
  go_wp2_with fail
  refine (HM.out _).mono ?_
  rintro e' w3 ⟨rfl, hb3⟩
  have hz2 := HZ2.out
  have HT3 := Lib.hid (there_below HT2.out hb3 (by omega))
  have HB3 := Lib.hid (HB2.out.trans (hb3.mono (by omega)))
  clear hb3 hz2 c0 c1
  have t := HT3.out
  have k0 := (t 0 (by omega)).2
  have k1 := (t 1 (by omega)).2
  have d0 := there_cell t 0 (by omega)
  have d1 := there_cell t 1 (by omega)
  rw [Nat.zero_add] at k0 k1 d0 d1
  have r : w3.rangeAt (w.heap.size + 1) 0 [valAt w3 ⟨w.heap.size + 1, 0, none⟩, valAt w3 ⟨w.heap.size + 1, 1, none⟩] := fun j u hj => by
    match j, hj with
    | 0, hj => simp at hj; subst hj; simpa using d0
    | 1, hj => simp at hj; subst hj; simpa using d1
  have HR6 := Lib.hid (rangeAt_set (rangeAt_set r 0 (.int .i64 x)) 1 (.int .i64 y))
  have HB6 := Lib.hid ((HB3.out.setCell (p := ⟨w.heap.size + 1, 0, none⟩) (by simp) (.int .i64 x)).setCell (p := ⟨w.heap.size + 1, 1, none⟩) (by simp) (.int .i64 y))
  clear t r
  go_wp2_with fail
  exact bodyPost_ret (results_cell_tmp_mid Tryd.results21 _ _ (w.heap.size + 1) 0 [.int .i64 x, .int .i64 y] _ rfl HR6.out Tryd.underlying25 rfl (by kernel_rfl)) rfl ⟨rfl, HB6.out⟩
set_option maxHeartbeats 1000000 in
theorem Round_mid0 (n d p Q R x y e : Int) (w : World)
    (hV : ∀ w, Calls Tryd.prog 15 #[.agg #[.int .i64 n, .int .i64 d]] w fun e w' => e = .returned (.bool true) ∧ Below w.heap.size w w') (hp : 1 ≤ p) (hp2 : p ≤ 1000000) (m1 : wrap64 (n * p) = n * p) (hR0 : 0 ≤ R) (hRd : R < d) (hd : d ≤ 1000000)
    (hBe : ∀ w, Calls Tryd.prog 44 #[.int .i64 (n * p), .int .i64 d] w fun e w' => e = .returned (.tuple #[.int .i64 Q, .int .i64 R]) ∧ Below w.heap.size w w')
    (hM : ∀ w, Calls Tryd.prog 13 #[.int .i64 Q, .int .i64 p] w fun e' w' => e' = .returned (.tuple #[.agg #[.int .i64 x, .int .i64 y], .int .i64 e]) ∧ Below w.heap.size w w') (h : R = d - R) (ho : Q % 2 = 0) :
    Calls Tryd.prog 21 #[.agg #[.int .i64 n, .int .i64 d], .int .i64 p] w fun e' w' => e' = .returned (.tuple #[.agg #[.int .i64 x, .int .i64 y], .int .i64 e]) ∧ Below w.heap.size w w' := by
  have h1 : (R == d - R) = true := by simpa using h
  have h2 : ¬ d - R < R := by omega
  have h3 : bits .and .i64 Q 1 = 0 := by rw [and_one_int, ho]
  clear h ho
  have HV := Lib.hid hV
  have HBe := Lib.hid hBe
  have HM := Lib.hid hM
  clear hV hBe hM
  obtain ⟨⟨c0, c1⟩, t, hb, hz⟩ := box1_facts w n d
  have HT := Lib.hid t
  have HB := Lib.hid hb
  have HZ := Lib.hid hz
  have HC := Lib.hid (And.intro c0 c1)
  clear t hb hz
  unfold box1 at c0 c1 HT HB HZ HC
  go_enter Tryd.func21, Tryd.ntmps21
  go_wp2_with fail
  generalize (w.alloc (.cells #[.int .i64 n, .int .i64 d] 25)).alloc (.cells #[.int .i64 0, .int .i64 0] 25) = w0 at *
  refine (HV.out _).mono ?_
  rintro e' w1 ⟨rfl, hb1⟩
  have hz := HZ.out
  have hs1 := hb1.size
  have HT1 := Lib.hid (there_below HT.out hb1 (by omega))
  have HB1 := Lib.hid (HB.out.trans (hb1.mono (by omega)))
  have HC1 := Lib.hid (cells2_below HC.out hb1 (by omega))
  have HZ1 : Hid (w.heap.size + 2 ≤ w1.heap.size) := Lib.hid (by omega)
  clear hb1 c0 c1 hz hs1
  obtain ⟨c0, c1⟩ := HC1.out
  go_wp2_with fail
  refine (HBe.out _).mono ?_
  rintro e' w2 ⟨rfl, hb2⟩
  have hz1 := HZ1.out
  have hs2 := hb2.size
  have HT2 := Lib.hid (there_below HT1.out hb2 (by omega))
  have HB2 := Lib.hid (HB1.out.trans (hb2.mono (by omega)))
  have HZ2 : Hid (w.heap.size + 2 ≤ w2.heap.size) := Lib.hid (by omega)
  clear c0 c1
  obtain ⟨c0, c1⟩ := cells2_below HC1.out hb2 (by omega)
  clear hb2 hz1 hs2
  go_wp2_with fail
  refine (HM.out _).mono ?_
  rintro e' w3 ⟨rfl, hb3⟩
  have hz2 := HZ2.out
  have HT3 := Lib.hid (there_below HT2.out hb3 (by omega))
  have HB3 := Lib.hid (HB2.out.trans (hb3.mono (by omega)))
  clear hb3 hz2 c0 c1
  have t := HT3.out
  have k0 := (t 0 (by omega)).2
  have k1 := (t 1 (by omega)).2
  have d0 := there_cell t 0 (by omega)
  have d1 := there_cell t 1 (by omega)
  rw [Nat.zero_add] at k0 k1 d0 d1
  have r : w3.rangeAt (w.heap.size + 1) 0 [valAt w3 ⟨w.heap.size + 1, 0, none⟩, valAt w3 ⟨w.heap.size + 1, 1, none⟩] := fun j u hj => by
    match j, hj with
    | 0, hj => simp at hj; subst hj; simpa using d0
    | 1, hj => simp at hj; subst hj; simpa using d1
  have HR6 := Lib.hid (rangeAt_set (rangeAt_set r 0 (.int .i64 x)) 1 (.int .i64 y))
  have HB6 := Lib.hid ((HB3.out.setCell (p := ⟨w.heap.size + 1, 0, none⟩) (by simp) (.int .i64 x)).setCell (p := ⟨w.heap.size + 1, 1, none⟩) (by simp) (.int .i64 y))
  clear t r
  go_wp2_with fail
  exact bodyPost_ret (results_cell_tmp_mid Tryd.results21 _ _ (w.heap.size + 1) 0 [.int .i64 x, .int .i64 y] _ rfl HR6.out Tryd.underlying25 rfl (by kernel_rfl)) rfl ⟨rfl, HB6.out⟩
set_option maxHeartbeats 1000000 in
theorem Round_down (n d p Q R x y e : Int) (w : World)
    (hV : ∀ w, Calls Tryd.prog 15 #[.agg #[.int .i64 n, .int .i64 d]] w fun e w' => e = .returned (.bool true) ∧ Below w.heap.size w w') (hp : 1 ≤ p) (hp2 : p ≤ 1000000) (m1 : wrap64 (n * p) = n * p) (hR0 : 0 ≤ R) (hRd : R < d) (hd : d ≤ 1000000)
    (hBe : ∀ w, Calls Tryd.prog 44 #[.int .i64 (n * p), .int .i64 d] w fun e w' => e = .returned (.tuple #[.int .i64 Q, .int .i64 R]) ∧ Below w.heap.size w w')
    (hM : ∀ w, Calls Tryd.prog 13 #[.int .i64 Q, .int .i64 p] w fun e' w' => e' = .returned (.tuple #[.agg #[.int .i64 x, .int .i64 y], .int .i64 e]) ∧ Below w.heap.size w w') (h : R < d - R) :
    Calls Tryd.prog 21 #[.agg #[.int .i64 n, .int .i64 d], .int .i64 p] w fun e' w' => e' = .returned (.tuple #[.agg #[.int .i64 x, .int .i64 y], .int .i64 e]) ∧ Below w.heap.size w w' := by
  have h1 : (R == d - R) = false := by simp; omega
  have h2 : ¬ d - R < R := by omega
  clear h
  have HV := Lib.hid hV
  have HBe := Lib.hid hBe
  have HM := Lib.hid hM
  clear hV hBe hM
  obtain ⟨⟨c0, c1⟩, t, hb, hz⟩ := box1_facts w n d
  have HT := Lib.hid t
  have HB := Lib.hid hb
  have HZ := Lib.hid hz
  have HC := Lib.hid (And.intro c0 c1)
  clear t hb hz
  unfold box1 at c0 c1 HT HB HZ HC
  go_enter Tryd.func21, Tryd.ntmps21
  go_wp2_with fail
  generalize (w.alloc (.cells #[.int .i64 n, .int .i64 d] 25)).alloc (.cells #[.int .i64 0, .int .i64 0] 25) = w0 at *
  refine (HV.out _).mono ?_
  rintro e' w1 ⟨rfl, hb1⟩
  have hz := HZ.out
  have hs1 := hb1.size
  have HT1 := Lib.hid (there_below HT.out hb1 (by omega))
  have HB1 := Lib.hid (HB.out.trans (hb1.mono (by omega)))
  have HC1 := Lib.hid (cells2_below HC.out hb1 (by omega))
  have HZ1 : Hid (w.heap.size + 2 ≤ w1.heap.size) := Lib.hid (by omega)
  clear hb1 c0 c1 hz hs1
  obtain ⟨c0, c1⟩ := HC1.out
  go_wp2_with fail
  refine (HBe.out _).mono ?_
  rintro e' w2 ⟨rfl, hb2⟩
  have hz1 := HZ1.out
  have hs2 := hb2.size
  have HT2 := Lib.hid (there_below HT1.out hb2 (by omega))
  have HB2 := Lib.hid (HB1.out.trans (hb2.mono (by omega)))
  have HZ2 : Hid (w.heap.size + 2 ≤ w2.heap.size) := Lib.hid (by omega)
  clear c0 c1
  obtain ⟨c0, c1⟩ := cells2_below HC1.out hb2 (by omega)
  clear hb2 hz1 hs2
  go_wp2_with fail
  refine (HM.out _).mono ?_
  rintro e' w3 ⟨rfl, hb3⟩
  have hz2 := HZ2.out
  have HT3 := Lib.hid (there_below HT2.out hb3 (by omega))
  have HB3 := Lib.hid (HB2.out.trans (hb3.mono (by omega)))
  clear hb3 hz2 c0 c1
  have t := HT3.out
  have k0 := (t 0 (by omega)).2
  have k1 := (t 1 (by omega)).2
  have d0 := there_cell t 0 (by omega)
  have d1 := there_cell t 1 (by omega)
  rw [Nat.zero_add] at k0 k1 d0 d1
  have r : w3.rangeAt (w.heap.size + 1) 0 [valAt w3 ⟨w.heap.size + 1, 0, none⟩, valAt w3 ⟨w.heap.size + 1, 1, none⟩] := fun j u hj => by
    match j, hj with
    | 0, hj => simp at hj; subst hj; simpa using d0
    | 1, hj => simp at hj; subst hj; simpa using d1
  have HR6 := Lib.hid (rangeAt_set (rangeAt_set r 0 (.int .i64 x)) 1 (.int .i64 y))
  have HB6 := Lib.hid ((HB3.out.setCell (p := ⟨w.heap.size + 1, 0, none⟩) (by simp) (.int .i64 x)).setCell (p := ⟨w.heap.size + 1, 1, none⟩) (by simp) (.int .i64 y))
  clear t r
  go_wp2_with fail
  exact bodyPost_ret (results_cell_tmp_mid Tryd.results21 _ _ (w.heap.size + 1) 0 [.int .i64 x, .int .i64 y] _ rfl HR6.out Tryd.underlying25 rfl (by kernel_rfl)) rfl ⟨rfl, HB6.out⟩

/-- The numerator of the rounded ratio, before it is reduced. -/
@[irreducible] def rnd (n d p : Int) : Int := if d - n * p % d < n * p % d ∨ (n * p % d = d - n * p % d ∧ n * p / d % 2 = 1) then n * p / d + 1 else n * p / d
theorem rnd_eq (n d p : Int) : rnd n d p = if d - n * p % d < n * p % d ∨ (n * p % d = d - n * p % d ∧ n * p / d % 2 = 1) then n * p / d + 1 else n * p / d := by unfold rnd; rfl
theorem Round_bad (n d p : Int) (w : World) (hn : I64 n) (hd : I64 d) (h : ¬ (vld n d = true ∧ 1 ≤ p ∧ p ≤ 1000000)) :
    Calls Tryd.prog 21 #[.agg #[.int .i64 n, .int .i64 d], .int .i64 p] w fun e' w' => e' = .returned (.tuple #[.agg #[.int .i64 0, .int .i64 0], .int .i64 1]) ∧ Below w.heap.size w w' := by
  rcases h1 : vld n d with _ | _
  · exact Round_bad1 n d p w (V_no hn hd h1)
  · by_cases h2 : p < 1
    · exact Round_bad2 n d p w (V_yes hn hd h1) h2
    · exact Round_bad3 n d p w (V_yes hn hd h1) (by omega) (by simp only [h1, true_and] at h; omega)
/-- Round at a valid ratio. -/
theorem Round_ok (q : Rat) (p : Int) (w : World) (hq : Rok q) (h1 : 1 ≤ p) (h2 : p ≤ 1000000) :
    Calls Tryd.prog 21 #[.agg #[.int .i64 q.num, .int .i64 q.den], .int .i64 p] w fun e' w' =>
      e' = .returned (.tuple #[.agg #[.int .i64 (resN (Rat.divInt (rnd q.num q.den p) p)), .int .i64 (resD (Rat.divInt (rnd q.num q.den p) p))], .int .i64 (resE (Rat.divInt (rnd q.num q.den p) p))]) ∧ Below w.heap.size w w' := by
  have hq1 := hq.1
  have hq2 := hq.2
  have hd0 := q.den_nz
  have b1 := mul_bd (x := q.num) (y := p) hq1 (by omega : p.natAbs ≤ 1000000)
  have m1 := wrap_abs b1 (by omega)
  have c1 : q.num * p % q.den < q.den := Int.emod_lt_of_pos _ (by omega)
  have c2 : 0 ≤ q.num * p % q.den := Int.emod_nonneg _ (by omega)
  have c3 : (q.num * p / q.den).natAbs ≤ 1000000000000000000 := Nat.le_trans (Int.natAbs_ediv_le_natAbs _ _) b1
  have hBe := fun w => below_any (q.num * p) q.den w (by omega) (by omega) b1
  rw [rnd_eq]
  by_cases h : (q.den : Int) - q.num * p % q.den < q.num * p % q.den
  · rw [if_pos (.inl h)]
    exact Round_up _ _ p _ _ _ _ _ w (V_ok hq) h1 h2 m1 c2 c1 (by omega) hBe (fun w => Make_any _ p w (by omega) (by omega) (by omega) (by omega) (by omega)) (by omega) (by omega) h
  · by_cases h3 : q.num * p % q.den = q.den - q.num * p % q.den
    · by_cases h4 : q.num * p / q.den % 2 = 1
      · rw [if_pos (.inr ⟨h3, h4⟩)]
        exact Round_mid1 _ _ p _ _ _ _ _ w (V_ok hq) h1 h2 m1 c2 c1 (by omega) hBe (fun w => Make_any _ p w (by omega) (by omega) (by omega) (by omega) (by omega)) (by omega) (by omega) h3 h4
      · rw [if_neg (fun x => x.elim h fun y => h4 y.2)]
        exact Round_mid0 _ _ p _ _ _ _ _ w (V_ok hq) h1 h2 m1 c2 c1 (by omega) hBe (fun w => Make_any _ p w (by omega) (by omega) (by omega) (by omega) (by omega)) h3 (by omega)
    · rw [if_neg (fun x => x.elim h fun y => h3 y.1)]
      exact Round_down _ _ p _ _ _ _ _ w (V_ok hq) h1 h2 m1 c2 c1 (by omega) hBe (fun w => Make_any _ p w (by omega) (by omega) (by omega) (by omega) (by omega)) (by omega)
end Go.Proofs.YtfcdoifijgbjeaaDoor
