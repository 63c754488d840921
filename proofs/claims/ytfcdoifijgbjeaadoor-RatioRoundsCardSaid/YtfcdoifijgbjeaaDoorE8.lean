/- Layer 01: Add, Sub, Mul, Div at every pair of ratios. -/
import Derived.Test.YtfcdoifijgbjeaaDoorE7
namespace Go.Proofs.YtfcdoifijgbjeaaDoor
open Go.RowKit

/-- An integer that fits. -/
def I64 (x : Int) : Prop := -9223372036854775808 ≤ x ∧ x ≤ 9223372036854775807
theorem mul_bd {x y : Int} {a b : Nat} (hx : x.natAbs ≤ a) (hy : y.natAbs ≤ b) : (x * y).natAbs ≤ a * b := by
  rw [Int.natAbs_mul]; exact Nat.mul_le_mul hx hy
theorem wrap_abs {x : Int} {a : Nat} (h : x.natAbs ≤ a) (ha : a ≤ 9223372036854775807) : wrap64 x = x := by unfold wrap64; omega
theorem Rok_i64 {q : Rat} (h : Rok q) : I64 q.num ∧ I64 q.den := by
  obtain ⟨h1, h2⟩ := h
  unfold I64; omega
theorem V_ok {q : Rat} (h : Rok q) (w : World) : Calls Tryd.prog 15 #[.agg #[.int .i64 q.num, .int .i64 q.den]] w fun e w' => e = .returned (.bool true) ∧ Below w.heap.size w w' :=
  Valid_is _ _ _ w (Rok_i64 h).1.1 (Rok_i64 h).1.2 (Rok_i64 h).2.1 (Rok_i64 h).2.2 (vld_of q h)
theorem V_no {n d : Int} (hn : I64 n) (hd : I64 d) (h : vld n d = false) (w : World) : Calls Tryd.prog 15 #[.agg #[.int .i64 n, .int .i64 d]] w fun e w' => e = .returned (.bool false) ∧ Below w.heap.size w w' :=
  Valid_is _ _ _ w hn.1 hn.2 hd.1 hd.2 h
theorem V_yes {n d : Int} (hn : I64 n) (hd : I64 d) (h : vld n d = true) (w : World) : Calls Tryd.prog 15 #[.agg #[.int .i64 n, .int .i64 d]] w fun e w' => e = .returned (.bool true) ∧ Below w.heap.size w w' :=
  Valid_is _ _ _ w hn.1 hn.2 hd.1 hd.2 h

/-- What comes of two ratios of which one is not valid. -/
theorem on_bad (an ad bn bd : Int) (fv : Value) (w : World) (ha : I64 an) (ha' : I64 ad) (hb : I64 bn) (hb' : I64 bd) (h : ¬ (vld an ad = true ∧ vld bn bd = true)) :
    Calls Tryd.prog 40 #[.agg #[.int .i64 an, .int .i64 ad], .agg #[.int .i64 bn, .int .i64 bd], fv] w fun e' w' => e' = .returned (.tuple #[.agg #[.int .i64 0, .int .i64 0], .int .i64 1]) ∧ Below w.heap.size w w' := by
  rcases h1 : vld an ad with _ | _
  · exact on_bad1 an ad bn bd fv w (V_no ha ha' h1)
  · rcases h2 : vld bn bd with _ | _
    · exact on_bad2 an ad bn bd fv w (V_yes ha ha' h1) (V_no hb hb' h2)
    · exact absurd ⟨h1, h2⟩ h

theorem Add_bad (an ad bn bd : Int) (w : World) (ha : I64 an) (ha' : I64 ad) (hb : I64 bn) (hb' : I64 bd) (h : ¬ (vld an ad = true ∧ vld bn bd = true)) :
    Calls Tryd.prog 17 #[.agg #[.int .i64 an, .int .i64 ad], .agg #[.int .i64 bn, .int .i64 bd]] w fun e' w' => e' = .returned (.tuple #[.agg #[.int .i64 0, .int .i64 0], .int .i64 1]) ∧ Below w.heap.size w w' :=
  Add_walk an ad bn bd 0 0 1 w fun w' _ _ _ => on_bad an ad bn bd _ w' ha ha' hb hb' h
theorem Mul_bad (an ad bn bd : Int) (w : World) (ha : I64 an) (ha' : I64 ad) (hb : I64 bn) (hb' : I64 bd) (h : ¬ (vld an ad = true ∧ vld bn bd = true)) :
    Calls Tryd.prog 18 #[.agg #[.int .i64 an, .int .i64 ad], .agg #[.int .i64 bn, .int .i64 bd]] w fun e' w' => e' = .returned (.tuple #[.agg #[.int .i64 0, .int .i64 0], .int .i64 1]) ∧ Below w.heap.size w w' :=
  Mul_walk an ad bn bd 0 0 1 w fun w' _ _ _ => on_bad an ad bn bd _ w' ha ha' hb hb' h
theorem Div_bad (an ad bn bd : Int) (w : World) (ha : I64 an) (ha' : I64 ad) (hb : I64 bn) (hb' : I64 bd) (h : ¬ (vld an ad = true ∧ vld bn bd = true)) :
    Calls Tryd.prog 31 #[.agg #[.int .i64 an, .int .i64 ad], .agg #[.int .i64 bn, .int .i64 bd]] w fun e' w' => e' = .returned (.tuple #[.agg #[.int .i64 0, .int .i64 0], .int .i64 1]) ∧ Below w.heap.size w w' :=
  Div_walk an ad bn bd 0 0 1 w fun w' _ _ _ => on_bad an ad bn bd _ w' ha ha' hb hb' h

theorem cells2_keep {w w' : World} {n : Nat} {a b : Value} (hs : n < w.heap.size) (hb : Below w.heap.size w w') (h : w.cell? ⟨n, 0, none⟩ = some a ∧ w.cell? ⟨n, 1, none⟩ = some b) : w'.cell? ⟨n, 0, none⟩ = some a ∧ w'.cell? ⟨n, 1, none⟩ = some b := cells2_below h hb hs

theorem Add_ok (p q : Rat) (w : World) (hp : Rok p) (hq : Rok q) :
    Calls Tryd.prog 17 #[.agg #[.int .i64 p.num, .int .i64 p.den], .agg #[.int .i64 q.num, .int .i64 q.den]] w fun e' w' =>
      e' = .returned (.tuple #[.agg #[.int .i64 (resN (p + q)), .int .i64 (resD (p + q))], .int .i64 (resE (p + q))]) ∧ Below w.heap.size w w' := by
  have hp1 := hp.1
  have hp2 := hp.2
  have hq1 := hq.1
  have hq2 := hq.2
  have b1 := mul_bd (x := p.num) (y := (q.den : Int)) hp1 (by omega : ((q.den : Int)).natAbs ≤ 1000000)
  have b2 := mul_bd (x := q.num) (y := (p.den : Int)) hq1 (by omega : ((p.den : Int)).natAbs ≤ 1000000)
  have b3 := mul_bd (x := (p.den : Int)) (y := (q.den : Int)) (by omega : ((p.den : Int)).natAbs ≤ 1000000) (by omega : ((q.den : Int)).natAbs ≤ 1000000)
  have n1 : (p.den : Int) * (q.den : Int) ≠ 0 := Int.mul_ne_zero (by have := p.den_nz; omega) (by have := q.den_nz; omega)
  refine Add_walk _ _ _ _ _ _ _ w fun w' hs ca cb => on_Add _ _ _ _ _ _ _ _ _ w' (V_ok hp) (V_ok hq) fun w'' hb => ?_
  have hs2 := hb.size
  refine Add1 _ _ _ _ _ _ _ _ _ w'' (by omega) (by omega) (cells2_keep (by omega) hb ca) (cells2_keep (by omega) hb cb) (wrap_abs b1 (by omega)) (wrap_abs b2 (by omega)) ?_ (wrap_abs b3 (by omega)) fun w => ?_
  · generalize p.num * (q.den : Int) = X at *
    generalize q.num * (p.den : Int) = Y at *
    unfold wrap64; omega
  · have h := Make_any (p.num * q.den + q.num * p.den) (p.den * q.den) w n1
    rw [q_add] at h
    generalize p.num * (q.den : Int) = X at *
    generalize q.num * (p.den : Int) = Y at *
    generalize (p.den : Int) * (q.den : Int) = Z at *
    exact h (by omega) (by omega) (by omega) (by omega)
theorem Mul_ok (p q : Rat) (w : World) (hp : Rok p) (hq : Rok q) :
    Calls Tryd.prog 18 #[.agg #[.int .i64 p.num, .int .i64 p.den], .agg #[.int .i64 q.num, .int .i64 q.den]] w fun e' w' =>
      e' = .returned (.tuple #[.agg #[.int .i64 (resN (p * q)), .int .i64 (resD (p * q))], .int .i64 (resE (p * q))]) ∧ Below w.heap.size w w' := by
  have hq1 := hq.1
  have hq2 := hq.2
  refine Mul_walk _ _ _ _ _ _ _ w fun w' hs ca cb => on_Mul _ _ _ _ _ _ _ _ _ w' (V_ok hp) (V_ok hq) fun w'' hb => ?_
  have hs2 := hb.size
  refine Mul1 _ _ _ _ _ _ _ _ _ w'' (by omega) (by omega) (cells2_keep (by omega) hb ca) (cells2_keep (by omega) hb cb) fun w => ?_
  have h := product_any p q.num q.den w hp hq1 (by omega) (by have := q.den_nz; omega) (by rw [Int.natAbs_natCast]; exact q.reduced)
  rw [Rat.num_divInt_den] at h
  exact h
theorem Div_ok (p q : Rat) (w : World) (hp : Rok p) (hq : Rok q) (h0 : q.num ≠ 0) :
    Calls Tryd.prog 31 #[.agg #[.int .i64 p.num, .int .i64 p.den], .agg #[.int .i64 q.num, .int .i64 q.den]] w fun e' w' =>
      e' = .returned (.tuple #[.agg #[.int .i64 (resN (p * q⁻¹)), .int .i64 (resD (p * q⁻¹))], .int .i64 (resE (p * q⁻¹))]) ∧ Below w.heap.size w w' := by
  have hq1 := hq.1
  have hq2 := hq.2
  refine Div_walk _ _ _ _ _ _ _ w fun w' hs ca cb => on_Div _ _ _ _ _ _ _ _ _ w' (V_ok hp) (V_ok hq) fun w'' hb => ?_
  have hs2 := hb.size
  refine Div1 _ _ _ _ _ _ _ _ _ w'' (by omega) (by omega) (cells2_keep (by omega) hb ca) (cells2_keep (by omega) hb cb) (by simp [h0]) fun w => ?_
  have h := product_any p q.den q.num w hp (by omega) hq1 h0 (by rw [Int.natAbs_natCast, Nat.gcd_comm]; exact q.reduced)
  rw [q_inv] at h
  exact h
theorem Div_zero (p q : Rat) (w : World) (hp : Rok p) (hq : Rok q) (h0 : q.num = 0) :
    Calls Tryd.prog 31 #[.agg #[.int .i64 p.num, .int .i64 p.den], .agg #[.int .i64 q.num, .int .i64 q.den]] w fun e' w' =>
      e' = .returned (.tuple #[.agg #[.int .i64 0, .int .i64 0], .int .i64 1]) ∧ Below w.heap.size w w' := by
  refine Div_walk _ _ _ _ _ _ _ w fun w' hs ca cb => on_Div _ _ _ _ _ _ _ _ _ w' (V_ok hp) (V_ok hq) fun w'' hb => ?_
  have hs2 := hb.size
  exact Div1_zero _ _ _ _ _ _ w'' (by omega) (by omega) (cells2_keep (by omega) hb ca) (cells2_keep (by omega) hb cb) h0

set_option maxHeartbeats 1000000 in
theorem Sub_walk (an ad bn bd m x y e : Int) (w : World) (hm : wrap64 (-bn) = m)
    (hF : ∀ w', Calls Tryd.prog 17 #[.agg #[.int .i64 an, .int .i64 ad], .agg #[.int .i64 m, .int .i64 bd]] w' fun e' w'' => e' = .returned (.tuple #[.agg #[.int .i64 x, .int .i64 y], .int .i64 e]) ∧ Below w'.heap.size w' w'') :
    Calls Tryd.prog 28 #[.agg #[.int .i64 an, .int .i64 ad], .agg #[.int .i64 bn, .int .i64 bd]] w fun e' w' => e' = .returned (.tuple #[.agg #[.int .i64 x, .int .i64 y], .int .i64 e]) ∧ Below w.heap.size w w' := by
  have HF := Lib.hid hF
  clear hF
  obtain ⟨⟨c0, c1⟩, ⟨c2, c3⟩, t, _, hb, hz⟩ := box3_facts w an ad bn bd
  have HT := Lib.hid t
  have HB := Lib.hid hb
  have HZ := Lib.hid hz
  clear t hb hz
  unfold box3 at c0 c1 c2 c3 HT HB HZ
  go_enter Tryd.func28, Tryd.ntmps28
  go_wp2_with fail
  generalize ((w.alloc (.cells #[.int .i64 an, .int .i64 ad] 25)).alloc (.cells #[.int .i64 bn, .int .i64 bd] 25)).alloc (.cells #[.int .i64 0, .int .i64 0] 25) = w0 at *
  refine (HF.out _).mono ?_
  rintro e' w1 ⟨rfl, hb1⟩
  have hz := HZ.out
  have t := there_below HT.out hb1 (by omega)
  have hb := HB.out.trans (hb1.mono (by omega))
  clear hb1 c0 c1 c2 c3 hz hm
  have k0 := (t 0 (by omega)).2
  have k1 := (t 1 (by omega)).2
  have d0 := there_cell t 0 (by omega)
  have d1 := there_cell t 1 (by omega)
  rw [Nat.zero_add] at k0 k1 d0 d1
  have r : w1.rangeAt (w.heap.size + 2) 0 [valAt w1 ⟨w.heap.size + 2, 0, none⟩, valAt w1 ⟨w.heap.size + 2, 1, none⟩] := fun j u hj => by
    match j, hj with
    | 0, hj => simp at hj; subst hj; simpa using d0
    | 1, hj => simp at hj; subst hj; simpa using d1
  have HR6 := Lib.hid (rangeAt_set (rangeAt_set r 0 (.int .i64 x)) 1 (.int .i64 y))
  have HB6 := Lib.hid ((hb.setCell (p := ⟨w.heap.size + 2, 0, none⟩) (by simp) (.int .i64 x)).setCell (p := ⟨w.heap.size + 2, 1, none⟩) (by simp) (.int .i64 y))
  clear t r hb
  go_wp2_with fail
  exact bodyPost_ret (results_cell_tmp_mid Tryd.results28 _ _ (w.heap.size + 2) 0 [.int .i64 x, .int .i64 y] _ rfl HR6.out Tryd.underlying25 rfl (by kernel_rfl)) rfl ⟨rfl, HB6.out⟩

theorem vld_neg (n d : Int) (hn : I64 n) : vld (wrap64 (-n)) d = vld n d ∧ I64 (wrap64 (-n)) := by
  unfold I64 at *
  have e : (wrap64 (-n)).natAbs = n.natAbs := by unfold wrap64; omega
  exact ⟨by rw [vld_eq, vld_eq, e], by unfold wrap64; omega⟩
theorem Rok_neg {q : Rat} (h : Rok q) : Rok (-q) := by
  unfold Rok at *
  rw [Rat.neg_num, Rat.neg_den, Int.natAbs_neg]; exact h
theorem Sub_bad (an ad bn bd : Int) (w : World) (ha : I64 an) (ha' : I64 ad) (hb : I64 bn) (hb' : I64 bd) (h : ¬ (vld an ad = true ∧ vld bn bd = true)) :
    Calls Tryd.prog 28 #[.agg #[.int .i64 an, .int .i64 ad], .agg #[.int .i64 bn, .int .i64 bd]] w fun e' w' => e' = .returned (.tuple #[.agg #[.int .i64 0, .int .i64 0], .int .i64 1]) ∧ Below w.heap.size w w' := by
  obtain ⟨e, hi⟩ := vld_neg bn bd hb
  exact Sub_walk an ad bn bd _ 0 0 1 w rfl fun w' => Add_bad an ad _ bd w' ha ha' hi hb' (by rw [e]; exact h)
theorem Sub_ok (p q : Rat) (w : World) (hp : Rok p) (hq : Rok q) :
    Calls Tryd.prog 28 #[.agg #[.int .i64 p.num, .int .i64 p.den], .agg #[.int .i64 q.num, .int .i64 q.den]] w fun e' w' =>
      e' = .returned (.tuple #[.agg #[.int .i64 (resN (p + -q)), .int .i64 (resD (p + -q))], .int .i64 (resE (p + -q))]) ∧ Below w.heap.size w w' := by
  have hq1 := hq.1
  refine Sub_walk _ _ _ _ (-q).num _ _ _ w (by rw [Rat.neg_num]; unfold wrap64; omega) fun w' => ?_
  have h := Add_ok p (-q) w' hp (Rok_neg hq)
  rw [Rat.neg_den] at h
  exact h
end Go.Proofs.YtfcdoifijgbjeaaDoor
