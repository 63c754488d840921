/- RatioFloor: the walk. -/
import Derived.Test.YtfcdoifijgbjeaaDoorEH
namespace Go.Proofs.YtfcdoifijgbjeaaDoor
open Go.RowKit

/-- An integer as a rational number. -/
def ofI (m : Int) : Rat := ⟨m, 1, by decide, Nat.coprime_one_right _⟩
theorem ofI_ok {m : Int} (h : m.natAbs ≤ 1000000000000) : Rok (ofI m) := ⟨h, by show 1 ≤ 1000000; decide⟩
theorem keepS1 {w0 w w' : World} {n0 : Nat} {a0 b0 : Value} (l : n0 < w0.heap.size) (hb : Below w.heap.size w w') (h : (w.cell? ⟨n0, 0, none⟩ = some a0 ∧ w.cell? ⟨n0, 1, none⟩ = some b0) ∧ Below w0.heap.size w0 w) :
    (w'.cell? ⟨n0, 0, none⟩ = some a0 ∧ w'.cell? ⟨n0, 1, none⟩ = some b0) ∧ Below w0.heap.size w0 w' := ⟨cells2_below h.1 hb (by have := h.2.size; omega), h.2.trans (hb.mono h.2.size)⟩
theorem add_int (q : Rat) (m : Int) : (q + ofI m).num = q.num + m * q.den ∧ ((q + ofI m).den : Int) = q.den := by
  have hc : Nat.Coprime (q.num + m * q.den).natAbs q.den := by
    have : Int.gcd (q.num + m * q.den) q.den = Int.gcd q.num q.den := by simp
    have h2 : Int.gcd q.num q.den = 1 := q.reduced
    rw [h2] at this
    exact this
  have e : q + ofI m = ⟨q.num + m * q.den, q.den, q.den_nz, hc⟩ := by
    rw [← q_add]
    have h := Rat.num_divInt_den ⟨q.num + m * q.den, q.den, q.den_nz, hc⟩
    rw [← h]
    show Rat.divInt (q.num * 1 + m * q.den) (q.den * 1) = Rat.divInt (q.num + m * q.den) q.den
    rw [Int.mul_one, Int.mul_one]
  rw [e]
  exact ⟨rfl, rfl⟩
/-- Two cells of a block, free to be written. -/
theorem fresh2 {w w' : World} {t : TypeId} {a b : Value} (hb : Below (w.alloc (.cells #[a, b] t)).heap.size (w.alloc (.cells #[a, b] t)) w') :
    w'.cell? ⟨w.heap.size, 0, none⟩ = some a ∧ w'.cell? ⟨w.heap.size, 1, none⟩ = some b ∧ w'.frozen? ⟨w.heap.size, 0, none⟩ = false ∧ w'.frozen? ⟨w.heap.size, 1, none⟩ = false := by
  have t0 := there_below (there_new w #[a, b] t 2 (by simp)) hb (by simp)
  obtain ⟨c0, c1⟩ := cells2_below (w := w.alloc (.cells #[a, b] t)) ⟨new0 rfl rfl, new0 rfl rfl⟩ hb (by simp)
  have k0 := (t0 0 (by omega)).2
  have k1 := (t0 1 (by omega)).2
  rw [Nat.zero_add] at k0 k1
  exact ⟨c0, c1, k0, k1⟩
theorem fresh2_step {w w' : World} {n : Nat} {a b : Value} (h : w.cell? ⟨n, 0, none⟩ = some a ∧ w.cell? ⟨n, 1, none⟩ = some b ∧ w.frozen? ⟨n, 0, none⟩ = false ∧ w.frozen? ⟨n, 1, none⟩ = false) (hn : n < w.heap.size) (hb : Below w.heap.size w w') :
    w'.cell? ⟨n, 0, none⟩ = some a ∧ w'.cell? ⟨n, 1, none⟩ = some b ∧ w'.frozen? ⟨n, 0, none⟩ = false ∧ w'.frozen? ⟨n, 1, none⟩ = false :=
  ⟨(hb.cell (p := ⟨n, 0, none⟩) hn).trans h.1, (hb.cell (p := ⟨n, 1, none⟩) hn).trans h.2.1, (hb.frozen (p := ⟨n, 0, none⟩) hn).trans h.2.2.1, (hb.frozen (p := ⟨n, 1, none⟩) hn).trans h.2.2.2⟩
theorem fresh_k {w w' : World} {t : TypeId} {a b : Value} {G : Prop} (hb : Below (w.alloc (.cells #[a, b] t)).heap.size (w.alloc (.cells #[a, b] t)) w')
    (k : w'.cell? ⟨w.heap.size, 0, none⟩ = some a → w'.cell? ⟨w.heap.size, 1, none⟩ = some b → w'.frozen? ⟨w.heap.size, 0, none⟩ = false → w'.frozen? ⟨w.heap.size, 1, none⟩ = false → w.heap.size < w'.heap.size → G) : G := by
  obtain ⟨h1, h2, h3, h4⟩ := fresh2 hb
  exact k h1 h2 h3 h4 (by have := hb.size; simp at this; omega)
theorem fresh_kd {w w' : World} {t : TypeId} {a b : Value} {G : Prop} (hb : Below (w.alloc (.cells #[a, b] t)).drew.heap.size (w.alloc (.cells #[a, b] t)).drew w')
    (k : w'.cell? ⟨w.heap.size, 0, none⟩ = some a → w'.cell? ⟨w.heap.size, 1, none⟩ = some b → w'.frozen? ⟨w.heap.size, 0, none⟩ = false → w'.frozen? ⟨w.heap.size, 1, none⟩ = false → w.heap.size < w'.heap.size → G) : G :=
  fresh_k (w := w) (t := t) (a := a) (b := b) ⟨hb.os, hb.tape, hb.output, hb.size, hb.block⟩ k
theorem fresh_ks {w w' : World} {n : Nat} {a b : Value} {G : Prop} (hb : Below w.heap.size w w') (h1 : w.cell? ⟨n, 0, none⟩ = some a) (h2 : w.cell? ⟨n, 1, none⟩ = some b) (h3 : w.frozen? ⟨n, 0, none⟩ = false) (h4 : w.frozen? ⟨n, 1, none⟩ = false) (h5 : n < w.heap.size)
    (k : w'.cell? ⟨n, 0, none⟩ = some a → w'.cell? ⟨n, 1, none⟩ = some b → w'.frozen? ⟨n, 0, none⟩ = false → w'.frozen? ⟨n, 1, none⟩ = false → n < w'.heap.size → G) : G := by
  obtain ⟨a1, a2, a3, a4⟩ := fresh2_step ⟨h1, h2, h3, h4⟩ h5 hb
  exact k a1 a2 a3 a4 (Nat.lt_of_lt_of_le h5 hb.size)
theorem cell_size {w : World} {a : Addr} {v : Value} (h : w.cell? a = some v) : a.block < w.heap.size := by
  rcases Nat.lt_or_ge a.block w.heap.size with h1 | h1
  · exact h1
  · unfold World.cell? at h; rw [Array.getElem?_eq_none h1] at h; simp at h
theorem keepB {w0 w' : World} {n0 : Nat} {a0 b0 : Value} (l : n0 < w0.heap.size) (c : w0.cell? ⟨n0, 0, none⟩ = some a0 ∧ w0.cell? ⟨n0, 1, none⟩ = some b0) (h : Below w0.heap.size w0 w') :
    (w'.cell? ⟨n0, 0, none⟩ = some a0 ∧ w'.cell? ⟨n0, 1, none⟩ = some b0) ∧ Below w0.heap.size w0 w' := ⟨cells2_below c h l, h⟩
theorem below_last {w0 wa wb : World} (o : Obj) (ha : Below w0.drew.heap.size w0.drew wa) (hb : Below wa.heap.size wa wb) : Below w0.heap.size w0 (wb.alloc o) := by
  have ha' : Below w0.heap.size w0 wa := ⟨ha.os, ha.tape, ha.output, ha.size, ha.block⟩
  exact (ha'.trans (hb.mono ha'.size)).alloc (Nat.le_trans ha'.size hb.size) o
theorem below_mid {w0 wa wb : World} {o : Obj} (u v : Value) (ha : Below w0.drew.heap.size w0.drew wa) (hb : Below (wa.alloc o).heap.size (wa.alloc o) wb) :
    Below w0.heap.size w0 ((wb.setCell ⟨wa.heap.size, 0, none⟩ u).setCell ⟨wa.heap.size, 1, none⟩ v) := by
  have ha' : Below w0.heap.size w0 wa := ⟨ha.os, ha.tape, ha.output, ha.size, ha.block⟩
  have h1 := ha'.alloc ha'.size o
  exact ((h1.trans (hb.mono h1.size)).setCell (p := ⟨wa.heap.size, 0, none⟩) ha'.size u).setCell (p := ⟨wa.heap.size, 1, none⟩) ha'.size v
theorem below_first {w0 wa wb : World} {o : Obj} (u v : Value) (ha : Below (w0.alloc o).drew.heap.size (w0.alloc o).drew wa) (hb : Below wa.heap.size wa wb) :
    Below w0.heap.size w0 ((wb.setCell ⟨w0.heap.size, 0, none⟩ u).setCell ⟨w0.heap.size, 1, none⟩ v) := by
  have ha' : Below (w0.alloc o).heap.size (w0.alloc o) wa := ⟨ha.os, ha.tape, ha.output, ha.size, ha.block⟩
  have h1 := (Below.refl w0.heap.size w0).alloc (Nat.le_refl _) o
  have h2 := h1.trans (ha'.mono h1.size)
  exact ((h2.trans (hb.mono h2.size)).setCell (p := ⟨w0.heap.size, 0, none⟩) (Nat.le_refl _) u).setCell (p := ⟨w0.heap.size, 1, none⟩) (Nat.le_refl _) v
theorem C2_set {w : World} {n : Nat} {x y a b : Value} (h1 : w.cell? ⟨n, 0, none⟩ = some x) (h2 : w.cell? ⟨n, 1, none⟩ = some y) (hn : n < w.heap.size) : C2 ((w.setCell ⟨n, 0, none⟩ a).setCell ⟨n, 1, none⟩ b) n a b := by
  have r : w.rangeAt n 0 [x, y] := fun j u hj => by
    match j, hj with
    | 0, hj => simp at hj; subst hj; simpa using h1
    | 1, hj => simp at hj; subst hj; simpa using h2
  have r2 := rangeAt_set (rangeAt_set r 0 a) 1 b
  exact .mk (by simpa using hn) ⟨r2 0 _ rfl, r2 1 _ rfl⟩
theorem floor_add (q : Rat) (m : Int) : (q + ofI m).num / (q + ofI m).den = q.num / q.den + m := by
  obtain ⟨h1, h2⟩ := add_int q m
  rw [h1, h2]
  exact Int.add_mul_ediv_right _ _ (by have := q.den_nz; omega)

set_option maxHeartbeats 1000000 in
theorem floor_no (n d m : Int) (w : World) (ht : Tabs w)
    (hV : ∀ w, Calls Tryd.prog 15 #[.agg #[.int .i64 n, .int .i64 d]] w fun e w' => e = .returned (.bool false) ∧ Below w.heap.size w w') :
    Calls Tryd.prog 5 #[.agg #[.int .i64 n, .int .i64 d], .int .i64 m] w fun e w' => e = .returned (.bool true) ∧ Below w.heap.size w w' := by
  have HF := Lib.hid (fun w => Floor_no n d w hV)
  have HV := Lib.hid hV
  clear hV
  have T0 : Hid (Trk w w) := Lib.hid ⟨ht, Below.refl _ _⟩
  clear ht
  have T1 := Lib.hid (T0.out.alloc (.cells #[.int .i64 n, .int .i64 d] 25))
  have A1 := Lib.hid (C2.new w (.int .i64 n) (.int .i64 d) 25)
  go_enter Tryd.func5, Tryd.ntmps5
  go_wp2_with fail
  generalize w.alloc (.cells #[.int .i64 n, .int .i64 d] 25) = w1 at *
  generalize hn : w.heap.size = n0 at *
  have HN := Lib.hid hn
  clear hn
  refine (head01 _ T1.out.tabs).mono ?_
  rintro e w2 ⟨rfl, hb⟩
  have T2 := Lib.hid (T1.out.step hb)
  have A2 := Lib.hid (A1.out.step hb)
  clear hb
  obtain ⟨c0, c1⟩ := A2.out.cells
  go_wp2_with fail
  refine (HV.out _).mono ?_
  rintro e w3 ⟨rfl, hb⟩
  have T3 := Lib.hid (T2.out.step hb)
  have A3 := Lib.hid (A2.out.step hb)
  clear hb c0 c1
  obtain ⟨c0, c1⟩ := A3.out.cells
  go_wp2_with fail
  refine (HF.out _).mono ?_
  rintro e w4 ⟨rfl, hb⟩
  have T4 := Lib.hid (T3.out.step hb)
  clear hb c0 c1
  go_wp2_with fail
  go_ret
  exact ⟨rfl, by first | exact T4.out.bel | (rw [HN.out]; exact T4.out.bel) | (rw [← HN.out]; exact T4.out.bel)⟩

set_option maxHeartbeats 2000000 in
theorem floor_ok (n d m r K sn sd : Int) (w : World) (ht : Tabs w)
    (hV : ∀ w, Calls Tryd.prog 15 #[.agg #[.int .i64 n, .int .i64 d]] w fun e w' => e = .returned (.bool true) ∧ Below w.heap.size w w')
    (hF : ∀ w, Calls Tryd.prog 19 #[.agg #[.int .i64 n, .int .i64 d]] w fun e w' => e = .returned (.int .i64 K) ∧ Below w.heap.size w w')
    (hA : ∀ w, Calls Tryd.prog 17 #[.agg #[.int .i64 n, .int .i64 d], .agg #[.int .i64 r, .int .i64 1]] w (Ret3 w sn sd 0))
    (hG : ∀ w, Calls Tryd.prog 19 #[.agg #[.int .i64 sn, .int .i64 sd]] w fun e w' => e = .returned (.int .i64 (K + r)) ∧ Below w.heap.size w w')
    (hr : m.tmod 1000001 = r) (hr1 : -1000000 ≤ r) (hr2 : r ≤ 1000000) (k1 : -1000000000000 ≤ K) (k2 : K ≤ 1000000000000) (m1 : wrap64 (K * d) = K * d) (k3 : ¬ n < K * d) (m2 : wrap64 ((K + 1) * d) = (K + 1) * d) (k4 : ¬ (K + 1) * d ≤ n) :
    Calls Tryd.prog 5 #[.agg #[.int .i64 n, .int .i64 d], .int .i64 m] w fun e w' => e = .returned (.bool true) ∧ Below w.heap.size w w' := by
  have HF := Lib.hid hF
  have HV := Lib.hid hV
  have HA := Lib.hid hA
  have HG := Lib.hid hG
  clear hG
  have HO := Lib.hid (fun w => of_any r 1 w)
  clear hV hF hA
  have T0 : Hid (Trk w w) := Lib.hid ⟨ht, Below.refl _ _⟩
  clear ht
  have T1 := Lib.hid (T0.out.alloc (.cells #[.int .i64 n, .int .i64 d] 25))
  have A1 := Lib.hid (C2.new w (.int .i64 n) (.int .i64 d) 25)
  go_enter Tryd.func5, Tryd.ntmps5
  go_wp2_with fail
  generalize w.alloc (.cells #[.int .i64 n, .int .i64 d] 25) = w1 at *
  generalize hn : w.heap.size = n0 at *
  have HN := Lib.hid hn
  clear hn
  refine (head01 _ T1.out.tabs).mono ?_
  rintro e w2 ⟨rfl, hb⟩
  have T2 := Lib.hid (T1.out.step hb)
  have A2 := Lib.hid (A1.out.step hb)
  clear hb
  obtain ⟨c0, c1⟩ := A2.out.cells
  go_wp2_with fail
  refine (HV.out _).mono ?_
  rintro e w3 ⟨rfl, hb⟩
  have T3 := Lib.hid (T2.out.step hb)
  have A3 := Lib.hid (A2.out.step hb)
  clear hb c0 c1
  obtain ⟨c0, c1⟩ := A3.out.cells
  go_wp2_with fail
  refine (HF.out _).mono ?_
  rintro e w4 ⟨rfl, hb⟩
  have T4 := Lib.hid (T3.out.step hb)
  have A4 := Lib.hid (A3.out.step hb)
  clear hb c0 c1
  obtain ⟨c0, c1⟩ := A4.out.cells
  go_wp2_with fail
  have l0 := A4.out.lt
  have hB := Below.refl w4.heap.size w4
  go_region_held_law (fun w' => (w'.cell? ⟨n0, 0, none⟩ = some (.int .i64 n) ∧ w'.cell? ⟨n0, 1, none⟩ = some (.int .i64 d)) ∧ Below w4.heap.size w4 w') (first | (go_keep; done) | exact keepB l0 ⟨c0, c1⟩ (below_last _ hba hbb) | exact keepB l0 ⟨c0, c1⟩ (below_mid _ _ hba hbb) | exact keepB l0 ⟨c0, c1⟩ (below_first _ _ hba hbb) | exact keepS1 l0 hba (by assumption) | exact keepS1 l0 hbb (by assumption) | exact keepS1 l0 (drewN_below _ 1) (by assumption) | exact keepS1 l0 ((Below.refl _ _).alloc (Nat.le_refl _) _) (by assumption) | exact keepS1 l0 (drewN_below _ 1) ⟨⟨c0, c1⟩, hB⟩ | (trace_state; sorry)) (first | (go_at_call 20; refine (HO.out _).mono ?_; rintro e wa ⟨rfl, hba⟩; (first | refine fresh_kd hba fun q0 q1 q2 q3 q4 => ?_ | refine fresh_k hba fun q0 q1 q2 q3 q4 => ?_ | skip)) | (go_at_call 17; refine (HA.out _).mono ?_; rintro e wb ⟨rfl, hbb⟩; (first | refine fresh_kd hbb fun q0 q1 q2 q3 q4 => ?_ | refine fresh_k hbb fun q0 q1 q2 q3 q4 => ?_ | refine fresh_ks hbb q0 q1 q2 q3 q4 fun q0 q1 q2 q3 q4 => ?_ | skip)))
  · rename_i hh
    have hbF := hh.2
    have T7 := Lib.hid (T4.out.step hbF)
    have C7 := Lib.hid (C2.new wb (.int .i64 sn) (.int .i64 sd) 25)
    clear hba hbb hh hbF c0 c1 l0 hB
    generalize wb.alloc (.cells #[.int .i64 sn, .int .i64 sd] 25) = wF at *
    generalize wb.heap.size = N at *
    obtain ⟨d0, d1⟩ := C7.out.cells
    go_wp2_with fail
    refine (HG.out _).mono ?_
    rintro e w8 ⟨rfl, hb⟩
    have T8 := Lib.hid (T7.out.step hb)
    clear hb d0 d1
    go_wp2_with fail
    go_ret
    exact ⟨by first | rfl | simp, by first | exact T8.out.bel | (rw [HN.out]; exact T8.out.bel) | (rw [← HN.out]; exact T8.out.bel)⟩
  · rename_i hh
    have hbF := hh.2
    have T7 := Lib.hid (T4.out.step hbF)
    have C7 := Lib.hid (C2_set (a := .int .i64 sn) (b := .int .i64 sd) q0 q1 q4)
    clear hba hbb hh hbF c0 c1 l0 hB
    clear q0 q1 q2 q3 q4
    generalize (wb.setCell ⟨wa.heap.size, 0, none⟩ (.int .i64 sn)).setCell ⟨wa.heap.size, 1, none⟩ (.int .i64 sd) = wF at *
    generalize wa.heap.size = N at *
    obtain ⟨d0, d1⟩ := C7.out.cells
    go_wp2_with fail
    refine (HG.out _).mono ?_
    rintro e w8 ⟨rfl, hb⟩
    have T8 := Lib.hid (T7.out.step hb)
    clear hb d0 d1
    go_wp2_with fail
    go_ret
    exact ⟨by first | rfl | simp, by first | exact T8.out.bel | (rw [HN.out]; exact T8.out.bel) | (rw [← HN.out]; exact T8.out.bel)⟩
  · rename_i hh
    have hbF := hh.2
    have T7 := Lib.hid (T4.out.step hbF)
    have C7 := Lib.hid (C2_set (a := .int .i64 sn) (b := .int .i64 sd) q0 q1 q4)
    clear hba hbb hh hbF c0 c1 l0 hB
    clear q0 q1 q2 q3 q4
    generalize (wb.setCell ⟨w4.heap.size, 0, none⟩ (.int .i64 sn)).setCell ⟨w4.heap.size, 1, none⟩ (.int .i64 sd) = wF at *
    generalize w4.heap.size = N at *
    obtain ⟨d0, d1⟩ := C7.out.cells
    go_wp2_with fail
    refine (HG.out _).mono ?_
    rintro e w8 ⟨rfl, hb⟩
    have T8 := Lib.hid (T7.out.step hb)
    clear hb d0 d1
    go_wp2_with fail
    go_ret
    exact ⟨by first | rfl | simp, by first | exact T8.out.bel | (rw [HN.out]; exact T8.out.bel) | (rw [← HN.out]; exact T8.out.bel)⟩
set_option maxHeartbeats 2000000 in
theorem floor_no2 (n d m r K sn sd : Int) (w : World) (ht : Tabs w)
    (hV : ∀ w, Calls Tryd.prog 15 #[.agg #[.int .i64 n, .int .i64 d]] w fun e w' => e = .returned (.bool true) ∧ Below w.heap.size w w')
    (hF : ∀ w, Calls Tryd.prog 19 #[.agg #[.int .i64 n, .int .i64 d]] w fun e w' => e = .returned (.int .i64 K) ∧ Below w.heap.size w w')
    (hA : ∀ w, Calls Tryd.prog 17 #[.agg #[.int .i64 n, .int .i64 d], .agg #[.int .i64 r, .int .i64 1]] w (Ret3 w sn sd 2))
    (hr : m.tmod 1000001 = r) (hr1 : -1000000 ≤ r) (hr2 : r ≤ 1000000) (k1 : -1000000000000 ≤ K) (k2 : K ≤ 1000000000000) (m1 : wrap64 (K * d) = K * d) (k3 : ¬ n < K * d) (m2 : wrap64 ((K + 1) * d) = (K + 1) * d) (k4 : ¬ (K + 1) * d ≤ n) :
    Calls Tryd.prog 5 #[.agg #[.int .i64 n, .int .i64 d], .int .i64 m] w fun e w' => e = .returned (.bool true) ∧ Below w.heap.size w w' := by
  have HF := Lib.hid hF
  have HV := Lib.hid hV
  have HA := Lib.hid hA
  have HO := Lib.hid (fun w => of_any r 1 w)
  clear hV hF hA
  have T0 : Hid (Trk w w) := Lib.hid ⟨ht, Below.refl _ _⟩
  clear ht
  have T1 := Lib.hid (T0.out.alloc (.cells #[.int .i64 n, .int .i64 d] 25))
  have A1 := Lib.hid (C2.new w (.int .i64 n) (.int .i64 d) 25)
  go_enter Tryd.func5, Tryd.ntmps5
  go_wp2_with fail
  generalize w.alloc (.cells #[.int .i64 n, .int .i64 d] 25) = w1 at *
  generalize hn : w.heap.size = n0 at *
  have HN := Lib.hid hn
  clear hn
  refine (head01 _ T1.out.tabs).mono ?_
  rintro e w2 ⟨rfl, hb⟩
  have T2 := Lib.hid (T1.out.step hb)
  have A2 := Lib.hid (A1.out.step hb)
  clear hb
  obtain ⟨c0, c1⟩ := A2.out.cells
  go_wp2_with fail
  refine (HV.out _).mono ?_
  rintro e w3 ⟨rfl, hb⟩
  have T3 := Lib.hid (T2.out.step hb)
  have A3 := Lib.hid (A2.out.step hb)
  clear hb c0 c1
  obtain ⟨c0, c1⟩ := A3.out.cells
  go_wp2_with fail
  refine (HF.out _).mono ?_
  rintro e w4 ⟨rfl, hb⟩
  have T4 := Lib.hid (T3.out.step hb)
  have A4 := Lib.hid (A3.out.step hb)
  clear hb c0 c1
  obtain ⟨c0, c1⟩ := A4.out.cells
  go_wp2_with fail
  have l0 := A4.out.lt
  have hB := Below.refl w4.heap.size w4
  go_region_held_law (fun w' => (w'.cell? ⟨n0, 0, none⟩ = some (.int .i64 n) ∧ w'.cell? ⟨n0, 1, none⟩ = some (.int .i64 d)) ∧ Below w4.heap.size w4 w') (first | (go_keep; done) | exact keepB l0 ⟨c0, c1⟩ (below_last _ hba hbb) | exact keepB l0 ⟨c0, c1⟩ (below_mid _ _ hba hbb) | exact keepB l0 ⟨c0, c1⟩ (below_first _ _ hba hbb) | exact keepS1 l0 hba (by assumption) | exact keepS1 l0 hbb (by assumption) | exact keepS1 l0 (drewN_below _ 1) (by assumption) | exact keepS1 l0 ((Below.refl _ _).alloc (Nat.le_refl _) _) (by assumption) | exact keepS1 l0 (drewN_below _ 1) ⟨⟨c0, c1⟩, hB⟩ | (trace_state; sorry)) (first | (go_at_call 20; refine (HO.out _).mono ?_; rintro e wa ⟨rfl, hba⟩; (first | refine fresh_kd hba fun q0 q1 q2 q3 q4 => ?_ | refine fresh_k hba fun q0 q1 q2 q3 q4 => ?_ | skip)) | (go_at_call 17; refine (HA.out _).mono ?_; rintro e wb ⟨rfl, hbb⟩; (first | refine fresh_kd hbb fun q0 q1 q2 q3 q4 => ?_ | refine fresh_k hbb fun q0 q1 q2 q3 q4 => ?_ | refine fresh_ks hbb q0 q1 q2 q3 q4 fun q0 q1 q2 q3 q4 => ?_ | skip)))
  · rename_i hh
    have hbF := hh.2
    have T7 := Lib.hid (T4.out.step hbF)
    have C7 := Lib.hid (C2.new wb (.int .i64 sn) (.int .i64 sd) 25)
    clear hba hbb hh hbF c0 c1 l0 hB
    generalize wb.alloc (.cells #[.int .i64 sn, .int .i64 sd] 25) = wF at *
    generalize wb.heap.size = N at *
    go_wp2_with fail
    go_ret
    exact ⟨by first | rfl | simp, by first | exact T7.out.bel | (rw [HN.out]; exact T7.out.bel) | (rw [← HN.out]; exact T7.out.bel)⟩
  · rename_i hh
    have hbF := hh.2
    have T7 := Lib.hid (T4.out.step hbF)
    have C7 := Lib.hid (C2_set (a := .int .i64 sn) (b := .int .i64 sd) q0 q1 q4)
    clear hba hbb hh hbF c0 c1 l0 hB
    clear q0 q1 q2 q3 q4
    generalize (wb.setCell ⟨wa.heap.size, 0, none⟩ (.int .i64 sn)).setCell ⟨wa.heap.size, 1, none⟩ (.int .i64 sd) = wF at *
    generalize wa.heap.size = N at *
    go_wp2_with fail
    go_ret
    exact ⟨by first | rfl | simp, by first | exact T7.out.bel | (rw [HN.out]; exact T7.out.bel) | (rw [← HN.out]; exact T7.out.bel)⟩
  · rename_i hh
    have hbF := hh.2
    have T7 := Lib.hid (T4.out.step hbF)
    have C7 := Lib.hid (C2_set (a := .int .i64 sn) (b := .int .i64 sd) q0 q1 q4)
    clear hba hbb hh hbF c0 c1 l0 hB
    clear q0 q1 q2 q3 q4
    generalize (wb.setCell ⟨w4.heap.size, 0, none⟩ (.int .i64 sn)).setCell ⟨w4.heap.size, 1, none⟩ (.int .i64 sd) = wF at *
    generalize w4.heap.size = N at *
    go_wp2_with fail
    go_ret
    exact ⟨by first | rfl | simp, by first | exact T7.out.bel | (rw [HN.out]; exact T7.out.bel) | (rw [← HN.out]; exact T7.out.bel)⟩

theorem law_RatioFloor (n d m : Int) (w : World) (hn : (Lit.int .i64 n).wf = true) (hd : (Lit.int .i64 d).wf = true) (_ : (Lit.int .i64 m).wf = true) (ht : Tabs w) :
    Calls Tryd.prog 5 #[.agg #[.int .i64 n, .int .i64 d], .int .i64 m] w fun e w' => e = .returned (.bool true) ∧ Below w.heap.size w w' := by
  have hn : I64 n := by simp only [Lit.wf, Bool.and_eq_true, decide_eq_true_eq] at hn; exact hn
  have hd : I64 d := by simp only [Lit.wf, Bool.and_eq_true, decide_eq_true_eq] at hd; exact hd
  rcases hv : vld n d with _ | _
  · exact floor_no n d m w ht (V_no hn hd hv)
  · obtain ⟨q, rfl, rfl, hq⟩ := vld_q hv
    have hq1 := hq.1
    have hq2 := hq.2
    have hpos : (0 : Int) < q.den := by have := q.den_nz; omega
    have r1 : m.tmod 1000001 < 1000001 := Int.tmod_lt_of_pos m (by decide)
    have r2 : -1000001 < m.tmod 1000001 := Int.lt_tmod_of_pos m (by decide)
    have kb : (q.num / q.den).natAbs ≤ 1000000000000 := Nat.le_trans (Int.natAbs_ediv_le_natAbs _ _) hq1
    have e1 := Int.emod_add_mul_ediv q.num q.den
    have e2 : 0 ≤ q.num % q.den := Int.emod_nonneg _ (by omega)
    have e3 : q.num % q.den < q.den := Int.emod_lt_of_pos _ hpos
    have c1 : q.num / q.den * q.den = q.den * (q.num / q.den) := Int.mul_comm _ _
    have c2 : (q.num / q.den + 1) * q.den = q.den * (q.num / q.den) + q.den := by rw [Int.add_mul, c1, Int.one_mul]
    have hm : Rok (ofI (m.tmod 1000001)) := ofI_ok (by omega)
    have hA := fun w => Add_ok q (ofI (m.tmod 1000001)) w hq hm
    have hF := fun w => Floor_ok q w hq
    have w1 : wrap64 (q.num / q.den * q.den) = q.num / q.den * q.den := by rw [c1]; unfold wrap64; omega
    have w2 : wrap64 ((q.num / q.den + 1) * q.den) = (q.num / q.den + 1) * q.den := by rw [c2]; unfold wrap64; omega
    by_cases hs : Rok (q + ofI (m.tmod 1000001))
    · have hG := fun w => Floor_ok (q + ofI (m.tmod 1000001)) w hs
      rw [floor_add] at hG
      rw [resN_ok hs, resD_ok hs, resE_ok hs] at hA
      exact floor_ok _ _ m (m.tmod 1000001) (q.num / q.den) _ _ w ht (V_ok hq) hF hA hG rfl (by omega) (by omega) (by omega) (by omega) w1 (by rw [c1]; omega) w2 (by rw [c2]; omega)
    · rw [resN_no hs, resD_no hs, resE_no hs] at hA
      exact floor_no2 _ _ m (m.tmod 1000001) (q.num / q.den) _ _ w ht (V_ok hq) hF hA rfl (by omega) (by omega) (by omega) (by omega) w1 (by rw [c1]; omega) w2 (by rw [c2]; omega)
end Go.Proofs.YtfcdoifijgbjeaaDoor
