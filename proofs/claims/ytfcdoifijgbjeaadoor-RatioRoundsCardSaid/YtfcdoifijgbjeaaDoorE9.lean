/- Layer 01: below, Floor, Cmp. -/
import Derived.Test.YtfcdoifijgbjeaaDoorE8
namespace Go.Proofs.YtfcdoifijgbjeaaDoor
open Go.RowKit

theorem div_facts (n d : Int) (hd : 0 < d) : (n.tmod d < 0 ∧ n.tdiv d - 1 = n / d ∧ n.tmod d + d = n % d) ∨ (0 ≤ n.tmod d ∧ n.tdiv d = n / d ∧ n.tmod d = n % d) := by
  have h1 := Int.mul_tdiv_add_tmod n d
  have h2 : n.tmod d < d := Int.tmod_lt_of_pos n hd
  have h3 : -d < n.tmod d := Int.lt_tmod_of_pos n hd
  rcases (by omega : n.tmod d < 0 ∨ 0 ≤ n.tmod d) with h | h
  · refine .inl ⟨h, ?_⟩
    have e : d * (n.tdiv d - 1) = d * n.tdiv d - d := by rw [Int.mul_sub, Int.mul_one]
    have := (Int.ediv_emod_unique hd (a := n) (r := n.tmod d + d) (q := n.tdiv d - 1)).2 ⟨by rw [e]; omega, by omega, by omega⟩
    exact ⟨this.1.symm, this.2.symm⟩
  · refine .inr ⟨h, ?_⟩
    have := (Int.ediv_emod_unique hd (a := n) (r := n.tmod d) (q := n.tdiv d)).2 ⟨by omega, by omega, by omega⟩
    exact ⟨this.1.symm, this.2.symm⟩

set_option maxHeartbeats 1000000 in
theorem below_neg (n d Q R : Int) (w : World) (h0 : ¬ d = 0) (e1 : n.tdiv d = Q) (e2 : n.tmod d = R) (w1 : IntKind.i64.wrap Q = Q) (hR : R < 0) (w3 : wrap64 (Q - 1) = Q - 1) (w4 : wrap64 (R + d) = R + d) :
    Calls Tryd.prog 44 #[.int .i64 n, .int .i64 d] w fun e w' => e = .returned (.tuple #[.int .i64 (Q - 1), .int .i64 (R + d)]) ∧ Below w.heap.size w w' := by
  have h1 : (d == 0) = false := by simp [h0]
  go_enter Tryd.func44, Tryd.ntmps44
  go_wp2_with fail
  go_quiet (fail)
  go_wp2_with fail
  go_ret2
  exact ⟨by first | rfl | (rw [w3, w4]; rfl), drewN_below w _⟩
set_option maxHeartbeats 1000000 in
theorem below_pos (n d Q R : Int) (w : World) (h0 : ¬ d = 0) (e1 : n.tdiv d = Q) (e2 : n.tmod d = R) (w1 : IntKind.i64.wrap Q = Q) (w2 : IntKind.i64.wrap R = R) (hR : 0 ≤ R) :
    Calls Tryd.prog 44 #[.int .i64 n, .int .i64 d] w fun e w' => e = .returned (.tuple #[.int .i64 Q, .int .i64 R]) ∧ Below w.heap.size w w' := by
  have h1 : (d == 0) = false := by simp [h0]
  go_enter Tryd.func44, Tryd.ntmps44
  go_wp2_with fail
  go_quiet (fail)
  go_wp2_with fail
  go_ret2
  exact ⟨rfl, drewN_below w _⟩
theorem below_any (n d : Int) (w : World) (hd : 0 < d) (hd2 : d ≤ 1000000) (hn : n.natAbs ≤ 1000000000000000000) :
    Calls Tryd.prog 44 #[.int .i64 n, .int .i64 d] w fun e w' => e = .returned (.tuple #[.int .i64 (n / d), .int .i64 (n % d)]) ∧ Below w.heap.size w w' := by
  have b1 : n % d < d := Int.emod_lt_of_pos n hd
  have b2 : 0 ≤ n % d := Int.emod_nonneg n (by omega)
  have b3 : (n / d).natAbs ≤ 1000000000000000000 := Nat.le_trans (Int.natAbs_ediv_le_natAbs n d) hn
  rcases div_facts n d hd with ⟨h, e1, e2⟩ | ⟨h, e1, e2⟩
  · have r := below_neg n d (n / d + 1) (n % d - d) w (by omega) (by omega) (by omega) (IntWalk.i64_in _ ⟨by omega, by omega⟩) (by omega) (by unfold wrap64; omega) (by unfold wrap64; omega)
    rwa [show n / d + 1 - 1 = n / d by omega, show n % d - d + d = n % d by omega] at r
  · exact below_pos n d _ _ w (by omega) e1 e2 (IntWalk.i64_in _ ⟨by omega, by omega⟩) (IntWalk.i64_in _ ⟨by omega, by omega⟩) b2

set_option maxHeartbeats 1000000 in
theorem Floor_walk (n d Q R : Int) (w : World)
    (hV : ∀ w, Calls Tryd.prog 15 #[.agg #[.int .i64 n, .int .i64 d]] w fun e w' => e = .returned (.bool true) ∧ Below w.heap.size w w')
    (hB : ∀ w, Calls Tryd.prog 44 #[.int .i64 n, .int .i64 d] w fun e w' => e = .returned (.tuple #[.int .i64 Q, .int .i64 R]) ∧ Below w.heap.size w w') :
    Calls Tryd.prog 19 #[.agg #[.int .i64 n, .int .i64 d]] w fun e w' => e = .returned (.int .i64 Q) ∧ Below w.heap.size w w' := by
  have HV := Lib.hid hV
  have HB := Lib.hid hB
  clear hV hB
  have hc : (w.alloc (.cells #[.int .i64 n, .int .i64 d] 25)).cell? ⟨w.heap.size, 0, none⟩ = some (.int .i64 n) ∧ (w.alloc (.cells #[.int .i64 n, .int .i64 d] 25)).cell? ⟨w.heap.size, 1, none⟩ = some (.int .i64 d) := ⟨new0 rfl rfl, new0 rfl rfl⟩
  have hb0 := (Below.refl w.heap.size w).alloc (Nat.le_refl _) (.cells #[.int .i64 n, .int .i64 d] 25)
  have hs0 : w.heap.size < (w.alloc (.cells #[.int .i64 n, .int .i64 d] 25)).heap.size := by simp
  have HC := Lib.hid hc
  obtain ⟨c0, c1⟩ := hc
  go_enter Tryd.func19, Tryd.ntmps19
  go_wp2_with fail
  generalize w.alloc (.cells #[.int .i64 n, .int .i64 d] 25) = w0 at *
  refine (HV.out _).mono ?_
  rintro e w1 ⟨rfl, hb1⟩
  clear c0 c1
  obtain ⟨c0, c1⟩ := cells2_below HC.out hb1 hs0
  have HB1 := Lib.hid (hb0.trans (hb1.mono (Nat.le_of_lt hs0)))
  have hs1 : w.heap.size ≤ w1.heap.size := Nat.le_trans (Nat.le_of_lt hs0) hb1.size
  clear hb0 hb1 hs0
  go_wp2_with fail
  refine (HB.out _).mono ?_
  rintro e w2 ⟨rfl, hb2⟩
  have HB2 := Lib.hid (HB1.out.trans (hb2.mono hs1))
  clear hb2
  go_wp2_with fail
  go_ret
  exact ⟨rfl, HB2.out⟩
set_option maxHeartbeats 1000000 in
theorem Floor_no (n d : Int) (w : World)
    (hV : ∀ w, Calls Tryd.prog 15 #[.agg #[.int .i64 n, .int .i64 d]] w fun e w' => e = .returned (.bool false) ∧ Below w.heap.size w w') :
    Calls Tryd.prog 19 #[.agg #[.int .i64 n, .int .i64 d]] w fun e w' => e = .returned (.int .i64 0) ∧ Below w.heap.size w w' := by
  have HV := Lib.hid hV
  clear hV
  have c0 : (w.alloc (.cells #[.int .i64 n, .int .i64 d] 25)).cell? ⟨w.heap.size, 0, none⟩ = some (.int .i64 n) := new0 rfl rfl
  have c1 : (w.alloc (.cells #[.int .i64 n, .int .i64 d] 25)).cell? ⟨w.heap.size, 1, none⟩ = some (.int .i64 d) := new0 rfl rfl
  have hb0 := (Below.refl w.heap.size w).alloc (Nat.le_refl _) (.cells #[.int .i64 n, .int .i64 d] 25)
  have hs0 : w.heap.size ≤ (w.alloc (.cells #[.int .i64 n, .int .i64 d] 25)).heap.size := by simp
  go_enter Tryd.func19, Tryd.ntmps19
  go_wp2_with fail
  refine (HV.out _).mono ?_
  rintro e w1 ⟨rfl, hb1⟩
  have HB1 := Lib.hid (hb0.trans (hb1.mono hs0))
  clear hb1 hb0 c0 c1 hs0
  go_wp2_with fail
  go_ret
  exact ⟨rfl, HB1.out⟩
/-- Floor at a valid ratio. -/
theorem Floor_ok (q : Rat) (w : World) (hq : Rok q) :
    Calls Tryd.prog 19 #[.agg #[.int .i64 q.num, .int .i64 q.den]] w fun e w' => e = .returned (.int .i64 (q.num / q.den)) ∧ Below w.heap.size w w' := by
  have h1 := hq.1
  have h2 := hq.2
  have := q.den_nz
  exact Floor_walk _ _ _ _ w (V_ok hq) (fun w => below_any q.num q.den w (by omega) (by omega) (by omega))

/-- The sign of an integer, as Cmp returns it. -/
@[irreducible] def sg3 (x : Int) : Int := if x < 0 then -1 else if 0 < x then 1 else 0
theorem sg3_neg {x : Int} (h : x < 0) : sg3 x = -1 := by unfold sg3; rw [if_pos h]
theorem sg3_pos {x : Int} (h : 0 < x) : sg3 x = 1 := by unfold sg3; rw [if_neg (by omega), if_pos h]
theorem sg3_zero {x : Int} (h : x = 0) : sg3 x = 0 := by unfold sg3; rw [if_neg (by omega), if_neg (by omega)]

/-- The world of a function with two ratios by value. -/
def box2 (w : World) (an ad bn bd : Int) : World := (w.alloc (.cells #[.int .i64 an, .int .i64 ad] 25)).alloc (.cells #[.int .i64 bn, .int .i64 bd] 25)
theorem box2_facts (w : World) (an ad bn bd : Int) :
    ((box2 w an ad bn bd).cell? ⟨w.heap.size, 0, none⟩ = some (.int .i64 an) ∧ (box2 w an ad bn bd).cell? ⟨w.heap.size, 1, none⟩ = some (.int .i64 ad)) ∧
    ((box2 w an ad bn bd).cell? ⟨w.heap.size + 1, 0, none⟩ = some (.int .i64 bn) ∧ (box2 w an ad bn bd).cell? ⟨w.heap.size + 1, 1, none⟩ = some (.int .i64 bd)) ∧
    Below w.heap.size w (box2 w an ad bn bd) ∧ (box2 w an ad bn bd).heap.size = w.heap.size + 2 := by
  have z1 : (w.alloc (.cells #[.int .i64 an, .int .i64 ad] 25)).heap.size = w.heap.size + 1 := by simp
  have z2 : (box2 w an ad bn bd).heap.size = w.heap.size + 2 := by unfold box2; simp
  have a1 := (Below.refl w.heap.size w).alloc (Nat.le_refl _) (.cells #[.int .i64 an, .int .i64 ad] 25)
  have A0 : (w.alloc (.cells #[.int .i64 an, .int .i64 ad] 25)).cell? ⟨w.heap.size, 0, none⟩ = some (.int .i64 an) ∧ (w.alloc (.cells #[.int .i64 an, .int .i64 ad] 25)).cell? ⟨w.heap.size, 1, none⟩ = some (.int .i64 ad) := ⟨new0 rfl rfl, new0 rfl rfl⟩
  unfold box2 at z2 ⊢
  generalize w.alloc (.cells #[.int .i64 an, .int .i64 ad] 25) = w1 at *
  have B0 : (w1.alloc (.cells #[.int .i64 bn, .int .i64 bd] 25)).cell? ⟨w1.heap.size, 0, none⟩ = some (.int .i64 bn) ∧ (w1.alloc (.cells #[.int .i64 bn, .int .i64 bd] 25)).cell? ⟨w1.heap.size, 1, none⟩ = some (.int .i64 bd) := ⟨new0 rfl rfl, new0 rfl rfl⟩
  have a2 := a1.alloc (by omega) (.cells #[.int .i64 bn, .int .i64 bd] 25)
  have A1 := cells2_below (w' := w1.alloc (.cells #[.int .i64 bn, .int .i64 bd] 25)) A0 ((Below.refl _ _).alloc (Nat.le_refl _) _) (by omega)
  rw [z1] at B0
  exact ⟨A1, B0, a2, z2⟩
end Go.Proofs.YtfcdoifijgbjeaaDoor
