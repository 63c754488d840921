/- Rounding to parts, plainly: the nearest multiple, an even one on a tie; monotone. -/
import Derived.Test.YtfcdoifijgbjeaaDoorF7
namespace Go.Proofs.YtfcdoifijgbjeaaDoor
open Go.RowKit

/-- k parts are the nearest to v / d, an even number of them on a tie. -/
structure Near (v d k : Int) : Prop where
  up : 2 * (k * d - v) ≤ d
  dn : -d ≤ 2 * (k * d - v)
  tu : 2 * (k * d - v) = d → k % 2 = 0
  td : 2 * (k * d - v) = -d → k % 2 = 0
theorem rnd_near (n d p : Int) (hd : 0 < d) : Near (n * p) d (rnd n d p) := by
  rw [rnd_eq]
  generalize n * p = v
  have e := Int.mul_ediv_add_emod v d
  have r0 := Int.emod_nonneg v (by omega : d ≠ 0)
  have r1 := Int.emod_lt_of_pos v hd
  generalize v / d = q at *
  generalize v % d = r at *
  have e' : q * d = v - r := by rw [Int.mul_comm]; omega
  have e2 : (q + 1) * d = v - r + d := by rw [Int.add_mul]; omega
  by_cases h : d - r < r
  · rw [if_pos (.inl h)]
    exact ⟨by omega, by omega, by omega, by omega⟩
  · by_cases h2 : r = d - r ∧ q % 2 = 1
    · rw [if_pos (.inr h2)]
      exact ⟨by omega, by omega, by omega, by omega⟩
    · rw [if_neg (fun x => x.elim h h2)]
      exact ⟨by omega, by omega, by omega, by omega⟩
theorem near_abs {v d k : Int} (hd : 0 < d) (h : Near v d k) {M : Nat} (hM : v.natAbs ≤ M) : k.natAbs ≤ M := by
  have h1 := h.up
  have h2 := h.dn
  by_cases h3 : (M : Int) + 1 ≤ k
  · exfalso
    by_cases hd1 : d = 1
    · subst hd1; omega
    have e : ((M : Int) + 1) * d ≤ k * d := Int.mul_le_mul_of_nonneg_right h3 (by omega)
    have e2 : (M : Int) * 2 ≤ M * d := Int.mul_le_mul_of_nonneg_left (by omega) (by omega)
    rw [Int.add_mul] at e
    omega
  · by_cases h4 : k ≤ -((M : Int) + 1)
    · exfalso
      by_cases hd1 : d = 1
      · subst hd1; omega
      have e : k * d ≤ (-((M : Int) + 1)) * d := Int.mul_le_mul_of_nonneg_right h4 (by omega)
      have e2 : (M : Int) * 2 ≤ M * d := Int.mul_le_mul_of_nonneg_left (by omega) (by omega)
      rw [Int.neg_mul, Int.add_mul] at e
      omega
    · omega
theorem near_mono {v d k v' d' k' : Int} (hd : 0 < d) (hd' : 0 < d') (h : Near v d k) (h' : Near v' d' k') (hle : v * d' ≤ v' * d) : k ≤ k' := by
  apply Int.not_lt.1
  intro hk
  have a1 := h.up
  have a2 := h'.dn
  -- (2k-1) d ≤ 2 v ; 2 v' ≤ (2k'+1) d'
  have b1 : (2 * k - 1) * d ≤ 2 * v := by rw [Int.sub_mul, Int.mul_assoc]; omega
  have b2 : 2 * v' ≤ (2 * k' + 1) * d' := by rw [Int.add_mul, Int.mul_assoc]; omega
  have c1 : (2 * k - 1) * d * d' ≤ 2 * v * d' := Int.mul_le_mul_of_nonneg_right b1 (by omega)
  have c2 : 2 * v' * d ≤ (2 * k' + 1) * d' * d := Int.mul_le_mul_of_nonneg_right b2 (by omega)
  have c3 : 2 * v * d' ≤ 2 * v' * d := by rw [Int.mul_assoc, Int.mul_assoc]; omega
  have hdd : 0 < d * d' := Int.mul_pos hd hd'
  have c4 : (2 * k - 1) * (d * d') ≤ (2 * k' + 1) * (d * d') := by
    rw [← Int.mul_assoc, Int.mul_comm d d', ← Int.mul_assoc]; omega
  have c5 : 2 * k - 1 ≤ 2 * k' + 1 := Int.le_of_mul_le_mul_right c4 hdd
  have hkk : k = k' + 1 := by omega
  -- all equal
  have d1 : (2 * k - 1) * d * d' = 2 * v * d' := by
    have : (2 * k - 1) * d * d' = (2 * k' + 1) * d' * d := by
      rw [show 2 * k - 1 = 2 * k' + 1 by omega, Int.mul_assoc, Int.mul_comm d d', ← Int.mul_assoc]
    omega
  have d2 : 2 * v' * d = (2 * k' + 1) * d' * d := by
    have : (2 * k - 1) * d * d' = (2 * k' + 1) * d' * d := by
      rw [show 2 * k - 1 = 2 * k' + 1 by omega, Int.mul_assoc, Int.mul_comm d d', ← Int.mul_assoc]
    omega
  have f1 : (2 * k - 1) * d = 2 * v := Int.eq_of_mul_eq_mul_right (by omega) d1
  have f2 : 2 * v' = (2 * k' + 1) * d' := Int.eq_of_mul_eq_mul_right (by omega) d2
  rw [Int.sub_mul, Int.mul_assoc] at f1
  rw [Int.add_mul, Int.mul_assoc] at f2
  have g1 := h.tu (by omega)
  have g2 := h'.td (by omega)
  omega
/-- The rounded ratio. -/
theorem rnd_parts (k p : Int) (hp : 1 ≤ p) (hp2 : p ≤ 1000) (hk : k.natAbs ≤ 1000000000000) :
    Rok (Rat.divInt k p) ∧ p % (Rat.divInt k p).den = 0 ∧ (Rat.divInt k p).num * (p / (Rat.divInt k p).den) = k ∧ rnd (Rat.divInt k p).num (Rat.divInt k p).den p = k := by
  have g := gcd_pos k p (by omega)
  have e1 := div_numAbs k p (by omega)
  have e2 := div_den k p (by omega)
  have l1 : k.natAbs / Nat.gcd k.natAbs p.natAbs ≤ k.natAbs := Nat.div_le_self _ _
  have l2 : p.natAbs / Nat.gcd k.natAbs p.natAbs ≤ p.natAbs := Nat.div_le_self _ _
  have hx : Rat.divInt k p = Rat.divInt (Rat.divInt k p).num (Rat.divInt k p).den := (Rat.num_divInt_den _).symm
  have hc : k * (Rat.divInt k p).den = (Rat.divInt k p).num * p := by
    have hd := (Rat.divInt k p).den_nz
    exact (Rat.divInt_eq_divInt_iff (by omega) (by omega)).1 hx
  have hdv : ((Rat.divInt k p).den : Int) ∣ p := by
    rw [e2]
    have : (p.natAbs / Nat.gcd k.natAbs p.natAbs) ∣ p.natAbs := Nat.div_dvd_of_dvd (Nat.gcd_dvd_right _ _)
    have h3 := Int.natCast_dvd_natCast.2 this
    rwa [show ((p.natAbs : Nat) : Int) = p by omega] at h3
  have hd := (Rat.divInt k p).den_nz
  generalize Rat.divInt k p = x at *
  refine ⟨⟨by omega, by omega⟩, Int.emod_eq_zero_of_dvd hdv, ?_, ?_⟩
  · obtain ⟨c, hc2⟩ := hdv
    have : p / (x.den : Int) = c := by rw [hc2]; exact Int.mul_ediv_cancel_left _ (by omega)
    rw [this]
    rw [hc2, ← Int.mul_assoc, Int.mul_comm x.num, Int.mul_assoc, Int.mul_comm k] at hc
    exact (Int.eq_of_mul_eq_mul_left (by omega) hc).symm
  · rw [rnd_eq, ← hc]
    rw [Int.mul_emod_left, Int.mul_ediv_cancel _ (by omega)]
    rw [if_neg (by omega)]
theorem div_cross (k p : Int) (hp : p ≠ 0) : k * (Rat.divInt k p).den = (Rat.divInt k p).num * p := by
  have hx : Rat.divInt k p = Rat.divInt (Rat.divInt k p).num (Rat.divInt k p).den := (Rat.num_divInt_den _).symm
  have hd := (Rat.divInt k p).den_nz
  exact (Rat.divInt_eq_divInt_iff (by omega) (by omega)).1 hx
theorem div_mono {k k' p : Int} (hp : 1 ≤ p) (h : k ≤ k') : Rat.divInt k p ≤ Rat.divInt k' p := by
  have c1 := div_cross k p (by omega)
  have c2 := div_cross k' p (by omega)
  rw [Rat.le_iff]
  generalize Rat.divInt k p = x at *
  generalize Rat.divInt k' p = y at *
  have hx := x.den_nz
  have hy := y.den_nz
  refine Int.le_of_mul_le_mul_right (a := p) ?_ (by omega)
  calc x.num * y.den * p = x.num * p * y.den := Int.mul_right_comm _ _ _
    _ = k * (x.den * y.den) := by rw [← c1, Int.mul_assoc]
    _ ≤ k' * (x.den * y.den) := Int.mul_le_mul_of_nonneg_right h (Int.mul_nonneg (by omega) (by omega))
    _ = k' * y.den * x.den := by rw [Int.mul_comm (x.den : Int), Int.mul_assoc]
    _ = y.num * x.den * p := by rw [c2, Int.mul_right_comm]
theorem rnd_mono (p q : Rat) (n : Int) (hn : 1 ≤ n) (h : p ≤ q) : rnd p.num p.den n ≤ rnd q.num q.den n := by
  have hp := p.den_nz
  have hq := q.den_nz
  refine near_mono (by omega) (by omega) (rnd_near p.num p.den n (by omega)) (rnd_near q.num q.den n (by omega)) ?_
  have := (Rat.le_iff p q).1 h
  calc p.num * n * q.den = p.num * q.den * n := by rw [Int.mul_right_comm]
    _ ≤ q.num * p.den * n := Int.mul_le_mul_of_nonneg_right this (by omega)
    _ = q.num * n * p.den := by rw [Int.mul_right_comm]
end Go.Proofs.YtfcdoifijgbjeaaDoor
