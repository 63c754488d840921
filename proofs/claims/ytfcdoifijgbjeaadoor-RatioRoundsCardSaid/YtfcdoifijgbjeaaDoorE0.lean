/- Layer 01: ratios as rational numbers: plain. -/
import Derived.Test.YtfcdoifijgbjeaaDoorProg
namespace Go.Proofs.YtfcdoifijgbjeaaDoor

/-- A rational number within the limits. -/
def Rok (q : Rat) : Prop := q.num.natAbs ≤ 1000000000000 ∧ q.den ≤ 1000000
instance (q : Rat) : Decidable (Rok q) := by unfold Rok; exact inferInstance
/-- Numerator, denominator and error code of a result. -/
@[irreducible] def resN (q : Rat) : Int := if Rok q then q.num else 0
@[irreducible] def resD (q : Rat) : Int := if Rok q then q.den else 0
@[irreducible] def resE (q : Rat) : Int := if Rok q then 0 else 2
theorem resN_ok {q : Rat} (h : Rok q) : resN q = q.num := by unfold resN; rw [if_pos h]
theorem resD_ok {q : Rat} (h : Rok q) : resD q = q.den := by unfold resD; rw [if_pos h]
theorem resE_ok {q : Rat} (h : Rok q) : resE q = 0 := by unfold resE; rw [if_pos h]
theorem resN_no {q : Rat} (h : ¬ Rok q) : resN q = 0 := by unfold resN; rw [if_neg h]
theorem resD_no {q : Rat} (h : ¬ Rok q) : resD q = 0 := by unfold resD; rw [if_neg h]
theorem resE_no {q : Rat} (h : ¬ Rok q) : resE q = 2 := by unfold resE; rw [if_neg h]
/-- Whether a pair of integers is a valid ratio. -/
@[irreducible] def vld (n d : Int) : Bool := decide (1 ≤ d ∧ d ≤ 1000000 ∧ n.natAbs ≤ 1000000000000 ∧ Nat.gcd n.natAbs d.toNat = 1)
theorem vld_eq (n d : Int) : vld n d = decide (1 ≤ d ∧ d ≤ 1000000 ∧ n.natAbs ≤ 1000000000000 ∧ Nat.gcd n.natAbs d.toNat = 1) := by unfold vld; rfl
/-- A valid ratio is a rational number within the limits. -/
theorem vld_q {n d : Int} (h : vld n d = true) : ∃ q : Rat, q.num = n ∧ (q.den : Int) = d ∧ Rok q := by
  rw [vld_eq] at h
  obtain ⟨h1, h2, h3, h4⟩ := of_decide_eq_true h
  exact ⟨⟨n, d.toNat, by omega, h4⟩, rfl, by show ((d.toNat : Nat) : Int) = d; omega, h3, by show d.toNat ≤ _; omega⟩
theorem vld_of (q : Rat) (h : Rok q) : vld q.num q.den = true := by
  rw [vld_eq, decide_eq_true_eq]
  have := q.den_nz
  exact ⟨by omega, by have := h.2; omega, h.1, by simpa using q.reduced⟩
theorem q_den_pos (q : Rat) : 1 ≤ (q.den : Int) := by have := q.den_nz; omega
/-- Two rational numbers with one numerator and one denominator. -/
theorem q_ext {p q : Rat} (h1 : p.num = q.num) (h2 : (p.den : Int) = q.den) : p = q := Rat.ext h1 (by omega)

/-- The quotient in lowest terms: its parts. -/
theorem div_den (n d : Int) (h : d ≠ 0) : (Rat.divInt n d).den = d.natAbs / Nat.gcd n.natAbs d.natAbs := by
  rw [Rat.den_divInt, if_neg h, Int.gcd_comm]; rfl
theorem gcd_pos (n d : Int) (h : d ≠ 0) : 0 < Nat.gcd n.natAbs d.natAbs := Nat.gcd_pos_of_pos_right _ (by omega)
theorem div_num (n d : Int) (h : d ≠ 0) : (Rat.divInt n d).num = if (decide (n < 0) != decide (d < 0)) = true then -((n.natAbs / Nat.gcd n.natAbs d.natAbs : Nat) : Int) else ((n.natAbs / Nat.gcd n.natAbs d.natAbs : Nat) : Int) := by
  rw [Rat.num_divInt, Int.gcd_comm]
  show d.sign * n / ((Nat.gcd n.natAbs d.natAbs : Nat) : Int) = _
  obtain ⟨k, hk⟩ := Nat.gcd_dvd_left n.natAbs d.natAbs
  have hg := gcd_pos n d h
  generalize Nat.gcd n.natAbs d.natAbs = g at *
  have e : n.natAbs / g = k := by rw [hk]; exact Nat.mul_div_cancel_left _ hg
  rw [e]
  have key : ∀ m : Int, (m = ((g * k : Nat) : Int) → m / (g : Int) = (k : Int)) ∧ (m = -((g * k : Nat) : Int) → m / (g : Int) = -(k : Int)) := fun m => by
    constructor
    · intro hm; rw [hm, Int.natCast_mul]; exact Int.mul_ediv_cancel_left _ (by omega)
    · intro hm; rw [hm, Int.natCast_mul, ← Int.mul_neg]; exact Int.mul_ediv_cancel_left _ (by omega)
  rcases (by omega : d < 0 ∨ 0 ≤ d) with hd | hd
  · have s : d.sign = -1 := Int.sign_eq_neg_one_of_neg hd
    rcases (by omega : n < 0 ∨ 0 ≤ n) with hn | hn
    · rw [if_neg (by simp [hn, hd]), s]
      exact (key _).1 (by omega)
    · rw [if_pos (by simp [hd]; omega), s]
      exact (key _).2 (by omega)
  · have s : d.sign = 1 := Int.sign_eq_one_of_pos (by omega)
    rcases (by omega : n < 0 ∨ 0 ≤ n) with hn | hn
    · rw [if_pos (by simp [hn]; omega), s]
      exact (key _).2 (by omega)
    · rw [if_neg (by simp; omega), s]
      exact (key _).1 (by omega)
theorem div_numAbs (n d : Int) (h : d ≠ 0) : (Rat.divInt n d).num.natAbs = n.natAbs / Nat.gcd n.natAbs d.natAbs := by
  rw [div_num n d h]
  split
  · rw [Int.natAbs_neg, Int.natAbs_natCast]
  · rw [Int.natAbs_natCast]
theorem div_Rok (n d : Int) (h : d ≠ 0) : Rok (Rat.divInt n d) ↔ n.natAbs / Nat.gcd n.natAbs d.natAbs ≤ 1000000000000 ∧ d.natAbs / Nat.gcd n.natAbs d.natAbs ≤ 1000000 := by
  unfold Rok; rw [div_numAbs n d h, div_den n d h]
theorem q_add (a b : Rat) : Rat.divInt (a.num * b.den + b.num * a.den) (a.den * b.den) = a + b := by
  have h := Rat.divInt_add_divInt a.num b.num (d₁ := a.den) (d₂ := b.den) (by have := a.den_nz; omega) (by have := b.den_nz; omega)
  rw [Rat.num_divInt_den, Rat.num_divInt_den] at h
  exact h.symm
theorem q_mul (a : Rat) (n d : Int) : Rat.divInt (a.num * n) (a.den * d) = a * Rat.divInt n d := by
  have h := Rat.divInt_mul_divInt a.num n (d₁ := a.den) (d₂ := d)
  rw [Rat.num_divInt_den] at h
  exact h.symm
theorem q_inv (b : Rat) : Rat.divInt b.den b.num = b⁻¹ := by
  have h := Rat.inv_divInt b.num b.den
  rw [Rat.num_divInt_den] at h
  exact h.symm

def sgn (x : Int) : Int := if x < 0 then -1 else 1
theorem sgn_abs (x : Int) : x = sgn x * (x.natAbs : Nat) := by unfold sgn; split <;> omega
theorem sgn_cases (x : Int) : (x < 0 ∧ sgn x = -1) ∨ (0 ≤ x ∧ sgn x = 1) := by unfold sgn; split <;> omega
/-- What the magnitudes of a product in lowest terms are. -/
theorem prod_parts (W X Y Z : Nat) (hX : 0 < X) (hZ : 0 < Z) (h1 : Nat.gcd W X = 1) (h2 : Nat.gcd Y Z = 1) :
    ∃ g h a b c d : Nat, g = Nat.gcd W Z ∧ h = Nat.gcd Y X ∧ 0 < g ∧ 0 < h ∧ W / g = a ∧ Z / g = b ∧ Y / h = c ∧ X / h = d ∧ W = g * a ∧ Z = g * b ∧ Y = h * c ∧ X = h * d ∧ 0 < b ∧ 0 < d ∧ Nat.gcd (a * c) (d * b) = 1 := by
  have hg : 0 < Nat.gcd W Z := Nat.gcd_pos_of_pos_right _ hZ
  have hh : 0 < Nat.gcd Y X := Nat.gcd_pos_of_pos_right _ hX
  have e1 := Nat.mul_div_cancel' (Nat.gcd_dvd_left W Z)
  have e2 := Nat.mul_div_cancel' (Nat.gcd_dvd_right W Z)
  have e3 := Nat.mul_div_cancel' (Nat.gcd_dvd_left Y X)
  have e4 := Nat.mul_div_cancel' (Nat.gcd_dvd_right Y X)
  refine ⟨_, _, _, _, _, _, rfl, rfl, hg, hh, rfl, rfl, rfl, rfl, e1.symm, e2.symm, e3.symm, e4.symm, ?_, ?_, ?_⟩
  · exact Nat.div_pos (Nat.le_of_dvd hZ (Nat.gcd_dvd_right _ _)) hg
  · exact Nat.div_pos (Nat.le_of_dvd hX (Nat.gcd_dvd_right _ _)) hh
  · have dW : W / Nat.gcd W Z ∣ W := ⟨_, by rw [Nat.mul_comm]; exact e1.symm⟩
    have dZ : Z / Nat.gcd W Z ∣ Z := ⟨_, by rw [Nat.mul_comm]; exact e2.symm⟩
    have dY : Y / Nat.gcd Y X ∣ Y := ⟨_, by rw [Nat.mul_comm]; exact e3.symm⟩
    have dX : X / Nat.gcd Y X ∣ X := ⟨_, by rw [Nat.mul_comm]; exact e4.symm⟩
    have c1 : Nat.Coprime (W / Nat.gcd W Z) (X / Nat.gcd Y X) := (Nat.Coprime.coprime_dvd_left dW h1).coprime_dvd_right dX
    have c2 : Nat.Coprime (W / Nat.gcd W Z) (Z / Nat.gcd W Z) := Nat.coprime_div_gcd_div_gcd hg
    have c3 : Nat.Coprime (Y / Nat.gcd Y X) (X / Nat.gcd Y X) := Nat.coprime_div_gcd_div_gcd hh
    have c4 : Nat.Coprime (Y / Nat.gcd Y X) (Z / Nat.gcd W Z) := (Nat.Coprime.coprime_dvd_left dY h2).coprime_dvd_right dZ
    exact (c1.mul_right c2).mul_left (c3.mul_right c4)
/-- The product as a quotient of the parts. -/
theorem prod_rat (an ad num den : Int) (g h a b c d : Nat) (hg : 0 < g) (hh : 0 < h) (hb : 0 < b) (hd : 0 < d) (e1 : an.natAbs = g * a) (e2 : den.natAbs = g * b) (e3 : num.natAbs = h * c) (e4 : ad = ((h * d : Nat) : Int)) :
    Rat.divInt (sgn an * sgn num * sgn den * ((a * c : Nat) : Int)) ((d * b : Nat) : Int) = Rat.divInt (an * num) (ad * den) := by
  have k1 := sgn_abs an
  have k2 := sgn_abs num
  have k3 := sgn_abs den
  rw [e1] at k1; rw [e3] at k2; rw [e2] at k3
  have s3 : sgn den * sgn den = 1 := by unfold sgn; split <;> rfl
  have n1 : ad ≠ 0 := by rw [e4]; have := Nat.mul_pos hh hd; omega
  have n2 : den ≠ 0 := by
    intro hz; rw [hz] at e2; have := Nat.mul_pos hg hb; simp at e2; omega
  rw [Rat.divInt_eq_divInt_iff (by have := Nat.mul_pos hd hb; omega) (Int.mul_ne_zero n1 n2)]
  generalize sgn an = s1 at *
  generalize sgn num = s2 at *
  generalize sgn den = s at *
  rw [k1, k2, k3, e4]
  simp only [Int.natCast_mul]
  have : s1 * s2 * s * (a * c) * (h * d * (s * (g * b))) = s1 * s2 * (s * s) * (a * c) * (h * d * (g * b)) := by
    simp only [Int.mul_assoc, Int.mul_left_comm, Int.mul_comm]
  rw [this, s3, Int.mul_one]
  simp only [Int.mul_assoc, Int.mul_left_comm, Int.mul_comm]
/-- The sign of the product. -/
theorem prod_sign (an num den : Int) (n : Nat) (hn : n ≠ 0) (D : Nat) :
    (decide (sgn an * sgn num * sgn den * (n : Int) < 0) != decide ((D : Int) < 0)) = (decide (an < 0) != (decide (num < 0) != decide (den < 0))) := by
  have hD : decide ((D : Int) < 0) = false := by simp
  rw [hD]
  rcases sgn_cases an with ⟨h1, e1⟩ | ⟨h1, e1⟩ <;> rcases sgn_cases num with ⟨h2, e2⟩ | ⟨h2, e2⟩ <;> rcases sgn_cases den with ⟨h3, e3⟩ | ⟨h3, e3⟩ <;> rw [e1, e2, e3] <;>
    simp [h1, h2, h3, show ∀ x : Int, (0 ≤ x → ¬ x < 0) from fun x => by omega] <;> omega
theorem prod_abs (an num den : Int) (n : Nat) : (sgn an * sgn num * sgn den * (n : Int)).natAbs = n := by
  rcases sgn_cases an with ⟨h1, e1⟩ | ⟨h1, e1⟩ <;> rcases sgn_cases num with ⟨h2, e2⟩ | ⟨h2, e2⟩ <;> rcases sgn_cases den with ⟨h3, e3⟩ | ⟨h3, e3⟩ <;> rw [e1, e2, e3] <;> omega
end Go.Proofs.YtfcdoifijgbjeaaDoor
