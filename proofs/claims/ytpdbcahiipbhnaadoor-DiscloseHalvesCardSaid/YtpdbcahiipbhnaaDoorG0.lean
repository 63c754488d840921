/- Layer 29: 7 is a primitive root modulo the prime: plain. -/
import Derived.Test.YtpdbcahiipbhnaaDoorP0
namespace Go.Proofs.YtpdbcahiipbhnaaDoor

/-- A fast power. -/
def fpw : Nat → Nat → Nat → Nat
  | 0, _, _ => 1
  | k + 1, b, n => if n % 2 = 1 then fpw k (b * b % 2147483647) (n / 2) * b % 2147483647 else fpw k (b * b % 2147483647) (n / 2)
theorem pw_base_mod (b n : Nat) : pw (b % 2147483647) n = pw b n := by rw [pw_eq, pw_eq, ← Nat.pow_mod]
theorem pw_sq (b n : Nat) : pw (b * b % 2147483647) n = pw b (2 * n) := by
  rw [pw_base_mod, pw_eq, pw_eq, Nat.pow_mul, Nat.pow_two]
theorem fpw_eq : ∀ (k b n : Nat), n < 2 ^ k → b < 2147483647 → fpw k b n = pw b n
  | 0, b, n, h, _ => by obtain rfl : n = 0 := by simpa using h
                        rw [pw_zero]; rfl
  | k + 1, b, n, h, hb => by
    have ih := fpw_eq k (b * b % 2147483647) (n / 2) (by rw [Nat.pow_succ] at h; omega) (Nat.mod_lt _ (by omega))
    rw [pw_sq] at ih
    unfold fpw
    rw [ih]
    split
    · rw [show n = 2 * (n / 2) + 1 by omega, pw_add, pw_one b hb]
      rw [show (2 * (n / 2) + 1) / 2 = n / 2 by omega]
    · rw [show 2 * (n / 2) = n by omega]
theorem pw7_full : pw 7 2147483646 = 1 := by rw [← fpw_eq 31 7 2147483646 (by decide) (by omega)]; decide +kernel
theorem pw7_five : pw 7 5 = 16807 := by rw [← fpw_eq 31 7 5 (by decide) (by omega)]; decide +kernel
theorem pw7_two : pw 7 2 = 49 := by rw [← fpw_eq 31 7 2 (by decide) (by omega)]; decide +kernel

theorem pw_mulexp (b m n : Nat) : pw b (m * n) = pw (pw b m) n := by
  rw [pw_eq, pw_eq (pw b m), pw_eq b m, Nat.pow_mul, ← Nat.pow_mod]
theorem pw_onebase (n : Nat) : pw 1 n = 1 := by rw [pw_eq, Nat.one_pow]
theorem pw7_cycle (m : Nat) : pw 7 (2147483646 * m) = 1 := by rw [pw_mulexp, pw7_full, pw_onebase]
theorem pw7_mod (n : Nat) : pw 7 (n % 2147483646) = pw 7 n := by
  have h := pw_add 7 (2147483646 * (n / 2147483646)) (n % 2147483646)
  rw [Nat.div_add_mod, pw7_cycle, Nat.one_mul, Nat.mod_eq_of_lt (pw_lt _ _)] at h
  exact h.symm
theorem pw7_inv (n : Nat) : ∃ m, pw 7 n * pw 7 m % 2147483647 = 1 := by
  refine ⟨2147483646 - n % 2147483646, ?_⟩
  rw [← pw7_mod n, ← pw_add]
  have : n % 2147483646 < 2147483646 := Nat.mod_lt _ (by omega)
  rw [show n % 2147483646 + (2147483646 - n % 2147483646) = 2147483646 by omega, pw7_full]
theorem pw7_pos (n : Nat) : 1 ≤ pw 7 n := by
  obtain ⟨m, h⟩ := pw7_inv n
  rcases Nat.eq_zero_or_pos (pw 7 n) with h0 | h0
  · rw [h0] at h; simp at h
  · exact h0
theorem mulmod_assoc (a b c : Nat) : a * (b * c % 2147483647) % 2147483647 = (a * b % 2147483647) * c % 2147483647 := by
  rw [Nat.mul_mod, Nat.mod_mod, ← Nat.mul_mod, Nat.mul_mod (a * b % 2147483647), Nat.mod_mod, ← Nat.mul_mod, Nat.mul_assoc]
/-- A power of the base can be cancelled. -/
theorem pw7_cancel (k a b : Nat) (ha : a < 2147483647) (hb : b < 2147483647) (h : pw 7 k * a % 2147483647 = pw 7 k * b % 2147483647) : a = b := by
  obtain ⟨m, hm⟩ := pw7_inv k
  have e : ∀ x, x < 2147483647 → pw 7 m * (pw 7 k * x % 2147483647) % 2147483647 = x := fun x hx => by
    rw [mulmod_assoc, Nat.mul_comm (pw 7 m), hm, Nat.one_mul, Nat.mod_eq_of_lt hx]
  rw [← e a ha, ← e b hb, h]
/-- The exponents at which the power is 1 are closed under the remainder. -/
theorem one_mod (m n : Nat) (hm : pw 7 m = 1) (hn : pw 7 n = 1) : pw 7 (m % n) = 1 := by
  have h := pw_add 7 (n * (m / n)) (m % n)
  rw [Nat.div_add_mod, pw_mulexp, hn, pw_onebase, Nat.one_mul, Nat.mod_eq_of_lt (pw_lt _ _), hm] at h
  exact h.symm
theorem one_gcd (m : Nat) : ∀ n, pw 7 m = 1 → pw 7 n = 1 → pw 7 (Nat.gcd m n) = 1 := by
  induction m using Nat.strongRecOn with
  | ind m ih =>
    intro n hm hn
    by_cases h0 : m = 0
    · rw [h0, Nat.gcd_zero_left]; exact hn
    · rw [Nat.gcd_rec]
      exact ih (n % m) (Nat.mod_lt _ (by omega)) m (one_mod n m hn hm) hm
theorem cop_of (q m : Nat) (hq : ∀ d, d ≤ q → d ∣ q → d = 1 ∨ d = q) (hq0 : 0 < q) (h : ¬ q ∣ m) : Nat.Coprime m q := by
  rcases hq (Nat.gcd m q) (Nat.le_of_dvd hq0 (Nat.gcd_dvd_right _ _)) (Nat.gcd_dvd_right _ _) with h1 | h1
  · exact h1
  · exact absurd (h1 ▸ Nat.gcd_dvd_left m q) h
/-- A divisor of the order with a power 1 at it is the order. -/
theorem order_div (d q : Nat) (hd : d * q ∣ 2147483646) (hp : pw 7 d = 1) : pw 7 (2147483646 / q) = 1 := by
  obtain ⟨c, hc⟩ := hd
  rcases Nat.eq_zero_or_pos q with h0 | h0
  · rw [h0, Nat.mul_zero, Nat.zero_mul] at hc; exact absurd hc (by decide)
  · have : 2147483646 / q = d * c := by
      rw [hc, show d * q * c = q * (d * c) by rw [Nat.mul_comm d q, Nat.mul_assoc]]
      exact Nat.mul_div_cancel_left _ h0
    rw [this, pw_mulexp, hp, pw_onebase]
theorem order_ne (q : Nat) (h : fpw 31 7 (2147483646 / q) ≠ 1) : pw 7 (2147483646 / q) ≠ 1 := by
  rw [← fpw_eq 31 7 _ (Nat.lt_of_le_of_lt (Nat.div_le_self _ _) (by decide)) (by omega)]; exact h
theorem order_full (d : Nat) (hd : d ∣ 2147483646) (hp : pw 7 d = 1) : d = 2147483646 := by
  obtain ⟨m, hm⟩ := hd
  have step : ∀ q, (∀ d, d ≤ q → d ∣ q → d = 1 ∨ d = q) → 0 < q → fpw 31 7 (2147483646 / q) ≠ 1 → Nat.Coprime m q := fun q h1 h2 h3 =>
    cop_of q m h1 h2 fun ⟨c, hc⟩ => order_ne q h3 (order_div d q ⟨c, by rw [hm, hc, Nat.mul_assoc]⟩ hp)
  have c2 := step 2 (by decide +kernel) (by decide) (by decide +kernel)
  have c3 := step 3 (by decide +kernel) (by decide) (by decide +kernel)
  have c7 := step 7 (by decide +kernel) (by decide) (by decide +kernel)
  have c11 := step 11 (by decide +kernel) (by decide) (by decide +kernel)
  have c31 := step 31 (by decide +kernel) (by decide) (by decide +kernel)
  have c151 := step 151 (by decide +kernel) (by decide) (by decide +kernel)
  have c331 := step 331 (by decide +kernel) (by decide) (by decide +kernel)
  have all : Nat.Coprime m 2147483646 := by
    have := (((((((c2.mul_right c3).mul_right c3).mul_right c7).mul_right c11).mul_right c31).mul_right c151).mul_right c331)
    exact this
  have h1 : m = 1 := by
    have : m ∣ 2147483646 := ⟨d, by rw [hm, Nat.mul_comm]⟩
    have := Nat.gcd_eq_left this
    rw [Nat.Coprime] at all
    omega
  rw [h1, Nat.mul_one] at hm
  exact hm.symm
theorem pw7_ne (n : Nat) (h1 : 0 < n) (h2 : n < 2147483646) : pw 7 n ≠ 1 := by
  intro h
  have g := one_gcd n 2147483646 h pw7_full
  have := order_full _ (Nat.gcd_dvd_right _ _) g
  have h3 : Nat.gcd n 2147483646 ≤ n := Nat.gcd_le_left _ h1
  omega
theorem pw7_inj' (m n : Nat) (hmn : m ≤ n) (hn : n < 2147483646) (h : pw 7 m = pw 7 n) : m = n := by
  rcases Nat.eq_or_lt_of_le hmn with e | e
  · exact e
  · exfalso
    refine pw7_ne (n - m) (by omega) (by omega) (pw7_cancel m _ _ (pw_lt _ _) (by omega) ?_)
    rw [← pw_add, show m + (n - m) = n by omega, Nat.mul_one, Nat.mod_eq_of_lt (pw_lt _ _), h]
theorem pw7_inj (m n : Nat) (hm : m < 2147483646) (hn : n < 2147483646) (h : pw 7 m = pw 7 n) : m = n := by
  rcases Nat.le_total m n with e | e
  · exact pw7_inj' m n e hn h
  · exact (pw7_inj' n m e hm h.symm).symm
/-- A function of a beginning of the numbers into itself that keeps numbers apart meets each. -/
theorem onto : ∀ (n : Nat) (f : Nat → Nat), (∀ i, i < n → f i < n) → (∀ i j, i < n → j < n → f i = f j → i = j) → ∀ y, y < n → ∃ x, x < n ∧ f x = y
  | 0, _, _, _, y, h => absurd h (by omega)
  | n + 1, f, hf, hi, y, hy => by
    have hg : ∀ i, i < n → (if f i = n then f n else f i) < n := fun i h => by
      by_cases e : f i = n
      · rw [if_pos e]
        have h1 := hf n (by omega)
        have h2 : f n ≠ n := fun h2 => by have := hi i n (by omega) (by omega) (by rw [e, h2]); omega
        omega
      · rw [if_neg e]; have := hf i (by omega); omega
    have hgi : ∀ i j, i < n → j < n → (if f i = n then f n else f i) = (if f j = n then f n else f j) → i = j := fun i j h1 h2 h => by
      by_cases e1 : f i = n <;> by_cases e2 : f j = n
      · exact hi i j (by omega) (by omega) (by rw [e1, e2])
      · rw [if_pos e1, if_neg e2] at h; have := hi n j (by omega) (by omega) h; omega
      · rw [if_neg e1, if_pos e2] at h; have := hi i n (by omega) (by omega) h; omega
      · rw [if_neg e1, if_neg e2] at h; exact hi i j (by omega) (by omega) h
    have ih := onto n (fun i => if f i = n then f n else f i) hg hgi
    by_cases e : f n = y
    · exact ⟨n, by omega, e⟩
    · by_cases ey : y = n
      · have h1 := hf n (by omega)
        obtain ⟨x, hx, h⟩ := ih (f n) (by omega)
        have h : (if f x = n then f n else f x) = f n := h
        by_cases e3 : f x = n
        · exact ⟨x, by omega, by rw [e3, ey]⟩
        · rw [if_neg e3] at h; have := hi x n (by omega) (by omega) h; omega
      · obtain ⟨x, hx, h⟩ := ih y (by omega)
        have h : (if f x = n then f n else f x) = y := h
        by_cases e3 : f x = n
        · rw [if_pos e3] at h; exact absurd h e
        · rw [if_neg e3] at h; exact ⟨x, by omega, h⟩
/-- Every element is a power of the base. -/
theorem pw7_onto (b : Nat) (h1 : 1 ≤ b) (h2 : b < 2147483647) : ∃ k, k < 2147483646 ∧ pw 7 k = b := by
  obtain ⟨k, hk, h⟩ := onto 2147483646 (fun i => pw 7 i - 1) (fun i _ => by have := pw_lt 7 i; have := pw7_pos i; show pw 7 i - 1 < _; omega)
    (fun i j hi hj h => pw7_inj i j hi hj (by have := pw7_pos i; have := pw7_pos j; have h : pw 7 i - 1 = pw 7 j - 1 := h; omega)) (b - 1) (by omega)
  have h : pw 7 k - 1 = b - 1 := h
  exact ⟨k, hk, by have := pw7_pos k; omega⟩
theorem pw_pos (b n : Nat) (h1 : 1 ≤ b) (h2 : b < 2147483647) : 1 ≤ pw b n := by
  obtain ⟨k, _, rfl⟩ := pw7_onto b h1 h2
  rw [← pw_mulexp]; exact pw7_pos _
theorem pw_full (b : Nat) (h1 : 1 ≤ b) (h2 : b < 2147483647) : pw b 2147483646 = 1 := by
  obtain ⟨k, _, rfl⟩ := pw7_onto b h1 h2
  rw [← pw_mulexp, Nat.mul_comm]; exact pw7_cycle _
theorem el_cancel (r a b : Nat) (h1 : 1 ≤ r) (h2 : r < 2147483647) (ha : a < 2147483647) (hb : b < 2147483647) (h : r * a % 2147483647 = r * b % 2147483647) : a = b := by
  obtain ⟨k, _, rfl⟩ := pw7_onto r h1 h2
  exact pw7_cancel k a b ha hb h
/-- The signature's equation. -/
theorem sign_eq (k c x : Nat) : pw 7 ((k + c * x % 2147483646) % 2147483646) = pw 7 k * pw (pw 7 x) c % 2147483647 := by
  rw [pw7_mod, pw_add, pw7_mod, ← pw_mulexp, Nat.mul_comm x c]
end Go.Proofs.YtpdbcahiipbhnaaDoor
