/- Layer 29: powers modulo the prime, plain; sign.Power. -/
import Derived.Test.YtpdbcahiipbhnaaDoorR3
namespace Go.Proofs.YtpdbcahiipbhnaaDoor
open Go.RowKit

/-- The power modulo the prime. -/
@[irreducible] def pw (b n : Nat) : Nat := b ^ n % 2147483647
theorem pw_eq (b n : Nat) : pw b n = b ^ n % 2147483647 := by unfold pw; rfl
theorem pw_lt (b n : Nat) : pw b n < 2147483647 := by rw [pw_eq]; exact Nat.mod_lt _ (by omega)
theorem pw_zero (b : Nat) : pw b 0 = 1 := by rw [pw_eq]; rfl
theorem pw_one (b : Nat) (h : b < 2147483647) : pw b 1 = b := by rw [pw_eq, Nat.pow_one]; exact Nat.mod_eq_of_lt h
theorem pw_add (b m n : Nat) : pw b (m + n) = pw b m * pw b n % 2147483647 := by
  rw [pw_eq, pw_eq, pw_eq, Nat.pow_add, Nat.mul_mod]
theorem pw_mod (b n : Nat) : pw (b % 2147483647) n = pw b n := by rw [pw_eq, pw_eq, ← Nat.pow_mod]

theorem low_zero (n : Nat) : n % 2 ^ 0 = 0 := by simp [Nat.mod_one]
theorem low_succ (n k : Nat) : n % 2 ^ (k + 1) = n % 2 ^ k + n / 2 ^ k % 2 * 2 ^ k := by
  rw [Nat.pow_succ, Nat.mod_mul]
  rw [Nat.mul_comm (n / 2 ^ k % 2)]
theorem sq_succ (b k : Nat) : pw b (2 ^ k) * pw b (2 ^ k) % 2147483647 = pw b (2 ^ (k + 1)) := by
  rw [← pw_add, Nat.pow_succ]; congr 1; omega

theorem and_one_nat (m : Nat) (h : m < 9223372036854775808) : bits .and .i64 (m : Int) 1 = ((m % 2 : Nat) : Int) := by
  have h1 : (BitVec.ofInt 64 1).toNat = 2 ^ 1 - 1 := by decide
  have key : (BitVec.ofInt 64 (m : Int) &&& BitVec.ofInt 64 1).toNat = ((m : Int) % ((2 ^ 64 : Nat) : Int)).toNat % 2 ^ 1 := by
    rw [BitVec.toNat_and, BitVec.toNat_ofInt, h1, Nat.and_two_pow_sub_one_eq_mod]
  show IntKind.i64.wrap ((BitVec.ofInt 64 (m : Int) &&& BitVec.ofInt 64 1).toNat : Nat) = _
  rw [key, IntKind.wrap_i64]
  omega

set_option maxHeartbeats 400000 in
theorem times_any (a b : Nat) (w : World) (ha : a < 2147483647) (hb : b < 2147483647) :
    Calls Tryd.prog 101 #[.int .i64 a, .int .i64 b] w fun e w' => e = .returned (.int .i64 ((a * b % 2147483647 : Nat) : Int)) ∧ w = w' := by
  have h1 : a * b ≤ 2147483646 * 2147483646 := Nat.mul_le_mul (by omega) (by omega)
  have h2 : ((a : Int) * (b : Int)) = ((a * b : Nat) : Int) := by simp
  have h3 : wrap64 ((a : Int) * (b : Int)) = ((a * b : Nat) : Int) := by rw [h2]; unfold wrap64; omega
  have h4 : (((a * b : Nat) : Int)).tmod 2147483647 = ((a * b % 2147483647 : Nat) : Int) := by rw [Int.tmod_eq_emod_of_nonneg (by omega)]; omega
  generalize a * b = c at h1 h2 h3 h4 ⊢
  generalize hd : c % 2147483647 = d at h4 ⊢
  have hd2 : d < 2147483647 := by omega
  have h5 : wrap64 (d : Int) = d := by unfold wrap64; omega
  clear hd
  go_enter Tryd.func101, Tryd.ntmps101
  go_wp2
  go_ret
  exact ⟨rfl, rfl⟩

set_option maxHeartbeats 400000 in
theorem element_any (n : Int) (w : World) :
    Calls Tryd.prog 82 #[.int .i64 n] w fun e w' => e = .returned (.bool (decide (0 < n) && decide (n < 2147483647))) ∧ w = w' := by
  by_cases h : 0 < n
  · have hd : decide (0 < n) = true := by simp [h]
    go_enter Tryd.func82, Tryd.ntmps82
    go_wp2
    go_ret
    exact ⟨by simp [h], rfl⟩
  · have hd : decide (0 < n) = false := by simp [h]
    go_enter Tryd.func82, Tryd.ntmps82
    go_wp2
    go_ret
    exact ⟨by simp, rfl⟩

theorem low_all (n k : Nat) (h : n / 2 ^ k = 0) : n % 2 ^ k = n := Nat.mod_eq_of_lt (by
  rcases Nat.lt_or_ge n (2 ^ k) with h1 | h1
  · exact h1
  · have := Nat.div_pos h1 (Nat.two_pow_pos k); omega)
theorem bit_one (b n k : Nat) (h : n / 2 ^ k % 2 = 1) : pw b (n % 2 ^ k) * pw b (2 ^ k) % 2147483647 = pw b (n % 2 ^ (k + 1)) := by
  rw [← pw_add, low_succ, h, Nat.one_mul]
theorem bit_zero (n k : Nat) (h : ¬ n / 2 ^ k % 2 = 1) : n % 2 ^ k = n % 2 ^ (k + 1) := by
  rw [low_succ, show n / 2 ^ k % 2 = 0 by omega]; omega

set_option maxHeartbeats 1000000 in
theorem Power_in (b n : Nat) (w : World) (hb1 : 1 ≤ b) (hb2 : b < 2147483647) (hn : n < 9223372036854775808) :
    Calls Tryd.prog 81 #[.int .i64 b, .int .i64 n] w fun e w' => e = .returned (.int .i64 (pw b n : Nat)) ∧ w = w' := by
  have hel := element_any (b : Int)
  rw [show (decide ((0 : Int) < (b : Int)) && decide ((b : Int) < 2147483647)) = true by simp; omega] at hel
  have HN : Hid (n < 2 ^ 63) := Lib.hid hn
  have hn0 : ¬ (n : Int) < 0 := by omega
  clear hn
  go_enter Tryd.func81, Tryd.ntmps81
  go_wp2_with fail
  refine (hel _).mono ?_
  rintro e w1 ⟨rfl, rfl⟩
  go_wp2_with fail
  go_loopg [6, 7, 17] 63 (fun gk o q i wr => ∃ k : Nat, k + gk = 63 ∧ i = .int .i64 (k : Nat) ∧ o = .int .i64 (pw b (n % 2 ^ k) : Nat) ∧ q = .int .i64 (pw b (2 ^ k) : Nat) ∧ wr = w)
  case atStart => exact ⟨0, by omega, rfl, by rw [low_zero, pw_zero]; rfl, by rw [Nat.pow_zero, pw_one b hb2], rfl⟩
  case round =>
    obtain ⟨k, hk, rfl, rfl, rfl, rfl⟩ := hrel
    by_cases hlt : k < 63
    · have hlt' : (k : Int) < 63 := by omega
      have hdiv : (n : Int) / 2 ^ k = ((n / 2 ^ k : Nat) : Int) := by simp
      have ho := pw_lt b (n % 2 ^ k)
      have hq := pw_lt b (2 ^ k)
      have HQ := Lib.hid (sq_succ b k)
      have HB1 := Lib.hid (bit_one b n k)
      have HB0 := Lib.hid (bit_zero n k)
      have HAll := Lib.hid (low_all n k)
      have hM : n / 2 ^ k < 9223372036854775808 := by
        have : n / 2 ^ k ≤ n := Nat.div_le_self _ _
        have := HN.out
        omega
      have hand := and_one_nat (n / 2 ^ k) hM
      by_cases hz : n / 2 ^ k = 0
      · rw [hz] at hdiv
        have hfin := HAll.out hz
        have hz' : ((n : Int) / 2 ^ k == 0) = true := by rw [hdiv]; rfl
        clear hand
        go_wp2_with fail
        go_ret
        exact ⟨by rw [hfin]; rfl, rfl⟩
      · generalize n / 2 ^ k = M at hdiv hM hand hz HB1 HB0 HAll
        have hz' : ((M : Int) == 0) = false := by simp; omega
        by_cases hodd : M % 2 = 1
        · rw [hodd] at hand
          go_wp2_with fail
          refine (times_any _ _ _ ho hq).mono ?_
          rintro e w1 ⟨rfl, rfl⟩
          rw [HB1.out hodd]
          go_wp2_with fail
          refine (times_any _ _ _ hq hq).mono ?_
          rintro e w1 ⟨rfl, rfl⟩
          rw [HQ.out]
          go_wp2_with fail
          go_roundg (gk - 1)
          case measure => omega
          case rel => exact ⟨k + 1, by omega, by go_num, rfl, rfl, rfl⟩
        · rw [show M % 2 = 0 by omega] at hand
          go_wp2_with fail
          refine (times_any _ _ _ hq hq).mono ?_
          rintro e w1 ⟨rfl, rfl⟩
          rw [HQ.out]
          go_wp2_with fail
          go_roundg (gk - 1)
          case measure => omega
          case rel => exact ⟨k + 1, by omega, by go_num, by rw [HB0.out hodd], rfl, rfl⟩
    · obtain rfl : gk = 0 := by omega
      obtain rfl : k = 63 := by omega
      have hfin : n % 2 ^ 63 = n := Nat.mod_eq_of_lt HN.out
      rw [hfin]
      clear hfin
      go_wp2_with fail
      go_ret
      exact ⟨rfl, rfl⟩

/-- What both Power functions return. -/
def pwI (b n : Int) : Int := if 1 ≤ b ∧ b < 2147483647 ∧ 0 ≤ n then (pw b.toNat n.toNat : Nat) else 0
theorem pwI_in {b n : Int} (h1 : 1 ≤ b) (h2 : b < 2147483647) (h3 : 0 ≤ n) : pwI b n = (pw b.toNat n.toNat : Nat) := by unfold pwI; rw [if_pos ⟨h1, h2, h3⟩]
theorem pwI_out {b n : Int} (h : ¬ (1 ≤ b ∧ b < 2147483647 ∧ 0 ≤ n)) : pwI b n = 0 := by unfold pwI; rw [if_neg h]
theorem pwI_lt (b n : Int) : 0 ≤ pwI b n ∧ pwI b n < 2147483647 := by
  unfold pwI
  split
  · have := pw_lt b.toNat n.toNat; omega
  · omega

set_option maxHeartbeats 400000 in
theorem Power_out1 (b n : Int) (w : World) (h : ¬ (0 < b ∧ b < 2147483647)) :
    Calls Tryd.prog 81 #[.int .i64 b, .int .i64 n] w fun e w' => e = .returned (.int .i64 0) ∧ w = w' := by
  have hel := element_any b
  rw [show (decide (0 < b) && decide (b < 2147483647)) = false by simp; omega] at hel
  clear h
  go_enter Tryd.func81, Tryd.ntmps81
  go_wp2_with fail
  refine (hel _).mono ?_
  rintro e w1 ⟨rfl, rfl⟩
  go_wp2_with fail
  go_ret
  exact ⟨rfl, rfl⟩
set_option maxHeartbeats 400000 in
theorem Power_out2 (b n : Int) (w : World) (h : 0 < b ∧ b < 2147483647) (hn : n < 0) :
    Calls Tryd.prog 81 #[.int .i64 b, .int .i64 n] w fun e w' => e = .returned (.int .i64 0) ∧ w = w' := by
  have hel := element_any b
  rw [show (decide (0 < b) && decide (b < 2147483647)) = true by simp; omega] at hel
  go_enter Tryd.func81, Tryd.ntmps81
  go_wp2_with fail
  refine (hel _).mono ?_
  rintro e w1 ⟨rfl, rfl⟩
  go_wp2_with fail
  go_ret
  exact ⟨rfl, rfl⟩
theorem Power_any (b n : Int) (w : World) (hn : n ≤ 9223372036854775807) :
    Calls Tryd.prog 81 #[.int .i64 b, .int .i64 n] w fun e w' => e = .returned (.int .i64 (pwI b n)) ∧ w = w' := by
  by_cases h : 0 < b ∧ b < 2147483647
  · by_cases h0 : n < 0
    · rw [pwI_out (by omega)]; exact Power_out2 b n w h h0
    · rw [pwI_in (by omega) h.2 (by omega)]
      have := Power_in b.toNat n.toNat w (by omega) (by omega) (by omega)
      rwa [show ((b.toNat : Nat) : Int) = b by omega, show ((n.toNat : Nat) : Int) = n by omega] at this
  · rw [pwI_out (by omega)]; exact Power_out1 b n w h
end Go.Proofs.YtpdbcahiipbhnaaDoor
