/- Layer 29: the reference's Power, decimal. -/
import Derived.Test.YtpdbcahiipbhnaaDoorP0
namespace Go.Proofs.YtpdbcahiipbhnaaDoor
open Go.RowKit

theorem pw_even (b n : Nat) (h : n % 2 = 0) : pw b (n / 2) * pw b (n / 2) % 2147483647 = pw b n := by
  rw [← pw_add]; congr 1; omega
theorem pw_odd (b n : Nat) (hb : b < 2147483647) (h : n % 2 = 1) : pw b (n / 2) * pw b (n / 2) % 2147483647 * b % 2147483647 = pw b n := by
  rw [← pw_add]
  have := pw_add b (n / 2 + n / 2) 1
  rw [pw_one b hb] at this
  rw [← this]; congr 1; omega

set_option maxHeartbeats 400000 in
theorem RPower_zero (b : Nat) (w : World) (hb1 : 1 ≤ b) (hb2 : b < 2147483647) :
    Calls Tryd.prog 93 #[.int .i64 b, .int .i64 0] w fun e w' => e = .returned (.int .i64 (pw b 0 : Nat)) ∧ w = w' := by
  rw [pw_zero]
  go_enter Tryd.func93, Tryd.ntmps93
  go_wp2_with fail
  go_ret
  exact ⟨rfl, rfl⟩

theorem mul_facts {a c : Nat} (ha : a < 2147483647) (hc : c < 2147483647) : wrap64 ((a : Int) * (c : Int)) = ((a * c : Nat) : Int) ∧ (((a * c : Nat) : Int)).tmod 2147483647 = ((a * c % 2147483647 : Nat) : Int) ∧ a * c ≤ 2147483646 * 2147483646 := by
  have h1 : a * c ≤ 2147483646 * 2147483646 := Nat.mul_le_mul (by omega) (by omega)
  have h2 : ((a : Int) * (c : Int)) = ((a * c : Nat) : Int) := by simp
  refine ⟨by rw [h2]; unfold wrap64; omega, by rw [Int.tmod_eq_emod_of_nonneg (by omega)]; omega, h1⟩
theorem wrap_small {d : Nat} (h : d < 2147483647) : wrap64 (d : Int) = (d : Int) := by unfold wrap64; omega

set_option maxHeartbeats 1000000 in
theorem RPower_step (b n : Nat) (w : World) (hb1 : 1 ≤ b) (hb2 : b < 2147483647) (hn : n < 9223372036854775808) (h0 : n ≠ 0)
    (ih : ∀ w, Calls Tryd.prog 93 #[.int .i64 b, .int .i64 (n / 2 : Nat)] w fun e w' => e = .returned (.int .i64 (pw b (n / 2) : Nat)) ∧ w = w') :
    Calls Tryd.prog 93 #[.int .i64 b, .int .i64 n] w fun e w' => e = .returned (.int .i64 (pw b n : Nat)) ∧ w = w' := by
  have hq : (n : Int).tdiv 2 = ((n / 2 : Nat) : Int) := by rw [Int.tdiv_eq_ediv_of_nonneg (by omega)]; omega
  have hr : (n : Int).tmod 2 = ((n % 2 : Nat) : Int) := by rw [Int.tmod_eq_emod_of_nonneg (by omega)]; omega
  have hw : wrap64 ((n / 2 : Nat) : Int) = ((n / 2 : Nat) : Int) := by unfold wrap64; omega
  have hn0 : ¬ (n : Int) < 0 := by omega
  have hz : ((n : Int) == 0) = false := by simp; omega
  have hl := pw_lt b (n / 2)
  have HE := Lib.hid (pw_even b n)
  have HO := Lib.hid (pw_odd b n hb2)
  have IH := Lib.hid ih
  clear ih
  obtain ⟨m1, m2, m3⟩ := mul_facts hl hl
  have ml : pw b (n / 2) * pw b (n / 2) % 2147483647 < 2147483647 := Nat.mod_lt _ (by omega)
  have ms := wrap_small ml
  obtain ⟨k1, k2, k3⟩ := mul_facts ml hb2
  have kl : pw b (n / 2) * pw b (n / 2) % 2147483647 * b % 2147483647 < 2147483647 := Nat.mod_lt _ (by omega)
  have ks := wrap_small kl
  have hb1' : (1 : Int) ≤ (b : Int) := by omega
  have hb2' : (b : Int) ≤ 2147483646 := by omega
  go_enter Tryd.func93, Tryd.ntmps93
  go_wp2_with fail
  refine (IH.out _).mono ?_
  rintro e w1 ⟨rfl, rfl⟩
  by_cases hodd : n % 2 = 1
  · rw [hodd] at hr
    have hfin := HO.out hodd
    generalize hc : pw b (n / 2) * pw b (n / 2) = c at m1 m2 m3 ml ms k1 k2 k3 kl ks hfin
    clear hc
    generalize hd : c % 2147483647 = d at m2 ml ms k1 k2 k3 kl ks hfin
    clear hd
    generalize hf : d * b = f at k1 k2 k3 kl ks hfin
    clear hf
    go_wp2_with fail
    go_ret
    exact ⟨rfl, rfl⟩
  · rw [show n % 2 = 0 by omega] at hr
    have hfin := HE.out (by omega)
    clear k1 k2 k3 kl ks
    generalize hc : pw b (n / 2) * pw b (n / 2) = c at m1 m2 m3 ml ms hfin
    clear hc
    go_wp2_with fail
    go_ret
    exact ⟨rfl, rfl⟩
theorem RPower_in (b : Nat) (hb1 : 1 ≤ b) (hb2 : b < 2147483647) (n : Nat) : n < 9223372036854775808 → ∀ w,
    Calls Tryd.prog 93 #[.int .i64 b, .int .i64 n] w fun e w' => e = .returned (.int .i64 (pw b n : Nat)) ∧ w = w' := by
  induction n using Nat.strongRecOn with
  | ind n ih =>
    intro hn w
    by_cases h0 : n = 0
    · subst h0; exact RPower_zero b w hb1 hb2
    · exact RPower_step b n w hb1 hb2 hn h0 (ih (n / 2) (by omega) (by omega))

set_option maxHeartbeats 400000 in
theorem RPower_out1 (b n : Int) (w : World) (h : b < 1) :
    Calls Tryd.prog 93 #[.int .i64 b, .int .i64 n] w fun e w' => e = .returned (.int .i64 0) ∧ w = w' := by
  go_enter Tryd.func93, Tryd.ntmps93
  go_wp2_with fail
  go_ret
  exact ⟨rfl, rfl⟩
set_option maxHeartbeats 400000 in
theorem RPower_out2 (b n : Int) (w : World) (h : 1 ≤ b) (h2 : 2147483646 < b) :
    Calls Tryd.prog 93 #[.int .i64 b, .int .i64 n] w fun e w' => e = .returned (.int .i64 0) ∧ w = w' := by
  go_enter Tryd.func93, Tryd.ntmps93
  go_wp2_with fail
  go_ret
  exact ⟨rfl, rfl⟩
set_option maxHeartbeats 400000 in
theorem RPower_out3 (b n : Int) (w : World) (h : 1 ≤ b) (h2 : b ≤ 2147483646) (h3 : n < 0) :
    Calls Tryd.prog 93 #[.int .i64 b, .int .i64 n] w fun e w' => e = .returned (.int .i64 0) ∧ w = w' := by
  go_enter Tryd.func93, Tryd.ntmps93
  go_wp2_with fail
  go_ret
  exact ⟨rfl, rfl⟩
theorem RPower_any (b n : Int) (w : World) (hn : n ≤ 9223372036854775807) :
    Calls Tryd.prog 93 #[.int .i64 b, .int .i64 n] w fun e w' => e = .returned (.int .i64 (pwI b n)) ∧ w = w' := by
  by_cases h : 1 ≤ b
  · by_cases h2 : b ≤ 2147483646
    · by_cases h0 : n < 0
      · rw [pwI_out (by omega)]; exact RPower_out3 b n w h h2 h0
      · rw [pwI_in h (by omega) (by omega)]
        have := RPower_in b.toNat (by omega) (by omega) n.toNat (by omega) w
        rwa [show ((b.toNat : Nat) : Int) = b by omega, show ((n.toNat : Nat) : Int) = n by omega] at this
    · rw [pwI_out (by omega)]; exact RPower_out2 b n w h (by omega)
  · rw [pwI_out (by omega)]; exact RPower_out1 b n w (by omega)
end Go.Proofs.YtpdbcahiipbhnaaDoor
