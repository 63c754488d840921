/- Layer 29: public keys. -/
import Derived.Test.YtpdbcahiipbhnaaDoorP3
namespace Go.Proofs.YtpdbcahiipbhnaaDoor
open Go.RowKit

theorem Power7 (x : Nat) (w : World) (h : x < 9223372036854775808) :
    Calls Tryd.prog 81 #[.int .i64 7, .int .i64 x] w fun e w' => e = .returned (.int .i64 (pw 7 x : Nat)) ∧ w = w' :=
  Power_in 7 x w (by omega) (by omega) h
theorem RPower7 (x : Nat) (w : World) (h : x < 9223372036854775808) :
    Calls Tryd.prog 93 #[.int .i64 7, .int .i64 x] w fun e w' => e = .returned (.int .i64 (pw 7 x : Nat)) ∧ w = w' :=
  RPower_in 7 (by omega) (by omega) x h w

set_option maxHeartbeats 400000 in
theorem Public_okI (x y : Int) (w : World) (h1 : 1 ≤ x) (h2 : x < 2147483646) (hP : ∀ w, Calls Tryd.prog 81 #[.int .i64 7, .int .i64 x] w fun e w' => e = .returned (.int .i64 y) ∧ w = w') :
    Calls Tryd.prog 47 #[.int .i64 x] w fun e w' => e = .returned (.tuple #[.int .i64 y, .int .i64 0]) ∧ w = w' := by
  have HP := Lib.hid hP
  clear hP
  go_enter Tryd.func47, Tryd.ntmps47
  go_wp2_with fail
  refine (HP.out _).mono ?_
  rintro e w1 ⟨rfl, rfl⟩
  go_wp2_with fail
  go_ret2
  exact ⟨rfl, rfl⟩
theorem Public_ok (x : Nat) (w : World) (h1 : 1 ≤ x) (h2 : x < 2147483646) :
    Calls Tryd.prog 47 #[.int .i64 x] w fun e w' => e = .returned (.tuple #[.int .i64 (pw 7 x : Nat), .int .i64 0]) ∧ w = w' :=
  Public_okI x _ w (by omega) (by omega) (fun w => Power7 x w (by omega))
set_option maxHeartbeats 400000 in
theorem Public_low (x : Int) (w : World) (h1 : x < 1) :
    Calls Tryd.prog 47 #[.int .i64 x] w fun e w' => e = .returned (.tuple #[.int .i64 0, .int .i64 1]) ∧ w = w' := by
  go_enter Tryd.func47, Tryd.ntmps47
  go_wp2_with fail
  go_ret2
  exact ⟨rfl, rfl⟩
set_option maxHeartbeats 400000 in
theorem Public_high (x : Int) (w : World) (h1 : 1 ≤ x) (h2 : 2147483646 ≤ x) :
    Calls Tryd.prog 47 #[.int .i64 x] w fun e w' => e = .returned (.tuple #[.int .i64 0, .int .i64 1]) ∧ w = w' := by
  go_enter Tryd.func47, Tryd.ntmps47
  go_wp2_with fail
  go_ret2
  exact ⟨rfl, rfl⟩

set_option maxHeartbeats 400000 in
theorem Secret_any (x : Int) (w : World) :
    Calls Tryd.prog 92 #[.int .i64 x] w fun e w' => e = .returned (.bool (decide (1 ≤ x ∧ x ≤ 2147483645))) ∧ w = w' := by
  by_cases h : 1 ≤ x
  · by_cases h2 : x ≤ 2147483645
    · go_enter Tryd.func92, Tryd.ntmps92
      go_wp2_with fail
      go_ret
      exact ⟨by simp [h, h2], rfl⟩
    · have h3 : 2147483645 < x := by omega
      go_enter Tryd.func92, Tryd.ntmps92
      go_wp2_with fail
      go_ret
      exact ⟨by simp [h3], rfl⟩
  · have h3 : x < 1 := by omega
    go_enter Tryd.func92, Tryd.ntmps92
    go_wp2_with fail
    go_ret
    exact ⟨by simp; omega, rfl⟩

set_option maxHeartbeats 400000 in
theorem RPublic_ok (x : Nat) (w : World) (h1 : 1 ≤ x) (h2 : x < 2147483646) :
    Calls Tryd.prog 76 #[.int .i64 x] w fun e w' => e = .returned (.tuple #[.int .i64 (pw 7 x : Nat), .int .i64 0]) ∧ w = w' := by
  have HP := Lib.hid (fun w => RPower7 x w (by omega))
  have hS := Secret_any (x : Int)
  rw [show decide ((1 : Int) ≤ (x : Int) ∧ (x : Int) ≤ 2147483645) = true by simp; omega] at hS
  generalize pw 7 x = y at HP ⊢
  clear h1 h2
  go_enter Tryd.func76, Tryd.ntmps76
  go_wp2_with fail
  refine (hS _).mono ?_
  rintro e w1 ⟨rfl, rfl⟩
  go_wp2_with fail
  refine (HP.out _).mono ?_
  rintro e w1 ⟨rfl, rfl⟩
  go_wp2_with fail
  go_ret2
  exact ⟨rfl, rfl⟩
set_option maxHeartbeats 400000 in
theorem RPublic_bad (x : Int) (w : World) (h1 : ¬ (1 ≤ x ∧ x ≤ 2147483645)) :
    Calls Tryd.prog 76 #[.int .i64 x] w fun e w' => e = .returned (.tuple #[.int .i64 0, .int .i64 1]) ∧ w = w' := by
  have hS := Secret_any x
  rw [show decide (1 ≤ x ∧ x ≤ 2147483645) = false by simp; omega] at hS
  clear h1
  go_enter Tryd.func76, Tryd.ntmps76
  go_wp2_with fail
  refine (hS _).mono ?_
  rintro e w1 ⟨rfl, rfl⟩
  go_wp2_with fail
  go_ret2
  exact ⟨rfl, rfl⟩
end Go.Proofs.YtpdbcahiipbhnaaDoor
