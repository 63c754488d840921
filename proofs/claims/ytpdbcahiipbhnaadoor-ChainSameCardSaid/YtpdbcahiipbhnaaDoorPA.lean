/- Layer 29: the reference's Verify at every argument. -/
import Derived.Test.YtpdbcahiipbhnaaDoorP9
namespace Go.Proofs.YtpdbcahiipbhnaaDoor
open Go.RowKit

set_option maxHeartbeats 1000000 in
theorem RVerify_in (y r s : Nat) (t : ByteArray) (w : World) (hy1 : 1 ≤ y) (hy2 : y < 2147483647) (hr1 : 1 ≤ r) (hr2 : r < 2147483647) (hs : s < 2147483646) (ht : t.size ≤ 100000) :
    Calls Tryd.prog 100 #[.int .i64 y, .string t, .agg #[.int .i64 r, .int .i64 s]] w fun e w' =>
      e = .returned (.bool (decide (pw 7 s = r * pw y (chal r y t) % 2147483647))) ∧ Below w.heap.size w w' := by
  have g1 : ¬ (s : Int) < 0 := by omega
  have g2 : ¬ (2147483645 < (s : Int)) := by omega
  have g3 : ¬ (r : Int) < 1 := by omega
  have g4 : ¬ (2147483646 < (r : Int)) := by omega
  have g5 : ¬ (y : Int) < 1 := by omega
  have g6 : ¬ (2147483646 < (y : Int)) := by omega
  have HP1 := Lib.hid (fun w => RPower7 s w (by omega))
  have HC := Lib.hid (fun w => Rchal_any r y t w (by omega) (by omega) ht)
  have hcl := chal_lt r y t
  have HP2 := Lib.hid (fun w => RPower_in y hy1 hy2 (chal r y t) (by omega) w)
  obtain ⟨m1, m2, m3⟩ := mul_facts hr2 (pw_lt y (chal r y t))
  have m4 := mul_wrap hr2 (pw_lt y (chal r y t))
  have m5 : IntKind.i64.wrap ((r * pw y (chal r y t) % 2147483647 : Nat) : Int) = ((r * pw y (chal r y t) % 2147483647 : Nat) : Int) := wrap_i64_in (by omega) (by omega)
  have ml : r * pw y (chal r y t) % 2147483647 < 2147483647 := Nat.mod_lt _ (by omega)
  have ms := wrap_small ml
  generalize pw 7 s = A at *
  generalize pw y (chal r y t) = B at *
  generalize chal r y t = c at *
  generalize r * B = rb at *
  generalize rb % 2147483647 = v at *
  clear hcl ml m3
  clear hy1 hy2 hr1 hr2 hs
  go_enter Tryd.func100, Tryd.ntmps100
  go_wp2_with fail
  have hb0 := (Below.refl w.heap.size w).alloc (Nat.le_refl _) (.cells #[.int .i64 r, .int .i64 s] 61)
  have c0 : (w.alloc (.cells #[.int .i64 r, .int .i64 s] 61)).cell? ⟨w.heap.size, 0, none⟩ = some (.int .i64 r) := new0 rfl rfl
  have c1 : (w.alloc (.cells #[.int .i64 r, .int .i64 s] 61)).cell? ⟨w.heap.size, 1, none⟩ = some (.int .i64 s) := new0 rfl rfl
  have hs0 : w.heap.size < (w.alloc (.cells #[.int .i64 r, .int .i64 s] 61)).heap.size := by simp
  generalize w.alloc (.cells #[.int .i64 r, .int .i64 s] 61) = w0 at *
  generalize hn0 : w.heap.size = n0 at *
  have HN0 := Lib.hid hn0
  clear hn0
  go_region_held_law (fun w' => w'.cell? ⟨n0, 0, none⟩ = some (.int .i64 r) ∧ w'.cell? ⟨n0, 1, none⟩ = some (.int .i64 s)) (first | (go_keep; done) | exact ⟨(hbc.cell hs0).trans c0, (hbc.cell hs0).trans c1⟩) (first | (go_at_call_of 93 (Value.int .i64 7); refine (HP1.out _).mono ?_; rintro e wa ⟨rfl, rfl⟩) | (go_at_call 93; refine (HP2.out _).mono ?_; rintro e wa ⟨rfl, rfl⟩) | (go_at_call 96; refine (HC.out _).mono ?_; rintro e wc ⟨rfl, hbc⟩))
  all_goals
    have hbe : Below n0 w wc := hb0.trans (Below.mono (by first | exact hbc | exact ⟨hbc.os, hbc.tape, hbc.output, hbc.size, hbc.block⟩) (show n0 ≤ w0.heap.size from Nat.le_of_lt hs0))
    go_wp2_with fail
    go_ret
    exact ⟨by first | (rw [beq_cast]; rfl) | (rw [m4, m2, beq_cast]; rfl), by rw [HN0.out]; first | exact hbe | exact hbe.drew⟩

set_option maxHeartbeats 1000000 in
theorem RVerify_out (y r s : Int) (t : ByteArray) (w : World)
    (h : r < 1 ∨ (1 ≤ r ∧ 2147483646 < r) ∨ (1 ≤ r ∧ r ≤ 2147483646 ∧ s < 0) ∨ (1 ≤ r ∧ r ≤ 2147483646 ∧ 0 ≤ s ∧ 2147483645 < s) ∨ (1 ≤ r ∧ r ≤ 2147483646 ∧ 0 ≤ s ∧ s ≤ 2147483645 ∧ y < 1) ∨ (1 ≤ r ∧ r ≤ 2147483646 ∧ 0 ≤ s ∧ s ≤ 2147483645 ∧ 1 ≤ y ∧ 2147483646 < y)) :
    Calls Tryd.prog 100 #[.int .i64 y, .string t, .agg #[.int .i64 r, .int .i64 s]] w fun e w' => e = .returned (.bool false) ∧ Below w.heap.size w w' := by
  rcases h with h1 | ⟨h1, h2⟩ | ⟨h1, h2, h3⟩ | ⟨h1, h2, h3, h4⟩ | ⟨h1, h2, h3, h4, h5⟩ | ⟨h1, h2, h3, h4, h5, h6⟩
  all_goals
    go_enter Tryd.func100, Tryd.ntmps100
    go_wp2_with fail
    go_ret
    exact ⟨rfl, (Below.refl _ _).alloc (Nat.le_refl _) _⟩
theorem RVerify_any (y r s : Int) (t : ByteArray) (w : World) (ht : t.size ≤ 100000) :
    Calls Tryd.prog 100 #[.int .i64 y, .string t, .agg #[.int .i64 r, .int .i64 s]] w fun e w' => e = .returned (.bool (verB y r s t)) ∧ Below w.heap.size w w' := by
  by_cases h : 1 ≤ y ∧ y < 2147483647 ∧ 1 ≤ r ∧ r < 2147483647 ∧ 0 ≤ s ∧ s < 2147483646
  · obtain ⟨y, rfl⟩ := Int.eq_ofNat_of_zero_le (show 0 ≤ y by omega)
    obtain ⟨r, rfl⟩ := Int.eq_ofNat_of_zero_le (show 0 ≤ r by omega)
    obtain ⟨s, rfl⟩ := Int.eq_ofNat_of_zero_le (show 0 ≤ s by omega)
    rw [verB_in (by omega) (by omega) (by omega) (by omega) (by omega)]
    exact RVerify_in y r s t w (by omega) (by omega) (by omega) (by omega) (by omega) ht
  · rw [verB_out h]; exact RVerify_out y r s t w (by omega)
end Go.Proofs.YtpdbcahiipbhnaaDoor
