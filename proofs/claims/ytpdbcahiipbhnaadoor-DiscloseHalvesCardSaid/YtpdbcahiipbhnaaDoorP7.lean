/- Layer 29: Verify. -/
import Derived.Test.YtpdbcahiipbhnaaDoorP6
namespace Go.Proofs.YtpdbcahiipbhnaaDoor
open Go.RowKit

theorem beq_cast (a b : Nat) : ((a : Int) == (b : Int)) = decide (a = b) := by
  by_cases h : a = b
  · simp [h]
  · simp [h]; omega
theorem mul_wrap {a c : Nat} (ha : a < 2147483647) (hc : c < 2147483647) : IntKind.i64.wrap ((a : Int) * (c : Int)) = ((a * c : Nat) : Int) := by
  have h1 : a * c ≤ 2147483646 * 2147483646 := Nat.mul_le_mul (by omega) (by omega)
  have h2 : ((a : Int) * (c : Int)) = ((a * c : Nat) : Int) := by simp
  rw [h2]
  exact wrap_i64_in (by omega) (by omega)

set_option maxHeartbeats 1000000 in
theorem Verify_in (y r s : Nat) (t : ByteArray) (w : World) (hy1 : 1 ≤ y) (hy2 : y < 2147483647) (hr1 : 1 ≤ r) (hr2 : r < 2147483647) (hs : s < 2147483646) (ht : t.size ≤ 100000) (htab : Tabs w) :
    Calls Tryd.prog 48 #[.int .i64 y, .string t, .agg #[.int .i64 r, .int .i64 s]] w fun e w' =>
      e = .returned (.bool (decide (pw 7 s = r * pw y (chal r y t) % 2147483647))) ∧ Below w.heap.size w w' := by
  have he1 := element_any (y : Int)
  rw [show (decide ((0 : Int) < (y : Int)) && decide ((y : Int) < 2147483647)) = true by simp; omega] at he1
  have he2 := element_any (r : Int)
  rw [show (decide ((0 : Int) < (r : Int)) && decide ((r : Int) < 2147483647)) = true by simp; omega] at he2
  have g1 : ¬ (s : Int) < 0 := by omega
  have g2 : ((s : Int) ≥ 2147483646) = False := by simp; omega
  have HT := Lib.hid htab
  have HP1 := Lib.hid (fun w => Power7 s w (by omega))
  have HC := Lib.hid (fun w => chal_any r y t w (by omega) (by omega) ht)
  have hcl := chal_lt r y t
  have HP2 := Lib.hid (fun w => Power_in y (chal r y t) w hy1 hy2 (by omega))
  obtain ⟨m1, m2, m3⟩ := mul_facts hr2 (pw_lt y (chal r y t))
  have m4 := mul_wrap hr2 (pw_lt y (chal r y t))
  have m5 : IntKind.i64.wrap ((r * pw y (chal r y t) % 2147483647 : Nat) : Int) = ((r * pw y (chal r y t) % 2147483647 : Nat) : Int) := wrap_i64_in (by omega) (by omega)
  have ml : r * pw y (chal r y t) % 2147483647 < 2147483647 := Nat.mod_lt _ (by omega)
  have ms := wrap_small ml
  generalize pw 7 s = A at *
  generalize pw y (chal r y t) = B at *
  generalize chal r y t = c at *
  generalize r * B = rb at *
  generalize rb % 2147483647 = v at *
  clear hcl ml m3
  clear htab hy1 hy2 hr1 hr2 hs
  go_enter Tryd.func48, Tryd.ntmps48
  go_wp2_with fail
  refine (he1 _).mono ?_
  rintro e w1 ⟨rfl, rfl⟩
  go_wp2_with fail
  refine (he2 _).mono ?_
  rintro e w1 ⟨rfl, rfl⟩
  go_wp2_with fail
  have HT0 := Lib.hid (HT.out.alloc (.cells #[.int .i64 r, .int .i64 s] 61))
  have hb0 := (Below.refl w.heap.size w).alloc (Nat.le_refl _) (.cells #[.int .i64 r, .int .i64 s] 61)
  have c0 : (w.alloc (.cells #[.int .i64 r, .int .i64 s] 61)).cell? ⟨w.heap.size, 0, none⟩ = some (.int .i64 r) := new0 rfl rfl
  have c1 : (w.alloc (.cells #[.int .i64 r, .int .i64 s] 61)).cell? ⟨w.heap.size, 1, none⟩ = some (.int .i64 s) := new0 rfl rfl
  have hs0 : w.heap.size < (w.alloc (.cells #[.int .i64 r, .int .i64 s] 61)).heap.size := by simp
  generalize w.alloc (.cells #[.int .i64 r, .int .i64 s] 61) = w0 at *
  generalize hn0 : w.heap.size = n0 at *
  have HN0 := Lib.hid hn0
  clear hn0
  go_region_held_law (fun w' => w'.cell? ⟨n0, 0, none⟩ = some (.int .i64 r) ∧ w'.cell? ⟨n0, 1, none⟩ = some (.int .i64 s)) (first | (go_keep; done) | exact ⟨(hbc.cell hs0).trans c0, (hbc.cell hs0).trans c1⟩) (first | (go_at_call_of 81 (Value.int .i64 7); refine (HP1.out _).mono ?_; rintro e wa ⟨rfl, rfl⟩) | (go_at_call 81; refine (HP2.out _).mono ?_; rintro e wa ⟨rfl, rfl⟩) | (go_at_call 83; refine (HC.out _ (by repeat (first | exact HT0.out | apply Tabs.drew))).mono ?_; rintro e wc ⟨rfl, hbc⟩))
  all_goals
    have hbe : Below n0 w wc := hb0.trans (Below.mono (by first | exact hbc | exact ⟨hbc.os, hbc.tape, hbc.output, hbc.size, hbc.block⟩) (show n0 ≤ w0.heap.size from Nat.le_of_lt hs0))
    go_wp2_with fail
    go_ret
    exact ⟨by first | (rw [beq_cast]; rfl) | (rw [m4, m2, beq_cast]; rfl), by rw [HN0.out]; first | exact hbe | exact hbe.drew⟩
end Go.Proofs.YtpdbcahiipbhnaaDoor
