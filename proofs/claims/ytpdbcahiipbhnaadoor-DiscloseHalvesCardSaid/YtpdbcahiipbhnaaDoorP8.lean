/- Layer 29: Verify at every argument. -/
import Derived.Test.YtpdbcahiipbhnaaDoorP7
import Derived.Test.YtpdbcahiipbhnaaDoorG0
namespace Go.Proofs.YtpdbcahiipbhnaaDoor
open Go.RowKit

/-- What both Verify functions return. -/
@[irreducible] def verB (y r s : Int) (t : ByteArray) : Bool :=
  decide (1 ≤ y ∧ y < 2147483647 ∧ 1 ≤ r ∧ r < 2147483647 ∧ 0 ≤ s ∧ s < 2147483646) && decide (pw 7 s.toNat = r.toNat * pw y.toNat (chal r.toNat y.toNat t) % 2147483647)
theorem verB_out {y r s : Int} {t : ByteArray} (h : ¬ (1 ≤ y ∧ y < 2147483647 ∧ 1 ≤ r ∧ r < 2147483647 ∧ 0 ≤ s ∧ s < 2147483646)) : verB y r s t = false := by unfold verB; rw [decide_eq_false h]; rfl
theorem verB_in {y r s : Nat} {t : ByteArray} (h1 : 1 ≤ y) (h2 : y < 2147483647) (h3 : 1 ≤ r) (h4 : r < 2147483647) (h5 : s < 2147483646) :
    verB y r s t = decide (pw 7 s = r * pw y (chal r y t) % 2147483647) := by
  unfold verB; rw [decide_eq_true (by omega)]; simp

theorem el_true {x : Int} (h1 : 1 ≤ x) (h2 : x < 2147483647) : (decide (0 < x) && decide (x < 2147483647)) = true := by simp; omega
theorem el_false {x : Int} (h : ¬ (1 ≤ x ∧ x < 2147483647)) : (decide (0 < x) && decide (x < 2147483647)) = false := by simp; omega

set_option maxHeartbeats 1000000 in
theorem Verify_y (y r s : Int) (t : ByteArray) (w : World) (h : ¬ (1 ≤ y ∧ y < 2147483647)) :
    Calls Tryd.prog 48 #[.int .i64 y, .string t, .agg #[.int .i64 r, .int .i64 s]] w fun e w' => e = .returned (.bool false) ∧ Below w.heap.size w w' := by
  have he1 := element_any y
  rw [el_false h] at he1
  clear h
  go_enter Tryd.func48, Tryd.ntmps48
  go_wp2_with fail
  refine (he1 _).mono ?_
  rintro e w1 ⟨rfl, rfl⟩
  go_wp2_with fail
  go_ret
  exact ⟨rfl, (Below.refl _ _).alloc (Nat.le_refl _) _⟩
set_option maxHeartbeats 1000000 in
theorem Verify_r (y r s : Int) (t : ByteArray) (w : World) (h1 : 1 ≤ y) (h2 : y < 2147483647) (h : ¬ (1 ≤ r ∧ r < 2147483647)) :
    Calls Tryd.prog 48 #[.int .i64 y, .string t, .agg #[.int .i64 r, .int .i64 s]] w fun e w' => e = .returned (.bool false) ∧ Below w.heap.size w w' := by
  have he1 := element_any y
  rw [el_true h1 h2] at he1
  have he2 := element_any r
  rw [el_false h] at he2
  clear h h1 h2
  go_enter Tryd.func48, Tryd.ntmps48
  go_wp2_with fail
  refine (he1 _).mono ?_
  rintro e w1 ⟨rfl, rfl⟩
  go_wp2_with fail
  refine (he2 _).mono ?_
  rintro e w1 ⟨rfl, rfl⟩
  go_wp2_with fail
  go_ret
  exact ⟨rfl, (Below.refl _ _).alloc (Nat.le_refl _) _⟩
set_option maxHeartbeats 1000000 in
theorem Verify_s (y r s : Int) (t : ByteArray) (w : World) (h1 : 1 ≤ y) (h2 : y < 2147483647) (h3 : 1 ≤ r) (h4 : r < 2147483647) (h : s < 0 ∨ (0 ≤ s ∧ 2147483646 ≤ s)) :
    Calls Tryd.prog 48 #[.int .i64 y, .string t, .agg #[.int .i64 r, .int .i64 s]] w fun e w' => e = .returned (.bool false) ∧ Below w.heap.size w w' := by
  have he1 := element_any y
  rw [el_true h1 h2] at he1
  have he2 := element_any r
  rw [el_true h3 h4] at he2
  clear h1 h2 h3 h4
  rcases h with h | ⟨h, h'⟩
  all_goals
    go_enter Tryd.func48, Tryd.ntmps48
    go_wp2_with fail
    refine (he1 _).mono ?_
    rintro e w1 ⟨rfl, rfl⟩
    go_wp2_with fail
    refine (he2 _).mono ?_
    rintro e w1 ⟨rfl, rfl⟩
    go_wp2_with fail
    go_ret
    exact ⟨rfl, (Below.refl _ _).alloc (Nat.le_refl _) _⟩
theorem Verify_any (y r s : Int) (t : ByteArray) (w : World) (ht : t.size ≤ 100000) (htab : Tabs w) :
    Calls Tryd.prog 48 #[.int .i64 y, .string t, .agg #[.int .i64 r, .int .i64 s]] w fun e w' => e = .returned (.bool (verB y r s t)) ∧ Below w.heap.size w w' := by
  by_cases h1 : 1 ≤ y ∧ y < 2147483647
  · by_cases h2 : 1 ≤ r ∧ r < 2147483647
    · by_cases h3 : 0 ≤ s ∧ s < 2147483646
      · obtain ⟨y, rfl⟩ := Int.eq_ofNat_of_zero_le (show 0 ≤ y by omega)
        obtain ⟨r, rfl⟩ := Int.eq_ofNat_of_zero_le (show 0 ≤ r by omega)
        obtain ⟨s, rfl⟩ := Int.eq_ofNat_of_zero_le h3.1
        rw [verB_in (by omega) (by omega) (by omega) (by omega) (by omega)]
        exact Verify_in y r s t w (by omega) (by omega) (by omega) (by omega) (by omega) ht htab
      · rw [verB_out (by omega)]; exact Verify_s y r s t w h1.1 h1.2 h2.1 h2.2 (by omega)
    · rw [verB_out (by omega)]; exact Verify_r y r s t w h1.1 h1.2 h2
  · rw [verB_out (by omega)]; exact Verify_y y r s t w h1

/-- The signature belongs to the text and the public key. -/
theorem ver_sign (x : Nat) (t : ByteArray) : verB (pw 7 x : Nat) (pw 7 (kay x t) : Nat) (sgS x t : Nat) t = true := by
  have hs : sgS x t < 2147483646 := by unfold sgS; omega
  rw [verB_in (pw7_pos _) (pw_lt _ _) (pw7_pos _) (pw_lt _ _) hs]
  unfold sgS
  rw [sign_eq]
  simp
/-- Two signatures with one R of which both belong to a text and a public key are equal. -/
theorem ver_once {y r a b : Int} {t : ByteArray} (h1 : verB y r a t = true) (h2 : verB y r b t = true) : a = b := by
  unfold verB at h1 h2
  simp only [Bool.and_eq_true, decide_eq_true_eq] at h1 h2
  have := pw7_inj a.toNat b.toNat (by omega) (by omega) (by rw [h1.2, h2.2])
  omega
theorem ver_false {y r a b : Int} {t : ByteArray} (h1 : verB y r a t = true) (h : a ≠ b) : verB y r b t = false := by
  rcases hb : verB y r b t with _ | _
  · rfl
  · exact absurd (ver_once h1 hb) h
end Go.Proofs.YtpdbcahiipbhnaaDoor
