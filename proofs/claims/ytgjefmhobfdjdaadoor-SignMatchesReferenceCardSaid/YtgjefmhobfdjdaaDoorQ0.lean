/- SignPowers, SignKeys: the walks. -/
import Derived.Test.YtgjefmhobfdjdaaDoorP9
namespace Go.Proofs.YtgjefmhobfdjdaaDoor
open Go.RowKit

theorem wf_u32' {x : Int} (h : (Lit.int .u32 x).wf = true) : 0 ≤ x ∧ x < 4294967296 := by
  simp only [Lit.wf, Bool.and_eq_true, decide_eq_true_eq] at h
  have h : 0 ≤ x ∧ x ≤ 4294967295 := h
  omega
set_option maxHeartbeats 1000000 in
set_option maxRecDepth 100000 in
theorem powers_nat (B m n : Nat) (raw : Int) (w : World) (ht : Tabs w) (hB1 : 1 ≤ B) (hB2 : B < 2147483647) (hm : m < 4294967296) (hn : n < 4294967296) (hr0 : 0 ≤ raw) (hr1 : raw < 4294967296)
    (hB : 1 + raw % 2147483646 = (B : Int)) :
    Calls Tryd.prog 12 #[.int .u32 raw, .int .u32 m, .int .u32 n] w fun e w' => e = .returned (.bool true) ∧ Below w.heap.size w w' := by
  have HT := Lib.hid ht
  clear ht
  have p1 := Lib.hid (fun w => Power_in B m w hB1 hB2 (by omega))
  have p2 := Lib.hid (fun w => Power_in B n w hB1 hB2 (by omega))
  have p3 := Lib.hid (fun w => Power_in B (m + n) w hB1 hB2 (by omega))
  have p4 := Lib.hid (fun w => Power_is B 2147483646 1 w (by omega) (by rw [pwI_in (by omega) (by omega) (by omega)]; exact congrArg Int.ofNat (pw_full B hB1 hB2)))
  have p5 := Lib.hid (fun w => Power_is B 1 B w (by omega) (by rw [pwI_in (by omega) (by omega) (by omega)]; exact congrArg Int.ofNat (pw_one B hB2)))
  have p6 := Lib.hid (fun w => Power_is B 0 1 w (by omega) (by rw [pwI_in (by omega) (by omega) (by omega)]; exact congrArg Int.ofNat (pw_zero B)))
  have a1 := pw_pos B m hB1 hB2
  have a2 := pw_lt B m
  have b2 := pw_lt B n
  have hadd := pw_add B m n
  obtain ⟨m1, m2, m3⟩ := mul_facts a2 b2
  rw [← hadd] at m2
  have k1 := pw_lt B (m + n)
  generalize pw B (m + n) = C at *
  generalize pw B m = a at *
  generalize pw B n = b at *
  generalize a * b = ab at *
  have HB := Lib.hid hB
  have s1 : wrap64 (raw % 2147483646) = raw % 2147483646 := by unfold wrap64; omega
  have s3 : wrap64 (C : Int) = C := by unfold wrap64; omega
  have i1 : 1 ≤ (a : Int) := by omega
  have i2 : (a : Int) < 2147483647 := by omega
  have i3 : (m : Int) < 4294967296 := by omega
  have i4 : (n : Int) < 4294967296 := by omega
  clear hB hadd a1 a2 b2 k1 hm hn hB1 hB2 m3
  go_enter Tryd.func12, Tryd.ntmps12
  go_wp2_with fail
  refine (head29 _ HT.out).mono ?_
  rintro e w1 ⟨rfl, hb1⟩
  go_wp2_with fail
  rw [HB.out]
  refine (p1.out _).mono ?_
  rintro e wx ⟨rfl, rfl⟩
  go_wp2_with fail
  refine (p2.out _).mono ?_
  rintro e wx ⟨rfl, rfl⟩
  go_wp2_with fail
  refine (p3.out _).mono ?_
  rintro e wx ⟨rfl, rfl⟩
  go_wp2_with fail
  refine (p4.out _).mono ?_
  rintro e wx ⟨rfl, rfl⟩
  go_wp2_with fail
  refine (p5.out _).mono ?_
  rintro e wx ⟨rfl, rfl⟩
  go_wp2_with fail
  refine (p6.out _).mono ?_
  rintro e wx ⟨rfl, rfl⟩
  go_wp2_with fail
  go_ret
  exact ⟨rfl, hb1⟩
theorem law_SignPowers (r m n : Int) (w : World) (hr : (Lit.int .u32 r).wf = true) (hm : (Lit.int .u32 m).wf = true) (hn : (Lit.int .u32 n).wf = true) (ht : Tabs w) :
    Calls Tryd.prog 12 #[.int .u32 r, .int .u32 m, .int .u32 n] w fun e w' => e = .returned (.bool true) ∧ Below w.heap.size w w' := by
  have hr := wf_u32' hr
  have hm := wf_u32' hm
  have hn := wf_u32' hn
  obtain ⟨m, rfl⟩ := Int.eq_ofNat_of_zero_le hm.1
  obtain ⟨n, rfl⟩ := Int.eq_ofNat_of_zero_le hn.1
  exact powers_nat (1 + r % 2147483646).toNat m n r w ht (by omega) (by omega) (by omega) (by omega) (by omega) (by omega) (by omega)

set_option maxHeartbeats 1000000 in
theorem keys_bad1 (x y : Int) (b f : Int) (w : World) (ht : Tabs w) (h : ∀ w, Calls Tryd.prog 22 #[.int .i64 x] w fun e w' => e = .returned (.tuple #[.int .i64 0, .int .i64 1]) ∧ w = w')
    (h2 : ∀ w, Calls Tryd.prog 22 #[.int .i64 y] w fun e w' => e = .returned (.tuple #[.int .i64 b, .int .i64 f]) ∧ w = w') :
    Calls Tryd.prog 13 #[.int .i64 x, .int .i64 y] w fun e w' => e = .returned (.bool true) ∧ Below w.heap.size w w' := by
  have HT := Lib.hid ht
  have H := Lib.hid h
  have H2 := Lib.hid h2
  clear ht h h2
  go_enter Tryd.func13, Tryd.ntmps13
  go_wp2_with fail
  refine (head29 _ HT.out).mono ?_
  rintro e w1 ⟨rfl, hb1⟩
  go_wp2_with fail
  refine (H.out _).mono ?_
  rintro e wx ⟨rfl, rfl⟩
  go_wp2_with fail
  refine (H2.out _).mono ?_
  rintro e wx ⟨rfl, rfl⟩
  go_wp2_with fail
  go_ret
  exact ⟨rfl, hb1⟩
set_option maxHeartbeats 1000000 in
theorem keys_bad2 (x y : Int) (a : Int) (w : World) (ht : Tabs w) (h : ∀ w, Calls Tryd.prog 22 #[.int .i64 x] w fun e w' => e = .returned (.tuple #[.int .i64 a, .int .i64 0]) ∧ w = w')
    (h2 : ∀ w, Calls Tryd.prog 22 #[.int .i64 y] w fun e w' => e = .returned (.tuple #[.int .i64 0, .int .i64 1]) ∧ w = w') :
    Calls Tryd.prog 13 #[.int .i64 x, .int .i64 y] w fun e w' => e = .returned (.bool true) ∧ Below w.heap.size w w' := by
  have HT := Lib.hid ht
  have H := Lib.hid h
  have H2 := Lib.hid h2
  clear ht h h2
  go_enter Tryd.func13, Tryd.ntmps13
  go_wp2_with fail
  refine (head29 _ HT.out).mono ?_
  rintro e w1 ⟨rfl, hb1⟩
  go_wp2_with fail
  refine (H.out _).mono ?_
  rintro e wx ⟨rfl, rfl⟩
  go_wp2_with fail
  refine (H2.out _).mono ?_
  rintro e wx ⟨rfl, rfl⟩
  go_wp2_with fail
  go_ret
  exact ⟨rfl, hb1⟩
set_option maxHeartbeats 1000000 in
theorem keys_ok (x y : Int) (a b : Nat) (w : World) (ht : Tabs w) (h : ∀ w, Calls Tryd.prog 22 #[.int .i64 x] w fun e w' => e = .returned (.tuple #[.int .i64 a, .int .i64 0]) ∧ w = w')
    (h2 : ∀ w, Calls Tryd.prog 22 #[.int .i64 y] w fun e w' => e = .returned (.tuple #[.int .i64 b, .int .i64 0]) ∧ w = w') (he : (((a : Int) == (b : Int)) == (x == y)) = true) (h1 : 1 ≤ (a : Int)) (h3 : (a : Int) < 2147483647) :
    Calls Tryd.prog 13 #[.int .i64 x, .int .i64 y] w fun e w' => e = .returned (.bool true) ∧ Below w.heap.size w w' := by
  have HT := Lib.hid ht
  have H := Lib.hid h
  have H2 := Lib.hid h2
  clear ht h h2
  go_enter Tryd.func13, Tryd.ntmps13
  go_wp2_with fail
  refine (head29 _ HT.out).mono ?_
  rintro e w1 ⟨rfl, hb1⟩
  go_wp2_with fail
  refine (H.out _).mono ?_
  rintro e wx ⟨rfl, rfl⟩
  go_wp2_with fail
  refine (H2.out _).mono ?_
  rintro e wx ⟨rfl, rfl⟩
  go_wp2_with fail
  go_ret
  exact ⟨rfl, hb1⟩
/-- What Public returns at any secret. -/
theorem Public_any (x : Int) : (∃ n : Nat, x = n ∧ 1 ≤ n ∧ n < 2147483646 ∧ ∀ w, Calls Tryd.prog 22 #[.int .i64 x] w fun e w' => e = .returned (.tuple #[.int .i64 (pw 7 n : Nat), .int .i64 0]) ∧ w = w') ∨
    (¬ (1 ≤ x ∧ x < 2147483646) ∧ ∀ w, Calls Tryd.prog 22 #[.int .i64 x] w fun e w' => e = .returned (.tuple #[.int .i64 0, .int .i64 1]) ∧ w = w') := by
  by_cases h1 : 1 ≤ x
  · by_cases h2 : x < 2147483646
    · obtain ⟨n, rfl⟩ := Int.eq_ofNat_of_zero_le (show 0 ≤ x by omega)
      exact .inl ⟨n, rfl, by omega, by omega, fun w => Public_ok n w (by omega) (by omega)⟩
    · exact .inr ⟨by omega, fun w => Public_high x w h1 (by omega)⟩
  · exact .inr ⟨by omega, fun w => Public_low x w (by omega)⟩
theorem keys_beq (m n : Nat) (hm : m < 2147483646) (hn : n < 2147483646) : (((pw 7 m : Int) == (pw 7 n : Int)) == ((m : Int) == (n : Int))) = true := by
  rw [beq_cast, beq_cast]
  by_cases h : m = n
  · subst h; simp
  · have h2 : ¬ pw 7 m = pw 7 n := fun h2 => h (pw7_inj m n hm hn h2)
    simp [h, h2]
theorem law_SignKeys (x y : Int) (w : World) (_ : (Lit.int .i64 x).wf = true) (_ : (Lit.int .i64 y).wf = true) (ht : Tabs w) :
    Calls Tryd.prog 13 #[.int .i64 x, .int .i64 y] w fun e w' => e = .returned (.bool true) ∧ Below w.heap.size w w' := by
  rcases Public_any x with ⟨m, rfl, h1, h2, hc⟩ | ⟨_, hc⟩
  · rcases Public_any y with ⟨n, rfl, h3, h4, hc'⟩ | ⟨_, hc'⟩
    · exact keys_ok _ _ _ _ w ht hc hc' (keys_beq m n h2 h4) (by have := pw7_pos m; omega) (by have := pw_lt 7 m; omega)
    · exact keys_bad2 _ _ _ w ht hc hc'
  · rcases Public_any y with ⟨n, rfl, h3, h4, hc'⟩ | ⟨_, hc'⟩
    · exact keys_bad1 _ _ _ _ w ht hc hc'
    · exact keys_bad1 _ _ _ _ w ht hc hc'
end Go.Proofs.YtgjefmhobfdjdaaDoor
