/- SignEquation: the walk. -/
import Derived.Test.YtgjefmhobfdjdaaDoorQ0
namespace Go.Proofs.YtgjefmhobfdjdaaDoor
open Go.RowKit

theorem cells2_below {w w' : World} {n B : Nat} {a b : Value} (h : w.cell? ⟨n, 0, none⟩ = some a ∧ w.cell? ⟨n, 1, none⟩ = some b) (hb : Below B w w') (hn : n < B) : w'.cell? ⟨n, 0, none⟩ = some a ∧ w'.cell? ⟨n, 1, none⟩ = some b :=
  ⟨(hb.cell (p := ⟨n, 0, none⟩) hn).trans h.1, (hb.cell (p := ⟨n, 1, none⟩) hn).trans h.2⟩

set_option maxHeartbeats 1000000 in
theorem equation_big (y r s : Int) (t : ByteArray) (w : World) (h3 : 300 < t.size) (hm : t.size ≤ maxLen) (ht : Tabs w) :
    Calls Tryd.prog 10 #[.int .i64 y, .string t, .agg #[.int .i64 r, .int .i64 s]] w fun e w' => e = .returned (.bool true) ∧ Below w.heap.size w w' := by
  have hm' : (t.size : Int) ≤ 9223372036854775807 := by unfold maxLen at hm; omega
  have hs' : (300 : Int) < (t.size : Int) := by omega
  have HT := Lib.hid (ht.alloc (.cells #[.int .i64 r, .int .i64 s] 32))
  have hb0 := (Below.refl w.heap.size w).alloc (Nat.le_refl _) (.cells #[.int .i64 r, .int .i64 s] 32)
  clear ht
  go_enter Tryd.func10, Tryd.ntmps10
  go_wp2_with fail
  refine (head29 _ HT.out).mono ?_
  rintro e w1 ⟨rfl, hb1⟩
  go_wp2_with fail
  go_ret
  exact ⟨rfl, hb0.trans (hb1.mono (by simp))⟩

set_option maxHeartbeats 1000000 in
theorem equation_out (y r s : Int) (t : ByteArray) (w : World) (h3 : t.size ≤ 300) (ht : Tabs w)
    (h : y < 1 ∨ (1 ≤ y ∧ 2147483647 ≤ y) ∨ (1 ≤ y ∧ y < 2147483647 ∧ r < 1) ∨ (1 ≤ y ∧ y < 2147483647 ∧ 1 ≤ r ∧ 2147483647 ≤ r) ∨ (1 ≤ y ∧ y < 2147483647 ∧ 1 ≤ r ∧ r < 2147483647 ∧ s < 0) ∨ (1 ≤ y ∧ y < 2147483647 ∧ 1 ≤ r ∧ r < 2147483647 ∧ 0 ≤ s ∧ 2147483646 ≤ s)) :
    Calls Tryd.prog 10 #[.int .i64 y, .string t, .agg #[.int .i64 r, .int .i64 s]] w fun e w' => e = .returned (.bool true) ∧ Below w.heap.size w w' := by
  have hs' : (t.size : Int) ≤ 300 := by omega
  have HT := Lib.hid (ht.alloc (.cells #[.int .i64 r, .int .i64 s] 32))
  have hb0 := (Below.refl w.heap.size w).alloc (Nat.le_refl _) (.cells #[.int .i64 r, .int .i64 s] 32)
  have hc : (w.alloc (.cells #[.int .i64 r, .int .i64 s] 32)).cell? ⟨w.heap.size, 0, none⟩ = some (.int .i64 r) ∧ (w.alloc (.cells #[.int .i64 r, .int .i64 s] 32)).cell? ⟨w.heap.size, 1, none⟩ = some (.int .i64 s) := ⟨new0 rfl rfl, new0 rfl rfl⟩
  have HV := Lib.hid (fun w ht => Verify_is y r s t false w (by omega) ht (verB_out (by omega)))
  have hs0 : w.heap.size < (w.alloc (.cells #[.int .i64 r, .int .i64 s] 32)).heap.size := by simp
  clear ht
  rcases h with h1 | ⟨h1, h2⟩ | ⟨h1, h2, h3⟩ | ⟨h1, h2, h3, h4⟩ | ⟨h1, h2, h3, h4, h5⟩ | ⟨h1, h2, h3, h4, h5, h6⟩
  all_goals
    go_enter Tryd.func10, Tryd.ntmps10
    go_wp2_with fail
    generalize w.alloc (.cells #[.int .i64 r, .int .i64 s] 32) = w0 at *
    refine (head29 _ HT.out).mono ?_
    rintro e w1 ⟨rfl, hb1⟩
    have H1 := Lib.hid (HT.out.below hb1 (Nat.le_refl _))
    have hs1 := hb1.size
    obtain ⟨c0, c1⟩ := cells2_below hc hb1 hs0
    have HB1 := Lib.hid (hb0.trans (hb1.mono (by omega)))
    clear hc hb1 hb0
    go_wp2_with fail
    refine (HV.out _ H1.out).mono ?_
    rintro e w2 ⟨rfl, hb2⟩
    have HB2 := Lib.hid (HB1.out.trans (hb2.mono (by omega)))
    clear hb2
    go_wp2_with fail
    go_ret
    exact ⟨rfl, HB2.out⟩

set_option maxHeartbeats 1000000 in
theorem equation_I (y r s A B c rb v : Int) (eq : Bool) (t : ByteArray) (w : World) (h3 : t.size ≤ 300) (ht : Tabs w) (g1 : 1 ≤ y) (g2 : y < 2147483647) (g3 : 1 ≤ r) (g4 : r < 2147483647) (g5 : 0 ≤ s) (g6 : s < 2147483646)
    (hP1 : ∀ w, Calls Tryd.prog 26 #[.int .i64 7, .int .i64 s] w fun e w' => e = .returned (.int .i64 A) ∧ w = w')
    (hP2 : ∀ w, Calls Tryd.prog 26 #[.int .i64 y, .int .i64 c] w fun e w' => e = .returned (.int .i64 B) ∧ w = w')
    (hC : ∀ w, Tabs w → Calls Tryd.prog 30 #[.int .i64 r, .int .i64 y, .string t] w fun e w' => e = .returned (.int .i64 c) ∧ Below w.heap.size w w')
    (hV : ∀ w, Tabs w → Calls Tryd.prog 28 #[.int .i64 y, .string t, .agg #[.int .i64 r, .int .i64 s]] w fun e w' => e = .returned (.bool eq) ∧ Below w.heap.size w w')
    (m2 : rb.tmod 2147483647 = v) (m4 : IntKind.i64.wrap (r * B) = rb) (m7 : (A == v) = eq) :
    Calls Tryd.prog 10 #[.int .i64 y, .string t, .agg #[.int .i64 r, .int .i64 s]] w fun e w' => e = .returned (.bool true) ∧ Below w.heap.size w w' := by
  have hs' : (t.size : Int) ≤ 300 := by omega
  have HV := Lib.hid hV
  have HP1 := Lib.hid hP1
  have HP2 := Lib.hid hP2
  have HC := Lib.hid hC
  have HM7 := Lib.hid m7
  clear hV hP1 hP2 hC h3 m7
  have HT := Lib.hid (ht.alloc (.cells #[.int .i64 r, .int .i64 s] 32))
  have hb0 := (Below.refl w.heap.size w).alloc (Nat.le_refl _) (.cells #[.int .i64 r, .int .i64 s] 32)
  have hc : (w.alloc (.cells #[.int .i64 r, .int .i64 s] 32)).cell? ⟨w.heap.size, 0, none⟩ = some (.int .i64 r) ∧ (w.alloc (.cells #[.int .i64 r, .int .i64 s] 32)).cell? ⟨w.heap.size, 1, none⟩ = some (.int .i64 s) := ⟨new0 rfl rfl, new0 rfl rfl⟩
  have hs0 : w.heap.size < (w.alloc (.cells #[.int .i64 r, .int .i64 s] 32)).heap.size := by simp
  clear ht
  go_enter Tryd.func10, Tryd.ntmps10
  go_wp2_with fail
  generalize w.alloc (.cells #[.int .i64 r, .int .i64 s] 32) = w0 at *
  refine (head29 _ HT.out).mono ?_
  rintro e w1 ⟨rfl, hb1⟩
  have H1 := Lib.hid (HT.out.below hb1 (Nat.le_refl _))
  have hs1 := hb1.size
  obtain ⟨c0, c1⟩ := cells2_below hc hb1 hs0
  have hb2 := hb0.trans (hb1.mono (by omega))
  have hs2 : w.heap.size < w1.heap.size := by omega
  clear hc hb1 hb0 hs0 hs1 HT
  generalize hn0 : w.heap.size = n0 at *
  have HN0 := Lib.hid hn0
  clear hn0
  go_wp2_with fail
  clear g1 g2 g3 g4 g5 g6 hs'
  go_region_held_law (fun w' => w'.cell? ⟨n0, 0, none⟩ = some (.int .i64 r) ∧ w'.cell? ⟨n0, 1, none⟩ = some (.int .i64 s)) (first | (go_keep; done) | exact ⟨(hbc.cell hs2).trans c0, (hbc.cell hs2).trans c1⟩) (first | (go_at_call 26; refine (HP2.out _).mono ?_; rintro e wa ⟨rfl, rfl⟩) | (go_at_call 30; refine (HC.out _ (by repeat (first | exact H1.out | apply Tabs.drew))).mono ?_; rintro e wc ⟨rfl, hbc⟩))
  rename_i hh
  have H3 := Lib.hid ((H1.out.drew).below hbc (Nat.le_refl _))
  have HB3 := Lib.hid (hb2.trans (Below.mono (by first | exact hbc | exact ⟨hbc.os, hbc.tape, hbc.output, hbc.size, hbc.block⟩) (show n0 ≤ w1.heap.size from Nat.le_of_lt hs2)))
  have hs3 : n0 < wc.heap.size := Nat.lt_of_lt_of_le hs2 hbc.size
  obtain ⟨d0, d1⟩ := hh
  clear hbc c0 c1 hb2 hs2
  go_wp2_with fail
  go_region_held_law (fun w' => w'.cell? ⟨n0, 0, none⟩ = some (.int .i64 r) ∧ w'.cell? ⟨n0, 1, none⟩ = some (.int .i64 s)) (first | (go_keep; done) | exact ⟨(hbd.cell hs3).trans d0, (hbd.cell hs3).trans d1⟩) (first | (go_at_call 26; refine (HP1.out _).mono ?_; rintro e wa ⟨rfl, rfl⟩) | (go_at_call 28; refine (HV.out _ (by repeat (first | exact H3.out | apply Tabs.drew))).mono ?_; rintro e wd ⟨rfl, hbd⟩))
  have HB4 := Lib.hid (HB3.out.trans (Below.mono (by first | exact hbd | exact ⟨hbd.os, hbd.tape, hbd.output, hbd.size, hbd.block⟩) (show n0 ≤ wc.heap.size from Nat.le_of_lt hs3)))
  clear hbd
  go_wp2_with fail
  go_ret
  exact ⟨by first | (rw [HM7.out, beq_self_eq_true]; rfl) | rw [HM7.out, beq_self_eq_true], by rw [HN0.out]; exact HB4.out⟩

theorem law_SignEquation (y : Int) (t : ByteArray) (r s : Int) (w : World) (_ : (Lit.int .i64 y).wf = true) (hm : t.size ≤ maxLen) (_ : (Lit.int .i64 r).wf = true) (_ : (Lit.int .i64 s).wf = true) (ht : Tabs w) :
    Calls Tryd.prog 10 #[.int .i64 y, .string t, .agg #[.int .i64 r, .int .i64 s]] w fun e w' => e = .returned (.bool true) ∧ Below w.heap.size w w' := by
  by_cases h3 : t.size ≤ 300
  · by_cases h : 1 ≤ y ∧ y < 2147483647 ∧ 1 ≤ r ∧ r < 2147483647 ∧ 0 ≤ s ∧ s < 2147483646
    · obtain ⟨y, rfl⟩ := Int.eq_ofNat_of_zero_le (show 0 ≤ y by omega)
      obtain ⟨r, rfl⟩ := Int.eq_ofNat_of_zero_le (show 0 ≤ r by omega)
      obtain ⟨s, rfl⟩ := Int.eq_ofNat_of_zero_le (show 0 ≤ s by omega)
      have hy1 : 1 ≤ y := by omega
      have hy2 : y < 2147483647 := by omega
      have hr1 : 1 ≤ r := by omega
      have hr2 : r < 2147483647 := by omega
      have hs : s < 2147483646 := by omega
      have hcl := chal_lt r y t
      obtain ⟨m1, m2, m3⟩ := mul_facts hr2 (pw_lt y (chal r y t))
      have m4 := mul_wrap hr2 (pw_lt y (chal r y t))
      have p1 := fun w => Power7 s w (by omega)
      have p2 := fun w => Power_in y (chal r y t) w hy1 hy2 (by omega)
      have p3 := fun w h => Lchal_any r y t w (by omega) (by omega) (by omega) h
      have p4 := fun w h => Verify_is y r s t _ w (by omega) h (verB_in hy1 hy2 hr1 hr2 hs)
      generalize pw 7 s = A at *
      generalize pw y (chal r y t) = B at *
      generalize chal r y t = c at *
      exact equation_I y r s A B c ((r * B : Nat) : Int) ((r * B % 2147483647 : Nat) : Int) (decide (A = r * B % 2147483647)) t w h3 ht (by omega) (by omega) (by omega) (by omega) (by omega) (by omega)
        p1 p2 p3 p4 m2 m4 (beq_cast _ _)
    · exact equation_out y r s t w h3 ht (by omega)
  · exact equation_big y r s t w (by omega) hm ht
end Go.Proofs.YtgjefmhobfdjdaaDoor
