/- SignMatchesReference: the walk. -/
import Derived.Test.YtgjefmhobfdjdaaDoorQ4
import Derived.Test.YtgjefmhobfdjdaaDoorPA
namespace Go.Proofs.YtgjefmhobfdjdaaDoor
open Go.RowKit

set_option maxHeartbeats 1000000 in
theorem matches_big (b n x p r s : Int) (t : ByteArray) (w : World) (h3 : 300 < t.size) (hm : t.size ≤ maxLen) (ht : Tabs w) :
    Calls Tryd.prog 8 #[.int .i64 b, .int .i64 n, .int .i64 x, .int .i64 p, .string t, .agg #[.int .i64 r, .int .i64 s]] w fun e w' => e = .returned (.bool true) ∧ Below w.heap.size w w' := by
  have hm' : (t.size : Int) ≤ 9223372036854775807 := by unfold maxLen at hm; omega
  have hs' : (300 : Int) < (t.size : Int) := by omega
  have HT := Lib.hid (ht.alloc (.cells #[.int .i64 r, .int .i64 s] 32))
  have hb0 := (Below.refl w.heap.size w).alloc (Nat.le_refl _) (.cells #[.int .i64 r, .int .i64 s] 32)
  clear ht
  go_enter Tryd.func8, Tryd.ntmps8
  go_wp2_with fail
  refine (head29 _ HT.out).mono ?_
  rintro e w1 ⟨rfl, hb1⟩
  go_wp2_with fail
  go_ret
  exact ⟨rfl, hb0.trans (hb1.mono (by simp))⟩

set_option maxHeartbeats 2000000 in
theorem matches_in (b n x p r s P y e1 R S g : Int) (V : Bool) (t : ByteArray) (w : World) (h3 : t.size ≤ 300) (ht : Tabs w)
    (hP : ∀ w, Calls Tryd.prog 26 #[.int .i64 b, .int .i64 n] w fun e w' => e = .returned (.int .i64 P) ∧ w = w')
    (hRP : ∀ w, Calls Tryd.prog 27 #[.int .i64 b, .int .i64 n] w fun e w' => e = .returned (.int .i64 P) ∧ w = w')
    (hPub : ∀ w, Calls Tryd.prog 22 #[.int .i64 x] w fun e w' => e = .returned (.tuple #[.int .i64 y, .int .i64 e1]) ∧ w = w')
    (hRPub : ∀ w, Calls Tryd.prog 23 #[.int .i64 x] w fun e w' => e = .returned (.tuple #[.int .i64 y, .int .i64 e1]) ∧ w = w')
    (hSg : ∀ w, Tabs w → Calls Tryd.prog 24 #[.int .i64 x, .string t] w fun e w' => e = .returned (.tuple #[.agg #[.int .i64 R, .int .i64 S], .int .i64 g]) ∧ Below w.heap.size w w')
    (hRSg : ∀ w, Calls Tryd.prog 25 #[.int .i64 x, .string t] w fun e w' => e = .returned (.tuple #[.agg #[.int .i64 R, .int .i64 S], .int .i64 g]) ∧ Below w.heap.size w w')
    (hV : ∀ w, Tabs w → Calls Tryd.prog 28 #[.int .i64 p, .string t, .agg #[.int .i64 r, .int .i64 s]] w fun e w' => e = .returned (.bool V) ∧ Below w.heap.size w w')
    (hRV : ∀ w, Calls Tryd.prog 29 #[.int .i64 p, .string t, .agg #[.int .i64 r, .int .i64 s]] w fun e w' => e = .returned (.bool V) ∧ Below w.heap.size w w') :
    Calls Tryd.prog 8 #[.int .i64 b, .int .i64 n, .int .i64 x, .int .i64 p, .string t, .agg #[.int .i64 r, .int .i64 s]] w fun e w' => e = .returned (.bool true) ∧ Below w.heap.size w w' := by
  have hs' : (t.size : Int) ≤ 300 := by omega
  have HP := Lib.hid hP
  have HRP := Lib.hid hRP
  have HPub := Lib.hid hPub
  have HRPub := Lib.hid hRPub
  have HSg := Lib.hid hSg
  have HRSg := Lib.hid hRSg
  have HV := Lib.hid hV
  have HRV := Lib.hid hRV
  clear hPub hSg h3 hV hP hRP hRPub hRSg hRV
  have HT := Lib.hid (ht.alloc (.cells #[.int .i64 r, .int .i64 s] 32))
  have HB0 := Lib.hid ((Below.refl w.heap.size w).alloc (Nat.le_refl _) (.cells #[.int .i64 r, .int .i64 s] 32))
  have hc0 : (w.alloc (.cells #[.int .i64 r, .int .i64 s] 32)).cell? ⟨w.heap.size, 0, none⟩ = some (.int .i64 r) ∧ (w.alloc (.cells #[.int .i64 r, .int .i64 s] 32)).cell? ⟨w.heap.size, 1, none⟩ = some (.int .i64 s) := ⟨new0 rfl rfl, new0 rfl rfl⟩
  have hs0 : w.heap.size < (w.alloc (.cells #[.int .i64 r, .int .i64 s] 32)).heap.size := by simp
  clear ht
  go_enter Tryd.func8, Tryd.ntmps8
  go_wp2_with fail
  generalize w.alloc (.cells #[.int .i64 r, .int .i64 s] 32) = w0 at *
  refine (head29 _ HT.out).mono ?_
  rintro e w1 ⟨rfl, hb1⟩
  have H1 := Lib.hid (HT.out.below hb1 (Nat.le_refl _))
  have HB1 := Lib.hid (HB0.out.trans (hb1.mono (Nat.le_of_lt hs0)))
  have hs1 : w.heap.size < w1.heap.size := Nat.lt_of_lt_of_le hs0 hb1.size
  have hc1 := cells2_below hc0 hb1 hs0
  clear hb1 hc0
  go_wp2_with fail
  refine (HPub.out _).mono ?_
  rintro e wx ⟨rfl, rfl⟩
  go_wp2_with fail
  refine (HRPub.out _).mono ?_
  rintro e wx ⟨rfl, rfl⟩
  go_wp2_with fail
  refine (HSg.out _ H1.out).mono ?_
  rintro e w2 ⟨rfl, hb2⟩
  have H2 := Lib.hid (H1.out.below hb2 (Nat.le_refl _))
  have HB2 := Lib.hid (HB1.out.trans (hb2.mono (Nat.le_of_lt hs1)))
  have hs2 : w.heap.size < w2.heap.size := Nat.lt_of_lt_of_le hs1 hb2.size
  have hc2 := cells2_below hc1 hb2 hs1
  clear hb2 hc1
  have H3 := Lib.hid (H2.out.alloc (.cells #[.int .i64 R, .int .i64 S] 32))
  have HB3 := Lib.hid (HB2.out.alloc (Nat.le_of_lt hs2) (.cells #[.int .i64 R, .int .i64 S] 32))
  have hc3 := cells2_below (w' := w2.alloc (.cells #[.int .i64 R, .int .i64 S] 32)) hc2 ((Below.refl _ _).alloc (Nat.le_refl _) _) hs2
  have hd3 : (w2.alloc (.cells #[.int .i64 R, .int .i64 S] 32)).cell? ⟨w2.heap.size, 0, none⟩ = some (.int .i64 R) ∧ (w2.alloc (.cells #[.int .i64 R, .int .i64 S] 32)).cell? ⟨w2.heap.size, 1, none⟩ = some (.int .i64 S) := ⟨new0 rfl rfl, new0 rfl rfl⟩
  have ht3 : w2.heap.size < (w2.alloc (.cells #[.int .i64 R, .int .i64 S] 32)).heap.size := by simp
  have hs3 := Nat.lt_trans hs2 ht3
  clear hc2
  go_wp2_with fail
  generalize w2.alloc (.cells #[.int .i64 R, .int .i64 S] 32) = w3 at *
  refine (HRSg.out _).mono ?_
  rintro e w4 ⟨rfl, hb4⟩
  have H4 := Lib.hid (H3.out.below hb4 (Nat.le_refl _))
  have HB4 := Lib.hid (HB3.out.trans (hb4.mono (Nat.le_of_lt hs3)))
  have hs4 : w.heap.size < w4.heap.size := Nat.lt_of_lt_of_le hs3 hb4.size
  have ht4 : w2.heap.size < w4.heap.size := Nat.lt_of_lt_of_le ht3 hb4.size
  have hc4 := cells2_below hc3 hb4 hs3
  have hd4 := cells2_below hd3 hb4 ht3
  clear hb4 hc3 hd3
  have H5 := Lib.hid (H4.out.alloc (.cells #[.int .i64 R, .int .i64 S] 32))
  have HB5 := Lib.hid (HB4.out.alloc (Nat.le_of_lt hs4) (.cells #[.int .i64 R, .int .i64 S] 32))
  have hc5 := cells2_below (w' := w4.alloc (.cells #[.int .i64 R, .int .i64 S] 32)) hc4 ((Below.refl _ _).alloc (Nat.le_refl _) _) hs4
  have hd5 := cells2_below (w' := w4.alloc (.cells #[.int .i64 R, .int .i64 S] 32)) hd4 ((Below.refl _ _).alloc (Nat.le_refl _) _) ht4
  have he5 : (w4.alloc (.cells #[.int .i64 R, .int .i64 S] 32)).cell? ⟨w4.heap.size, 0, none⟩ = some (.int .i64 R) ∧ (w4.alloc (.cells #[.int .i64 R, .int .i64 S] 32)).cell? ⟨w4.heap.size, 1, none⟩ = some (.int .i64 S) := ⟨new0 rfl rfl, new0 rfl rfl⟩
  have hu5 : w4.heap.size < (w4.alloc (.cells #[.int .i64 R, .int .i64 S] 32)).heap.size := by simp
  have hs5 := Nat.lt_trans hs4 hu5
  have ht5 := Nat.lt_trans ht4 hu5
  clear hc4 hd4
  go_wp2_with fail
  generalize w4.alloc (.cells #[.int .i64 R, .int .i64 S] 32) = w5 at *
  generalize hn0 : w.heap.size = n0 at *
  have HN0 := Lib.hid hn0
  clear hn0
  generalize hn2 : w2.heap.size = n2 at *
  generalize hn4 : w4.heap.size = n4 at *
  clear hn2 hn4 hs1 hs2 ht3 hs3 hs4 ht4 hs0
  have HC5 := Lib.hid hc5
  have HD5 := Lib.hid hd5
  have HE5 := Lib.hid he5
  obtain ⟨c0, c1⟩ := hc5
  obtain ⟨c2, c3⟩ := hd5
  obtain ⟨c4, c5⟩ := he5
  go_region_held_law (fun w' => (w'.cell? ⟨n0, 0, none⟩ = some (.int .i64 r) ∧ w'.cell? ⟨n0, 1, none⟩ = some (.int .i64 s)) ∧ (w'.cell? ⟨n2, 0, none⟩ = some (.int .i64 R) ∧ w'.cell? ⟨n2, 1, none⟩ = some (.int .i64 S)) ∧ (w'.cell? ⟨n4, 0, none⟩ = some (.int .i64 R) ∧ w'.cell? ⟨n4, 1, none⟩ = some (.int .i64 S))) (first | (go_keep; done) | exact ⟨⟨(hba.cell hs5).trans c0, (hba.cell hs5).trans c1⟩, ⟨(hba.cell ht5).trans c2, (hba.cell ht5).trans c3⟩, ⟨(hba.cell hu5).trans c4, (hba.cell hu5).trans c5⟩⟩ | exact ⟨⟨(hbb.cell (Nat.lt_of_lt_of_le hs5 hba.size)).trans ((hba.cell hs5).trans c0), (hbb.cell (Nat.lt_of_lt_of_le hs5 hba.size)).trans ((hba.cell hs5).trans c1)⟩, ⟨(hbb.cell (Nat.lt_of_lt_of_le ht5 hba.size)).trans ((hba.cell ht5).trans c2), (hbb.cell (Nat.lt_of_lt_of_le ht5 hba.size)).trans ((hba.cell ht5).trans c3)⟩, ⟨(hbb.cell (Nat.lt_of_lt_of_le hu5 hba.size)).trans ((hba.cell hu5).trans c4), (hbb.cell (Nat.lt_of_lt_of_le hu5 hba.size)).trans ((hba.cell hu5).trans c5)⟩⟩) (first | (go_at_call 26; refine (HP.out _).mono ?_; rintro e wp ⟨rfl, rfl⟩) | (go_at_call 27; refine (HRP.out _).mono ?_; rintro e wp ⟨rfl, rfl⟩) | (go_at_call 28; refine (HV.out _ (by repeat (first | exact H5.out | apply Tabs.drew))).mono ?_; rintro e wa ⟨rfl, hba⟩) | (go_at_call 29; refine (HRV.out _).mono ?_; rintro e wb ⟨rfl, hbb⟩))
  have hba' : Below w5.heap.size w5 wa := by first | exact hba | exact ⟨hba.os, hba.tape, hba.output, hba.size, hba.block⟩
  have HBb := Lib.hid (HB5.out.trans ((hba'.mono (Nat.le_of_lt hs5)).trans (hbb.mono (Nat.le_trans (Nat.le_of_lt hs5) hba'.size))))
  clear hba hbb hba' c0 c1 c2 c3 c4 c5
  go_wp2_with fail
  go_ret
  exact ⟨rfl, by rw [HN0.out]; exact HBb.out⟩

/-- What the reference's Public returns where Public returns so. -/
theorem RPublic_low (x : Int) (w : World) (h : ¬ (1 ≤ x ∧ x < 2147483646)) :
    Calls Tryd.prog 23 #[.int .i64 x] w fun e w' => e = .returned (.tuple #[.int .i64 0, .int .i64 1]) ∧ w = w' := RPublic_bad x w (by omega)

theorem law_SignMatchesReference (b n x p : Int) (t : ByteArray) (r s : Int) (w : World) (_ : (Lit.int .i64 b).wf = true) (hn : (Lit.int .i64 n).wf = true) (_ : (Lit.int .i64 x).wf = true) (_ : (Lit.int .i64 p).wf = true) (hm : t.size ≤ maxLen) (_ : (Lit.int .i64 r).wf = true) (_ : (Lit.int .i64 s).wf = true) (ht : Tabs w) :
    Calls Tryd.prog 8 #[.int .i64 b, .int .i64 n, .int .i64 x, .int .i64 p, .string t, .agg #[.int .i64 r, .int .i64 s]] w fun e w' => e = .returned (.bool true) ∧ Below w.heap.size w w' := by
  have hn : n ≤ 9223372036854775807 := by
    simp only [Lit.wf, Bool.and_eq_true, decide_eq_true_eq] at hn
    exact hn.2
  by_cases h3 : t.size ≤ 300
  · have q1 := fun w => Power_any b n w hn
    have q2 := fun w => RPower_any b n w hn
    have q3 := fun w h => Verify_any p r s t w (by omega) h
    have q4 := fun w => RVerify_any p r s t w (by omega)
    rcases Public_any x with ⟨k, rfl, h1, h2, hc⟩ | ⟨hx, hc⟩
    · have p1 := fun w h => Sign_ok k t w h1 h2 (by omega) h
      have p2 := fun w => RSign_ok k t w h1 h2 (by omega)
      have p3 := fun w => RPublic_ok k w h1 h2
      exact matches_in b n k p r s _ _ _ _ _ _ _ t w h3 ht q1 q2 hc p3 p1 p2 q3 q4
    · have p3 := fun w => RPublic_low x w hx
      exact matches_in b n x p r s _ _ _ _ _ _ _ t w h3 ht q1 q2 hc p3 (fun w _ => Sign_bad x t w hc) (fun w => RSign_bad x t w p3) q3 q4
  · exact matches_big b n x p r s t w (by omega) hm ht
end Go.Proofs.YtgjefmhobfdjdaaDoor
