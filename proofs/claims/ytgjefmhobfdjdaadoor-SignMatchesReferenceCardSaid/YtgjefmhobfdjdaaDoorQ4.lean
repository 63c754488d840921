/- SignVerifies: the walk. -/
import Derived.Test.YtgjefmhobfdjdaaDoorQ3
namespace Go.Proofs.YtgjefmhobfdjdaaDoor
open Go.RowKit

set_option maxHeartbeats 1000000 in
theorem verifies_big (x : Int) (t : ByteArray) (w : World) (h3 : 300 < t.size) (hm : t.size ≤ maxLen) (ht : Tabs w) :
    Calls Tryd.prog 9 #[.int .i64 x, .string t] w fun e w' => e = .returned (.bool true) ∧ Below w.heap.size w w' := by
  have hm' : (t.size : Int) ≤ 9223372036854775807 := by unfold maxLen at hm; omega
  have HT := Lib.hid ht
  clear ht
  have hs' : (300 : Int) < (t.size : Int) := by omega
  clear h3
  go_enter Tryd.func9, Tryd.ntmps9
  go_wp2_with fail
  refine (head29 _ HT.out).mono ?_
  rintro e w1 ⟨rfl, hb1⟩
  go_wp2_with fail
  go_ret
  exact ⟨rfl, hb1⟩

set_option maxHeartbeats 1000000 in
theorem verifies_bad (x : Int) (t : ByteArray) (w : World) (h3 : t.size ≤ 300) (ht : Tabs w) (hx : x < 1 ∨ (1 ≤ x ∧ 2147483645 < x))
    (hPub : ∀ w, Calls Tryd.prog 22 #[.int .i64 x] w fun e w' => e = .returned (.tuple #[.int .i64 0, .int .i64 1]) ∧ w = w')
    (hSg : ∀ w, Tabs w → Calls Tryd.prog 24 #[.int .i64 x, .string t] w fun e w' => e = .returned (.tuple #[.agg #[.int .i64 0, .int .i64 0], .int .i64 1]) ∧ Below w.heap.size w w') :
    Calls Tryd.prog 9 #[.int .i64 x, .string t] w fun e w' => e = .returned (.bool true) ∧ Below w.heap.size w w' := by
  have hs' : (t.size : Int) ≤ 300 := by omega
  have HT := Lib.hid ht
  have HPub := Lib.hid hPub
  have HSg := Lib.hid hSg
  clear hPub hSg ht h3
  rcases hx with hx | ⟨hx, hx2⟩
  all_goals
    go_enter Tryd.func9, Tryd.ntmps9
    go_wp2_with fail
    refine (head29 _ HT.out).mono ?_
    rintro e w1 ⟨rfl, hb1⟩
    have H1 := Lib.hid (HT.out.below hb1 (Nat.le_refl _))
    have hs1 := hb1.size
    have HB1 := Lib.hid hb1
    clear hb1
    go_wp2_with fail
    refine (HPub.out _).mono ?_
    rintro e wx ⟨rfl, rfl⟩
    go_wp2_with fail
    refine (HSg.out _ H1.out).mono ?_
    rintro e w8 ⟨rfl, hb8⟩
    have hs8 : w.heap.size ≤ w8.heap.size := Nat.le_trans hs1 hb8.size
    have HB8 := Lib.hid (HB1.out.trans (hb8.mono hs1))
    clear hb8
    go_wp2_with fail
    go_ret
    exact ⟨rfl, HB8.out.alloc hs8 _⟩

set_option maxHeartbeats 1000000 in
theorem verifies_ok (x y R S : Int) (t : ByteArray) (w : World) (h3 : t.size ≤ 300) (ht : Tabs w) (hx1 : 1 ≤ x) (hx2 : x ≤ 2147483645)
    (hPub : ∀ w, Calls Tryd.prog 22 #[.int .i64 x] w fun e w' => e = .returned (.tuple #[.int .i64 y, .int .i64 0]) ∧ w = w')
    (hSg : ∀ w, Tabs w → Calls Tryd.prog 24 #[.int .i64 x, .string t] w fun e w' => e = .returned (.tuple #[.agg #[.int .i64 R, .int .i64 S], .int .i64 0]) ∧ Below w.heap.size w w')
    (hV : ∀ w, Tabs w → Calls Tryd.prog 28 #[.int .i64 y, .string t, .agg #[.int .i64 R, .int .i64 S]] w fun e w' => e = .returned (.bool true) ∧ Below w.heap.size w w')
    (hR : 1 ≤ R) (hR2 : R < 2147483647) (hS : 0 ≤ S) (hS2 : S < 2147483646) :
    Calls Tryd.prog 9 #[.int .i64 x, .string t] w fun e w' => e = .returned (.bool true) ∧ Below w.heap.size w w' := by
  have hs' : (t.size : Int) ≤ 300 := by omega
  have HT := Lib.hid ht
  have HPub := Lib.hid hPub
  have HSg := Lib.hid hSg
  have HV := Lib.hid hV
  clear hPub hSg ht h3 hV
  go_enter Tryd.func9, Tryd.ntmps9
  go_wp2_with fail
  refine (head29 _ HT.out).mono ?_
  rintro e w1 ⟨rfl, hb1⟩
  have H1 := Lib.hid (HT.out.below hb1 (Nat.le_refl _))
  have hs1 := hb1.size
  have HB1 := Lib.hid hb1
  clear hb1
  go_wp2_with fail
  refine (HPub.out _).mono ?_
  rintro e wx ⟨rfl, rfl⟩
  go_wp2_with fail
  refine (HSg.out _ H1.out).mono ?_
  rintro e w8 ⟨rfl, hb8⟩
  have H8 := Lib.hid (H1.out.below hb8 (Nat.le_refl _))
  have hs8 : w.heap.size ≤ w8.heap.size := Nat.le_trans hs1 hb8.size
  have HB8 := Lib.hid (HB1.out.trans (hb8.mono hs1))
  clear hb8
  have H9 := Lib.hid (H8.out.alloc (.cells #[.int .i64 R, .int .i64 S] 32))
  have HB9 := Lib.hid (HB8.out.alloc hs8 (.cells #[.int .i64 R, .int .i64 S] 32))
  have hc : (w8.alloc (.cells #[.int .i64 R, .int .i64 S] 32)).cell? ⟨w8.heap.size, 0, none⟩ = some (.int .i64 R) ∧ (w8.alloc (.cells #[.int .i64 R, .int .i64 S] 32)).cell? ⟨w8.heap.size, 1, none⟩ = some (.int .i64 S) := ⟨new0 rfl rfl, new0 rfl rfl⟩
  have hs9 : w8.heap.size < (w8.alloc (.cells #[.int .i64 R, .int .i64 S] 32)).heap.size := by simp
  have hs0 := Nat.lt_of_le_of_lt hs8 hs9
  go_wp2_with fail
  generalize w8.alloc (.cells #[.int .i64 R, .int .i64 S] 32) = w9 at *
  generalize hn0 : w8.heap.size = n0 at *
  clear hn0
  refine (HSg.out _ H9.out).mono ?_
  rintro e w10 ⟨rfl, hb10⟩
  have H10 := Lib.hid (H9.out.below hb10 (Nat.le_refl _))
  have hsw : w.heap.size ≤ w9.heap.size := Nat.le_of_lt hs0
  have hs10 : w.heap.size ≤ w10.heap.size := Nat.le_trans hsw hb10.size
  have HB10 := Lib.hid (HB9.out.trans (hb10.mono hsw))
  have hc10 := cells2_below hc hb10 hs9
  have hn10 : n0 < w10.heap.size := Nat.lt_of_lt_of_le hs9 hb10.size
  clear hb10 hc
  have H11 := Lib.hid (H10.out.alloc (.cells #[.int .i64 R, .int .i64 S] 32))
  have HB11 := Lib.hid (HB10.out.alloc hs10 (.cells #[.int .i64 R, .int .i64 S] 32))
  obtain ⟨c0, c1⟩ := cells2_below (w' := w10.alloc (.cells #[.int .i64 R, .int .i64 S] 32)) hc10 ((Below.refl _ _).alloc (Nat.le_refl _) _) hn10
  have d0 : (w10.alloc (.cells #[.int .i64 R, .int .i64 S] 32)).cell? ⟨w10.heap.size, 0, none⟩ = some (.int .i64 R) := new0 rfl rfl
  have d1 : (w10.alloc (.cells #[.int .i64 R, .int .i64 S] 32)).cell? ⟨w10.heap.size, 1, none⟩ = some (.int .i64 S) := new0 rfl rfl
  have hs11 : w.heap.size ≤ (w10.alloc (.cells #[.int .i64 R, .int .i64 S] 32)).heap.size := by simp; omega
  clear hc10
  go_wp2_with fail
  generalize w10.alloc (.cells #[.int .i64 R, .int .i64 S] 32) = w11 at *
  refine (HV.out _ H11.out).mono ?_
  rintro e w12 ⟨rfl, hb12⟩
  have HB12 := Lib.hid (HB11.out.trans (hb12.mono hs11))
  clear hb12 c0 c1 d0 d1
  go_wp2_with fail
  go_ret
  exact ⟨rfl, HB12.out⟩

theorem law_SignVerifies (x : Int) (t : ByteArray) (w : World) (_ : (Lit.int .i64 x).wf = true) (hm : t.size ≤ maxLen) (ht : Tabs w) :
    Calls Tryd.prog 9 #[.int .i64 x, .string t] w fun e w' => e = .returned (.bool true) ∧ Below w.heap.size w w' := by
  by_cases h3 : t.size ≤ 300
  · rcases Public_any x with ⟨n, rfl, h1, h2, hc⟩ | ⟨hx, hc⟩
    · have r1 := pw7_pos (kay n t)
      have r2 := pw_lt 7 (kay n t)
      have hs : sgS n t < 2147483646 := by unfold sgS; omega
      have p1 := fun w h => Sign_ok n t w h1 h2 (by omega) h
      have p6 := fun w h => Verify_is (pw 7 n : Nat) (pw 7 (kay n t) : Nat) (sgS n t : Nat) t true w (by omega) h (ver_sign n t)
      exact verifies_ok _ _ _ _ t w h3 ht (by omega) (by omega) hc p1 p6 (by omega) (by omega) (by omega) (by omega)
    · exact verifies_bad x t w h3 ht (by omega) hc (fun w _ => Sign_bad x t w hc)
  · exact verifies_big x t w (by omega) hm ht
end Go.Proofs.YtgjefmhobfdjdaaDoor
