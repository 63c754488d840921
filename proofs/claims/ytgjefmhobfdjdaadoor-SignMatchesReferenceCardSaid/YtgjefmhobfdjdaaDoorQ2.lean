/- SignOnce: the walk. -/
import Derived.Test.YtgjefmhobfdjdaaDoorQ1
namespace Go.Proofs.YtgjefmhobfdjdaaDoor
open Go.RowKit

set_option maxHeartbeats 1000000 in
theorem once_big (x pb other r a b : Int) (t : ByteArray) (w : World) (h3 : 300 < t.size) (hm : t.size ≤ maxLen) (ht : Tabs w) :
    Calls Tryd.prog 11 #[.int .i64 x, .int .i64 pb, .string t, .int .i64 other, .int .i64 r, .int .i64 a, .int .i64 b] w fun e w' => e = .returned (.bool true) ∧ Below w.heap.size w w' := by
  have hm' : (t.size : Int) ≤ 9223372036854775807 := by unfold maxLen at hm; omega
  have hs' : (300 : Int) < (t.size : Int) := by omega
  have HT := Lib.hid ht
  clear ht h3
  go_enter Tryd.func11, Tryd.ntmps11
  go_wp2_with fail
  refine (head29 _ HT.out).mono ?_
  rintro e w1 ⟨rfl, hb1⟩
  go_wp2_with fail
  go_ret
  exact ⟨rfl, hb1⟩
set_option maxHeartbeats 1000000 in
theorem once_0ok (x pb other r a b y R S : Int) (t : ByteArray) (V : Bool) (w : World) (h3 : t.size ≤ 300) (ht : Tabs w)
    (hab : a = b)
    (hPub : ∀ w, Calls Tryd.prog 22 #[.int .i64 x] w fun e w' => e = .returned (.tuple #[.int .i64 y, .int .i64 0]) ∧ w = w')
    (hSg : ∀ w, Tabs w → Calls Tryd.prog 24 #[.int .i64 x, .string t] w fun e w' => e = .returned (.tuple #[.agg #[.int .i64 R, .int .i64 S], .int .i64 0]) ∧ Below w.heap.size w w')
    (hV : ∀ w, Tabs w → Calls Tryd.prog 28 #[.int .i64 y, .string t, .agg #[.int .i64 R, .int .i64 other]] w fun e w' => e = .returned (.bool V) ∧ Below w.heap.size w w')
    (hVe : (other == S) = V) :
    Calls Tryd.prog 11 #[.int .i64 x, .int .i64 pb, .string t, .int .i64 other, .int .i64 r, .int .i64 a, .int .i64 b] w fun e w' => e = .returned (.bool true) ∧ Below w.heap.size w w' := by
  have hs' : (t.size : Int) ≤ 300 := by omega
  have HT := Lib.hid ht
  subst hab
  have HPub := Lib.hid hPub
  have HSg := Lib.hid hSg
  clear hPub hSg ht h3
  have HV := Lib.hid hV
  have HVe := Lib.hid hVe
  clear hV hVe
  go_enter Tryd.func11, Tryd.ntmps11
  go_wp2_with fail
  refine (head29 _ HT.out).mono ?_
  rintro e w1 ⟨rfl, hb1⟩
  have H1 := Lib.hid (HT.out.below hb1 (Nat.le_refl _))
  have hs1 := hb1.size
  have HB1 := Lib.hid hb1
  clear hb1
  go_wp2_with fail
  refine (HPub.out _).mono ?_
  rintro e wx ⟨rfl, rfl⟩
  go_wp2_with fail
  refine (HSg.out _ H1.out).mono ?_
  rintro e w8 ⟨rfl, hb8⟩
  have H8 := Lib.hid (H1.out.below hb8 (Nat.le_refl _))
  have hs8 : w.heap.size ≤ w8.heap.size := Nat.le_trans hs1 hb8.size
  have HB8 := Lib.hid (HB1.out.trans (hb8.mono hs1))
  clear hb8
  have H9 := Lib.hid (H8.out.alloc (.cells #[.int .i64 R, .int .i64 S] 32))
  have HB9 := Lib.hid (HB8.out.alloc hs8 (.cells #[.int .i64 R, .int .i64 S] 32))
  have c0 : (w8.alloc (.cells #[.int .i64 R, .int .i64 S] 32)).cell? ⟨w8.heap.size, 0, none⟩ = some (.int .i64 R) := new0 rfl rfl
  have c1 : (w8.alloc (.cells #[.int .i64 R, .int .i64 S] 32)).cell? ⟨w8.heap.size, 1, none⟩ = some (.int .i64 S) := new0 rfl rfl
  have hs9 : w8.heap.size < (w8.alloc (.cells #[.int .i64 R, .int .i64 S] 32)).heap.size := by simp
  have hs0 := Nat.lt_of_le_of_lt hs8 hs9
  go_wp2_with fail
  generalize w8.alloc (.cells #[.int .i64 R, .int .i64 S] 32) = w9 at *
  generalize hn0 : w8.heap.size = n0 at *
  clear hn0
  go_region_held_law (fun w' => w'.cell? ⟨n0, 0, none⟩ = some (.int .i64 R) ∧ w'.cell? ⟨n0, 1, none⟩ = some (.int .i64 S)) (first | (go_keep; done) | exact ⟨(hbd.cell hs9).trans c0, (hbd.cell hs9).trans c1⟩) (first | (go_at_call 28; refine (HV.out _ (by repeat (first | exact H9.out | apply Tabs.drew))).mono ?_; rintro e wd ⟨rfl, hbd⟩))
  all_goals
    have HB10 := Lib.hid (HB9.out.trans (Below.mono (by first | exact hbd | exact ⟨hbd.os, hbd.tape, hbd.output, hbd.size, hbd.block⟩) (show w.heap.size ≤ w9.heap.size from Nat.le_of_lt hs0)))
    clear hbd
    go_wp2_with fail
    go_ret
    exact ⟨by first | (rw [HVe.out, beq_self_eq_true]; rfl) | rw [HVe.out, beq_self_eq_true], by first | exact HB10.out | exact HB10.out.drew⟩
set_option maxHeartbeats 1000000 in
theorem once_0bad (x pb other r a b : Int) (t : ByteArray) (w : World) (h3 : t.size ≤ 300) (ht : Tabs w)
    (hab : a = b)
    (hPub : ∀ w, Calls Tryd.prog 22 #[.int .i64 x] w fun e w' => e = .returned (.tuple #[.int .i64 0, .int .i64 1]) ∧ w = w')
    (hSg : ∀ w, Tabs w → Calls Tryd.prog 24 #[.int .i64 x, .string t] w fun e w' => e = .returned (.tuple #[.agg #[.int .i64 0, .int .i64 0], .int .i64 1]) ∧ Below w.heap.size w w') :
    Calls Tryd.prog 11 #[.int .i64 x, .int .i64 pb, .string t, .int .i64 other, .int .i64 r, .int .i64 a, .int .i64 b] w fun e w' => e = .returned (.bool true) ∧ Below w.heap.size w w' := by
  have hs' : (t.size : Int) ≤ 300 := by omega
  have HT := Lib.hid ht
  subst hab
  have HPub := Lib.hid hPub
  have HSg := Lib.hid hSg
  clear hPub hSg ht h3
  go_enter Tryd.func11, Tryd.ntmps11
  go_wp2_with fail
  refine (head29 _ HT.out).mono ?_
  rintro e w1 ⟨rfl, hb1⟩
  have H1 := Lib.hid (HT.out.below hb1 (Nat.le_refl _))
  have hs1 := hb1.size
  have HB1 := Lib.hid hb1
  clear hb1
  go_wp2_with fail
  refine (HPub.out _).mono ?_
  rintro e wx ⟨rfl, rfl⟩
  go_wp2_with fail
  refine (HSg.out _ H1.out).mono ?_
  rintro e w8 ⟨rfl, hb8⟩
  have H8 := Lib.hid (H1.out.below hb8 (Nat.le_refl _))
  have hs8 : w.heap.size ≤ w8.heap.size := Nat.le_trans hs1 hb8.size
  have HB8 := Lib.hid (HB1.out.trans (hb8.mono hs1))
  clear hb8
  go_wp2_with fail
  go_ret
  exact ⟨rfl, HB8.out.alloc hs8 _⟩
set_option maxHeartbeats 1000000 in
theorem once_1ok (x pb other r a b y R S : Int) (t : ByteArray) (V : Bool) (w : World) (h3 : t.size ≤ 300) (ht : Tabs w)
    (hab : (a != b) = true)
    (hVa : ∀ w, Tabs w → Calls Tryd.prog 28 #[.int .i64 pb, .string t, .agg #[.int .i64 r, .int .i64 a]] w fun e w' => e = .returned (.bool false) ∧ Below w.heap.size w w')
    (hPub : ∀ w, Calls Tryd.prog 22 #[.int .i64 x] w fun e w' => e = .returned (.tuple #[.int .i64 y, .int .i64 0]) ∧ w = w')
    (hSg : ∀ w, Tabs w → Calls Tryd.prog 24 #[.int .i64 x, .string t] w fun e w' => e = .returned (.tuple #[.agg #[.int .i64 R, .int .i64 S], .int .i64 0]) ∧ Below w.heap.size w w')
    (hV : ∀ w, Tabs w → Calls Tryd.prog 28 #[.int .i64 y, .string t, .agg #[.int .i64 R, .int .i64 other]] w fun e w' => e = .returned (.bool V) ∧ Below w.heap.size w w')
    (hVe : (other == S) = V) :
    Calls Tryd.prog 11 #[.int .i64 x, .int .i64 pb, .string t, .int .i64 other, .int .i64 r, .int .i64 a, .int .i64 b] w fun e w' => e = .returned (.bool true) ∧ Below w.heap.size w w' := by
  have hs' : (t.size : Int) ≤ 300 := by omega
  have HT := Lib.hid ht
  have HVa := Lib.hid hVa
  clear hVa
  have HPub := Lib.hid hPub
  have HSg := Lib.hid hSg
  clear hPub hSg ht h3
  have HV := Lib.hid hV
  have HVe := Lib.hid hVe
  clear hV hVe
  go_enter Tryd.func11, Tryd.ntmps11
  go_wp2_with fail
  refine (head29 _ HT.out).mono ?_
  rintro e w1 ⟨rfl, hb1⟩
  have H1 := Lib.hid (HT.out.below hb1 (Nat.le_refl _))
  have hs1 := hb1.size
  have HB1 := Lib.hid hb1
  clear hb1
  go_wp2_with fail
  refine (HVa.out _ H1.out).mono ?_
  rintro e w2 ⟨rfl, hb2⟩
  have H2 := Lib.hid (H1.out.below hb2 (Nat.le_refl _))
  have hs2 : w.heap.size ≤ w2.heap.size := Nat.le_trans hs1 hb2.size
  have HB2 := Lib.hid (HB1.out.trans (hb2.mono hs1))
  clear hb2
  go_wp2_with fail
  refine (HPub.out _).mono ?_
  rintro e wx ⟨rfl, rfl⟩
  go_wp2_with fail
  refine (HSg.out _ H2.out).mono ?_
  rintro e w8 ⟨rfl, hb8⟩
  have H8 := Lib.hid (H2.out.below hb8 (Nat.le_refl _))
  have hs8 : w.heap.size ≤ w8.heap.size := Nat.le_trans hs2 hb8.size
  have HB8 := Lib.hid (HB2.out.trans (hb8.mono hs2))
  clear hb8
  have H9 := Lib.hid (H8.out.alloc (.cells #[.int .i64 R, .int .i64 S] 32))
  have HB9 := Lib.hid (HB8.out.alloc hs8 (.cells #[.int .i64 R, .int .i64 S] 32))
  have c0 : (w8.alloc (.cells #[.int .i64 R, .int .i64 S] 32)).cell? ⟨w8.heap.size, 0, none⟩ = some (.int .i64 R) := new0 rfl rfl
  have c1 : (w8.alloc (.cells #[.int .i64 R, .int .i64 S] 32)).cell? ⟨w8.heap.size, 1, none⟩ = some (.int .i64 S) := new0 rfl rfl
  have hs9 : w8.heap.size < (w8.alloc (.cells #[.int .i64 R, .int .i64 S] 32)).heap.size := by simp
  have hs0 := Nat.lt_of_le_of_lt hs8 hs9
  go_wp2_with fail
  generalize w8.alloc (.cells #[.int .i64 R, .int .i64 S] 32) = w9 at *
  generalize hn0 : w8.heap.size = n0 at *
  clear hn0
  go_region_held_law (fun w' => w'.cell? ⟨n0, 0, none⟩ = some (.int .i64 R) ∧ w'.cell? ⟨n0, 1, none⟩ = some (.int .i64 S)) (first | (go_keep; done) | exact ⟨(hbd.cell hs9).trans c0, (hbd.cell hs9).trans c1⟩) (first | (go_at_call 28; refine (HV.out _ (by repeat (first | exact H9.out | apply Tabs.drew))).mono ?_; rintro e wd ⟨rfl, hbd⟩))
  all_goals
    have HB10 := Lib.hid (HB9.out.trans (Below.mono (by first | exact hbd | exact ⟨hbd.os, hbd.tape, hbd.output, hbd.size, hbd.block⟩) (show w.heap.size ≤ w9.heap.size from Nat.le_of_lt hs0)))
    clear hbd
    go_wp2_with fail
    go_ret
    exact ⟨by first | (rw [HVe.out, beq_self_eq_true]; rfl) | rw [HVe.out, beq_self_eq_true], by first | exact HB10.out | exact HB10.out.drew⟩
set_option maxHeartbeats 1000000 in
theorem once_1bad (x pb other r a b : Int) (t : ByteArray) (w : World) (h3 : t.size ≤ 300) (ht : Tabs w)
    (hab : (a != b) = true)
    (hVa : ∀ w, Tabs w → Calls Tryd.prog 28 #[.int .i64 pb, .string t, .agg #[.int .i64 r, .int .i64 a]] w fun e w' => e = .returned (.bool false) ∧ Below w.heap.size w w')
    (hPub : ∀ w, Calls Tryd.prog 22 #[.int .i64 x] w fun e w' => e = .returned (.tuple #[.int .i64 0, .int .i64 1]) ∧ w = w')
    (hSg : ∀ w, Tabs w → Calls Tryd.prog 24 #[.int .i64 x, .string t] w fun e w' => e = .returned (.tuple #[.agg #[.int .i64 0, .int .i64 0], .int .i64 1]) ∧ Below w.heap.size w w') :
    Calls Tryd.prog 11 #[.int .i64 x, .int .i64 pb, .string t, .int .i64 other, .int .i64 r, .int .i64 a, .int .i64 b] w fun e w' => e = .returned (.bool true) ∧ Below w.heap.size w w' := by
  have hs' : (t.size : Int) ≤ 300 := by omega
  have HT := Lib.hid ht
  have HVa := Lib.hid hVa
  clear hVa
  have HPub := Lib.hid hPub
  have HSg := Lib.hid hSg
  clear hPub hSg ht h3
  go_enter Tryd.func11, Tryd.ntmps11
  go_wp2_with fail
  refine (head29 _ HT.out).mono ?_
  rintro e w1 ⟨rfl, hb1⟩
  have H1 := Lib.hid (HT.out.below hb1 (Nat.le_refl _))
  have hs1 := hb1.size
  have HB1 := Lib.hid hb1
  clear hb1
  go_wp2_with fail
  refine (HVa.out _ H1.out).mono ?_
  rintro e w2 ⟨rfl, hb2⟩
  have H2 := Lib.hid (H1.out.below hb2 (Nat.le_refl _))
  have hs2 : w.heap.size ≤ w2.heap.size := Nat.le_trans hs1 hb2.size
  have HB2 := Lib.hid (HB1.out.trans (hb2.mono hs1))
  clear hb2
  go_wp2_with fail
  refine (HPub.out _).mono ?_
  rintro e wx ⟨rfl, rfl⟩
  go_wp2_with fail
  refine (HSg.out _ H2.out).mono ?_
  rintro e w8 ⟨rfl, hb8⟩
  have H8 := Lib.hid (H2.out.below hb8 (Nat.le_refl _))
  have hs8 : w.heap.size ≤ w8.heap.size := Nat.le_trans hs2 hb8.size
  have HB8 := Lib.hid (HB2.out.trans (hb8.mono hs2))
  clear hb8
  go_wp2_with fail
  go_ret
  exact ⟨rfl, HB8.out.alloc hs8 _⟩
set_option maxHeartbeats 1000000 in
theorem once_2ok (x pb other r a b y R S : Int) (t : ByteArray) (V : Bool) (w : World) (h3 : t.size ≤ 300) (ht : Tabs w)
    (hab : (a != b) = true)
    (hVa : ∀ w, Tabs w → Calls Tryd.prog 28 #[.int .i64 pb, .string t, .agg #[.int .i64 r, .int .i64 a]] w fun e w' => e = .returned (.bool true) ∧ Below w.heap.size w w')
    (hVb : ∀ w, Tabs w → Calls Tryd.prog 28 #[.int .i64 pb, .string t, .agg #[.int .i64 r, .int .i64 b]] w fun e w' => e = .returned (.bool false) ∧ Below w.heap.size w w')
    (hPub : ∀ w, Calls Tryd.prog 22 #[.int .i64 x] w fun e w' => e = .returned (.tuple #[.int .i64 y, .int .i64 0]) ∧ w = w')
    (hSg : ∀ w, Tabs w → Calls Tryd.prog 24 #[.int .i64 x, .string t] w fun e w' => e = .returned (.tuple #[.agg #[.int .i64 R, .int .i64 S], .int .i64 0]) ∧ Below w.heap.size w w')
    (hV : ∀ w, Tabs w → Calls Tryd.prog 28 #[.int .i64 y, .string t, .agg #[.int .i64 R, .int .i64 other]] w fun e w' => e = .returned (.bool V) ∧ Below w.heap.size w w')
    (hVe : (other == S) = V) :
    Calls Tryd.prog 11 #[.int .i64 x, .int .i64 pb, .string t, .int .i64 other, .int .i64 r, .int .i64 a, .int .i64 b] w fun e w' => e = .returned (.bool true) ∧ Below w.heap.size w w' := by
  have hs' : (t.size : Int) ≤ 300 := by omega
  have HT := Lib.hid ht
  have HVa := Lib.hid hVa
  clear hVa
  have HVb := Lib.hid hVb
  clear hVb
  have HPub := Lib.hid hPub
  have HSg := Lib.hid hSg
  clear hPub hSg ht h3
  have HV := Lib.hid hV
  have HVe := Lib.hid hVe
  clear hV hVe
  go_enter Tryd.func11, Tryd.ntmps11
  go_wp2_with fail
  refine (head29 _ HT.out).mono ?_
  rintro e w1 ⟨rfl, hb1⟩
  have H1 := Lib.hid (HT.out.below hb1 (Nat.le_refl _))
  have hs1 := hb1.size
  have HB1 := Lib.hid hb1
  clear hb1
  go_wp2_with fail
  refine (HVa.out _ H1.out).mono ?_
  rintro e w2 ⟨rfl, hb2⟩
  have H2 := Lib.hid (H1.out.below hb2 (Nat.le_refl _))
  have hs2 : w.heap.size ≤ w2.heap.size := Nat.le_trans hs1 hb2.size
  have HB2 := Lib.hid (HB1.out.trans (hb2.mono hs1))
  clear hb2
  go_wp2_with fail
  refine (HVb.out _ H2.out).mono ?_
  rintro e w3 ⟨rfl, hb3⟩
  have H3 := Lib.hid (H2.out.below hb3 (Nat.le_refl _))
  have hs3 : w.heap.size ≤ w3.heap.size := Nat.le_trans hs2 hb3.size
  have HB3 := Lib.hid (HB2.out.trans (hb3.mono hs2))
  clear hb3
  go_wp2_with fail
  refine (HPub.out _).mono ?_
  rintro e wx ⟨rfl, rfl⟩
  go_wp2_with fail
  refine (HSg.out _ H3.out).mono ?_
  rintro e w8 ⟨rfl, hb8⟩
  have H8 := Lib.hid (H3.out.below hb8 (Nat.le_refl _))
  have hs8 : w.heap.size ≤ w8.heap.size := Nat.le_trans hs3 hb8.size
  have HB8 := Lib.hid (HB3.out.trans (hb8.mono hs3))
  clear hb8
  have H9 := Lib.hid (H8.out.alloc (.cells #[.int .i64 R, .int .i64 S] 32))
  have HB9 := Lib.hid (HB8.out.alloc hs8 (.cells #[.int .i64 R, .int .i64 S] 32))
  have c0 : (w8.alloc (.cells #[.int .i64 R, .int .i64 S] 32)).cell? ⟨w8.heap.size, 0, none⟩ = some (.int .i64 R) := new0 rfl rfl
  have c1 : (w8.alloc (.cells #[.int .i64 R, .int .i64 S] 32)).cell? ⟨w8.heap.size, 1, none⟩ = some (.int .i64 S) := new0 rfl rfl
  have hs9 : w8.heap.size < (w8.alloc (.cells #[.int .i64 R, .int .i64 S] 32)).heap.size := by simp
  have hs0 := Nat.lt_of_le_of_lt hs8 hs9
  go_wp2_with fail
  generalize w8.alloc (.cells #[.int .i64 R, .int .i64 S] 32) = w9 at *
  generalize hn0 : w8.heap.size = n0 at *
  clear hn0
  go_region_held_law (fun w' => w'.cell? ⟨n0, 0, none⟩ = some (.int .i64 R) ∧ w'.cell? ⟨n0, 1, none⟩ = some (.int .i64 S)) (first | (go_keep; done) | exact ⟨(hbd.cell hs9).trans c0, (hbd.cell hs9).trans c1⟩) (first | (go_at_call 28; refine (HV.out _ (by repeat (first | exact H9.out | apply Tabs.drew))).mono ?_; rintro e wd ⟨rfl, hbd⟩))
  all_goals
    have HB10 := Lib.hid (HB9.out.trans (Below.mono (by first | exact hbd | exact ⟨hbd.os, hbd.tape, hbd.output, hbd.size, hbd.block⟩) (show w.heap.size ≤ w9.heap.size from Nat.le_of_lt hs0)))
    clear hbd
    go_wp2_with fail
    go_ret
    exact ⟨by first | (rw [HVe.out, beq_self_eq_true]; rfl) | rw [HVe.out, beq_self_eq_true], by first | exact HB10.out | exact HB10.out.drew⟩
set_option maxHeartbeats 1000000 in
theorem once_2bad (x pb other r a b : Int) (t : ByteArray) (w : World) (h3 : t.size ≤ 300) (ht : Tabs w)
    (hab : (a != b) = true)
    (hVa : ∀ w, Tabs w → Calls Tryd.prog 28 #[.int .i64 pb, .string t, .agg #[.int .i64 r, .int .i64 a]] w fun e w' => e = .returned (.bool true) ∧ Below w.heap.size w w')
    (hVb : ∀ w, Tabs w → Calls Tryd.prog 28 #[.int .i64 pb, .string t, .agg #[.int .i64 r, .int .i64 b]] w fun e w' => e = .returned (.bool false) ∧ Below w.heap.size w w')
    (hPub : ∀ w, Calls Tryd.prog 22 #[.int .i64 x] w fun e w' => e = .returned (.tuple #[.int .i64 0, .int .i64 1]) ∧ w = w')
    (hSg : ∀ w, Tabs w → Calls Tryd.prog 24 #[.int .i64 x, .string t] w fun e w' => e = .returned (.tuple #[.agg #[.int .i64 0, .int .i64 0], .int .i64 1]) ∧ Below w.heap.size w w') :
    Calls Tryd.prog 11 #[.int .i64 x, .int .i64 pb, .string t, .int .i64 other, .int .i64 r, .int .i64 a, .int .i64 b] w fun e w' => e = .returned (.bool true) ∧ Below w.heap.size w w' := by
  have hs' : (t.size : Int) ≤ 300 := by omega
  have HT := Lib.hid ht
  have HVa := Lib.hid hVa
  clear hVa
  have HVb := Lib.hid hVb
  clear hVb
  have HPub := Lib.hid hPub
  have HSg := Lib.hid hSg
  clear hPub hSg ht h3
  go_enter Tryd.func11, Tryd.ntmps11
  go_wp2_with fail
  refine (head29 _ HT.out).mono ?_
  rintro e w1 ⟨rfl, hb1⟩
  have H1 := Lib.hid (HT.out.below hb1 (Nat.le_refl _))
  have hs1 := hb1.size
  have HB1 := Lib.hid hb1
  clear hb1
  go_wp2_with fail
  refine (HVa.out _ H1.out).mono ?_
  rintro e w2 ⟨rfl, hb2⟩
  have H2 := Lib.hid (H1.out.below hb2 (Nat.le_refl _))
  have hs2 : w.heap.size ≤ w2.heap.size := Nat.le_trans hs1 hb2.size
  have HB2 := Lib.hid (HB1.out.trans (hb2.mono hs1))
  clear hb2
  go_wp2_with fail
  refine (HVb.out _ H2.out).mono ?_
  rintro e w3 ⟨rfl, hb3⟩
  have H3 := Lib.hid (H2.out.below hb3 (Nat.le_refl _))
  have hs3 : w.heap.size ≤ w3.heap.size := Nat.le_trans hs2 hb3.size
  have HB3 := Lib.hid (HB2.out.trans (hb3.mono hs2))
  clear hb3
  go_wp2_with fail
  refine (HPub.out _).mono ?_
  rintro e wx ⟨rfl, rfl⟩
  go_wp2_with fail
  refine (HSg.out _ H3.out).mono ?_
  rintro e w8 ⟨rfl, hb8⟩
  have H8 := Lib.hid (H3.out.below hb8 (Nat.le_refl _))
  have hs8 : w.heap.size ≤ w8.heap.size := Nat.le_trans hs3 hb8.size
  have HB8 := Lib.hid (HB3.out.trans (hb8.mono hs3))
  clear hb8
  go_wp2_with fail
  go_ret
  exact ⟨rfl, HB8.out.alloc hs8 _⟩

theorem ver_is (x : Nat) (t : ByteArray) (other : Int) : (other == ((sgS x t : Nat) : Int)) = verB (pw 7 x : Nat) (pw 7 (kay x t) : Nat) other t := by
  have h := ver_sign x t
  by_cases e : other = ((sgS x t : Nat) : Int)
  · rw [e, h]; simp
  · rw [ver_false h (fun h => e h.symm)]; simp [e]

theorem law_SignOnce (x pb : Int) (t : ByteArray) (other r a b : Int) (w : World) (_ : (Lit.int .i64 x).wf = true) (_ : (Lit.int .i64 pb).wf = true) (hm : t.size ≤ maxLen) (_ : (Lit.int .i64 other).wf = true) (_ : (Lit.int .i64 r).wf = true) (_ : (Lit.int .i64 a).wf = true) (_ : (Lit.int .i64 b).wf = true) (ht : Tabs w) :
    Calls Tryd.prog 11 #[.int .i64 x, .int .i64 pb, .string t, .int .i64 other, .int .i64 r, .int .i64 a, .int .i64 b] w fun e w' => e = .returned (.bool true) ∧ Below w.heap.size w w' := by
  by_cases h3 : t.size ≤ 300
  · rcases Public_any x with ⟨n, rfl, h1, h2, hc⟩ | ⟨_, hc⟩
    · have hS := fun w h => Sign_ok n t w h1 h2 (by omega) h
      have hV := fun w h => Verify_any (pw 7 n : Nat) (pw 7 (kay n t) : Nat) other t w (by omega) h
      by_cases hab : a = b
      · exact once_0ok _ pb other r a b _ _ _ t _ w h3 ht hab hc hS hV (ver_is n t other)
      · rcases hv : verB pb r a t with _ | _
        · exact once_1ok _ pb other r a b _ _ _ t _ w h3 ht (by simp [hab]) (fun w h => Verify_is _ _ _ _ _ w (by omega) h hv) hc hS hV (ver_is n t other)
        · exact once_2ok _ pb other r a b _ _ _ t _ w h3 ht (by simp [hab]) (fun w h => Verify_is _ _ _ _ _ w (by omega) h hv) (fun w h => Verify_is _ _ _ _ _ w (by omega) h (ver_false hv hab)) hc hS hV (ver_is n t other)
    · have hS := fun w (_ : Tabs w) => Sign_bad x t w hc
      by_cases hab : a = b
      · exact once_0bad _ pb other r a b t w h3 ht hab hc hS
      · rcases hv : verB pb r a t with _ | _
        · exact once_1bad _ pb other r a b t w h3 ht (by simp [hab]) (fun w h => Verify_is _ _ _ _ _ w (by omega) h hv) hc hS
        · exact once_2bad _ pb other r a b t w h3 ht (by simp [hab]) (fun w h => Verify_is _ _ _ _ _ w (by omega) h hv) (fun w h => Verify_is _ _ _ _ _ w (by omega) h (ver_false hv hab)) hc hS
  · exact once_big x pb other r a b t w (by omega) hm ht
end Go.Proofs.YtgjefmhobfdjdaaDoor
