/- SignTexts: the walk. -/
import Derived.Test.YtgjefmhobfdjdaaDoorQ2
namespace Go.Proofs.YtgjefmhobfdjdaaDoor
open Go.RowKit

set_option maxHeartbeats 1000000 in
theorem texts_big (x : Int) (t u : ByteArray) (w : World) (h3 : 300 < t.size ∨ (t.size ≤ 300 ∧ 300 < u.size)) (hm : t.size ≤ maxLen) (hm2 : u.size ≤ maxLen) (ht : Tabs w) :
    Calls Tryd.prog 14 #[.int .i64 x, .string t, .string u] w fun e w' => e = .returned (.bool true) ∧ Below w.heap.size w w' := by
  have hm' : (t.size : Int) ≤ 9223372036854775807 := by unfold maxLen at hm; omega
  have hm2' : (u.size : Int) ≤ 9223372036854775807 := by unfold maxLen at hm2; omega
  have HT := Lib.hid ht
  clear ht
  rcases h3 with h | ⟨h, h2⟩
  · have hs' : (300 : Int) < (t.size : Int) := by omega
    clear h
    go_enter Tryd.func14, Tryd.ntmps14
    go_wp2_with fail
    refine (head29 _ HT.out).mono ?_
    rintro e w1 ⟨rfl, hb1⟩
    go_wp2_with fail
    go_ret
    exact ⟨rfl, hb1⟩
  · have hs' : (t.size : Int) ≤ 300 := by omega
    have hs2 : (300 : Int) < (u.size : Int) := by omega
    clear h h2
    go_enter Tryd.func14, Tryd.ntmps14
    go_wp2_with fail
    refine (head29 _ HT.out).mono ?_
    rintro e w1 ⟨rfl, hb1⟩
    go_wp2_with fail
    go_ret
    exact ⟨rfl, hb1⟩

set_option maxHeartbeats 1000000 in
theorem texts_bad (x : Int) (t u : ByteArray) (w : World) (h3 : t.size ≤ 300) (h4 : u.size ≤ 300) (ht : Tabs w)
    (hPub : ∀ w, Calls Tryd.prog 22 #[.int .i64 x] w fun e w' => e = .returned (.tuple #[.int .i64 0, .int .i64 1]) ∧ w = w')
    (hSg : ∀ w, Tabs w → Calls Tryd.prog 24 #[.int .i64 x, .string t] w fun e w' => e = .returned (.tuple #[.agg #[.int .i64 0, .int .i64 0], .int .i64 1]) ∧ Below w.heap.size w w') :
    Calls Tryd.prog 14 #[.int .i64 x, .string t, .string u] w fun e w' => e = .returned (.bool true) ∧ Below w.heap.size w w' := by
  have hs' : (t.size : Int) ≤ 300 := by omega
  have hs4 : (u.size : Int) ≤ 300 := by omega
  have HT := Lib.hid ht
  have HPub := Lib.hid hPub
  have HSg := Lib.hid hSg
  clear hPub hSg ht h3 h4
  go_enter Tryd.func14, Tryd.ntmps14
  go_wp2_with fail
  refine (head29 _ HT.out).mono ?_
  rintro e w1 ⟨rfl, hb1⟩
  have H1 := Lib.hid (HT.out.below hb1 (Nat.le_refl _))
  have hs1 := hb1.size
  have HB1 := Lib.hid hb1
  clear hb1
  go_wp2_with fail
  refine (HPub.out _).mono ?_
  rintro e wx ⟨rfl, rfl⟩
  go_wp2_with fail
  refine (HSg.out _ H1.out).mono ?_
  rintro e w8 ⟨rfl, hb8⟩
  have hs8 : w.heap.size ≤ w8.heap.size := Nat.le_trans hs1 hb8.size
  have HB8 := Lib.hid (HB1.out.trans (hb8.mono hs1))
  clear hb8
  go_wp2_with fail
  go_ret
  exact ⟨rfl, HB8.out.alloc hs8 _⟩

set_option maxHeartbeats 1000000 in
theorem texts_ok (x y R S c d C D : Int) (V : Bool) (t u : ByteArray) (w : World) (h3 : t.size ≤ 300) (h4 : u.size ≤ 300) (ht : Tabs w)
    (hPub : ∀ w, Calls Tryd.prog 22 #[.int .i64 x] w fun e w' => e = .returned (.tuple #[.int .i64 y, .int .i64 0]) ∧ w = w')
    (hSg : ∀ w, Tabs w → Calls Tryd.prog 24 #[.int .i64 x, .string t] w fun e w' => e = .returned (.tuple #[.agg #[.int .i64 R, .int .i64 S], .int .i64 0]) ∧ Below w.heap.size w w')
    (hC : ∀ w, Tabs w → Calls Tryd.prog 30 #[.int .i64 R, .int .i64 y, .string t] w fun e w' => e = .returned (.int .i64 c) ∧ Below w.heap.size w w')
    (hD : ∀ w, Tabs w → Calls Tryd.prog 30 #[.int .i64 R, .int .i64 y, .string u] w fun e w' => e = .returned (.int .i64 d) ∧ Below w.heap.size w w')
    (hPc : ∀ w, Calls Tryd.prog 26 #[.int .i64 y, .int .i64 c] w fun e w' => e = .returned (.int .i64 C) ∧ w = w')
    (hPd : ∀ w, Calls Tryd.prog 26 #[.int .i64 y, .int .i64 d] w fun e w' => e = .returned (.int .i64 D) ∧ w = w')
    (hV : ∀ w, Tabs w → Calls Tryd.prog 28 #[.int .i64 y, .string u, .agg #[.int .i64 R, .int .i64 S]] w fun e w' => e = .returned (.bool V) ∧ Below w.heap.size w w')
    (hVe : (C == D) = V) (hR : 1 ≤ R) (hy : 1 ≤ y) :
    Calls Tryd.prog 14 #[.int .i64 x, .string t, .string u] w fun e w' => e = .returned (.bool true) ∧ Below w.heap.size w w' := by
  have hs' : (t.size : Int) ≤ 300 := by omega
  have hs4 : (u.size : Int) ≤ 300 := by omega
  have HT := Lib.hid ht
  have HPub := Lib.hid hPub
  have HSg := Lib.hid hSg
  have HC := Lib.hid hC
  have HD := Lib.hid hD
  have HPc := Lib.hid hPc
  have HPd := Lib.hid hPd
  have HV := Lib.hid hV
  have HVe := Lib.hid hVe
  clear hPub hSg ht h3 h4 hC hD hPc hPd hV hVe
  go_enter Tryd.func14, Tryd.ntmps14
  go_wp2_with fail
  refine (head29 _ HT.out).mono ?_
  rintro e w1 ⟨rfl, hb1⟩
  have H1 := Lib.hid (HT.out.below hb1 (Nat.le_refl _))
  have hs1 := hb1.size
  have HB1 := Lib.hid hb1
  clear hb1
  go_wp2_with fail
  refine (HPub.out _).mono ?_
  rintro e wx ⟨rfl, rfl⟩
  go_wp2_with fail
  refine (HSg.out _ H1.out).mono ?_
  rintro e w8 ⟨rfl, hb8⟩
  have H8 := Lib.hid (H1.out.below hb8 (Nat.le_refl _))
  have hs8 : w.heap.size ≤ w8.heap.size := Nat.le_trans hs1 hb8.size
  have HB8 := Lib.hid (HB1.out.trans (hb8.mono hs1))
  clear hb8
  have H9 := Lib.hid (H8.out.alloc (.cells #[.int .i64 R, .int .i64 S] 32))
  have HB9 := Lib.hid (HB8.out.alloc hs8 (.cells #[.int .i64 R, .int .i64 S] 32))
  have c0 : (w8.alloc (.cells #[.int .i64 R, .int .i64 S] 32)).cell? ⟨w8.heap.size, 0, none⟩ = some (.int .i64 R) := new0 rfl rfl
  have c1 : (w8.alloc (.cells #[.int .i64 R, .int .i64 S] 32)).cell? ⟨w8.heap.size, 1, none⟩ = some (.int .i64 S) := new0 rfl rfl
  have hs9 : w8.heap.size < (w8.alloc (.cells #[.int .i64 R, .int .i64 S] 32)).heap.size := by simp
  have hs0 := Nat.lt_of_le_of_lt hs8 hs9
  go_wp2_with fail
  generalize w8.alloc (.cells #[.int .i64 R, .int .i64 S] 32) = w9 at *
  generalize hn0 : w8.heap.size = n0 at *
  clear hn0
  go_region_held_law (fun w' => w'.cell? ⟨n0, 0, none⟩ = some (.int .i64 R) ∧ w'.cell? ⟨n0, 1, none⟩ = some (.int .i64 S)) (first | (go_keep; done) | exact ⟨(hba.cell hs9).trans c0, (hba.cell hs9).trans c1⟩ | exact ⟨((hbb.cell (Nat.lt_of_lt_of_le hs9 hba.size)).trans (hba.cell hs9)).trans c0, ((hbb.cell (Nat.lt_of_lt_of_le hs9 hba.size)).trans (hba.cell hs9)).trans c1⟩) (first | (go_at_call_of 30 (Value.string t); refine (HC.out _ (by repeat (first | exact H9.out | apply Tabs.drew))).mono ?_; rintro e wa ⟨rfl, hba⟩) | (go_at_call_of 30 (Value.string u); refine (HD.out _ (by repeat (first | exact H9.out | apply Tabs.drew | refine Tabs.below ?_ hba (Nat.le_refl _)))).mono ?_; rintro e wb ⟨rfl, hbb⟩) | (go_at_call_of 26 (Value.int .i64 c); refine (HPc.out _).mono ?_; rintro e wp ⟨rfl, rfl⟩) | (go_at_call_of 26 (Value.int .i64 d); refine (HPd.out _).mono ?_; rintro e wp ⟨rfl, rfl⟩))
  rename_i hh
  have hba' : Below w9.heap.size w9 wa := by first | exact hba | exact ⟨hba.os, hba.tape, hba.output, hba.size, hba.block⟩
  have hsa : w9.heap.size ≤ wa.heap.size := hba'.size
  have Ha := Lib.hid (H9.out.below hba' (Nat.le_refl _))
  have Hb := Lib.hid (Ha.out.below hbb (Nat.le_refl _))
  have hsw : w.heap.size ≤ w9.heap.size := Nat.le_of_lt hs0
  have HBb := Lib.hid (HB9.out.trans ((hba'.mono hsw).trans (hbb.mono (Nat.le_trans hsw hsa))))
  have hsb : w.heap.size ≤ wb.heap.size := Nat.le_trans hsw (Nat.le_trans hsa hbb.size)
  obtain ⟨d0, d1⟩ := hh
  clear hba hbb hba' c0 c1
  go_wp2_with fail
  refine (HV.out _ Hb.out).mono ?_
  rintro e w10 ⟨rfl, hb10⟩
  have HB10 := Lib.hid (HBb.out.trans (hb10.mono hsb))
  clear hb10 d0 d1
  rw [HVe.out]
  go_wp2_with fail
  go_ret
  exact ⟨by first | rfl | (rw [beq_self_eq_true]; rfl) | rw [beq_self_eq_true], HB10.out⟩

theorem texts_val (n : Nat) (t u : ByteArray) : ((pw (pw 7 n) (chal (pw 7 (kay n t)) (pw 7 n) t) : Int) == (pw (pw 7 n) (chal (pw 7 (kay n t)) (pw 7 n) u) : Int)) = verB (pw 7 n : Nat) (pw 7 (kay n t) : Nat) (sgS n t : Nat) u := by
  have hs : sgS n t < 2147483646 := by unfold sgS; omega
  rw [beq_cast, verB_in (pw7_pos _) (pw_lt _ _) (pw7_pos _) (pw_lt _ _) hs]
  have h := ver_sign n t
  rw [verB_in (pw7_pos _) (pw_lt _ _) (pw7_pos _) (pw_lt _ _) hs] at h
  have h := of_decide_eq_true h
  rw [h]
  by_cases e : pw (pw 7 n) (chal (pw 7 (kay n t)) (pw 7 n) t) = pw (pw 7 n) (chal (pw 7 (kay n t)) (pw 7 n) u)
  · rw [e]; simp
  · rw [decide_eq_false e, decide_eq_false fun e2 => e (el_cancel _ _ _ (pw7_pos _) (pw_lt _ _) (pw_lt _ _) (pw_lt _ _) e2)]

theorem law_SignTexts (x : Int) (t u : ByteArray) (w : World) (_ : (Lit.int .i64 x).wf = true) (hm : t.size ≤ maxLen) (hm2 : u.size ≤ maxLen) (ht : Tabs w) :
    Calls Tryd.prog 14 #[.int .i64 x, .string t, .string u] w fun e w' => e = .returned (.bool true) ∧ Below w.heap.size w w' := by
  by_cases h3 : t.size ≤ 300 ∧ u.size ≤ 300
  · rcases Public_any x with ⟨n, rfl, h1, h2, hc⟩ | ⟨_, hc⟩
    · have y1 := pw7_pos n
      have y2 := pw_lt 7 n
      have r1 := pw7_pos (kay n t)
      have r2 := pw_lt 7 (kay n t)
      have c1 := chal_lt (pw 7 (kay n t)) (pw 7 n) t
      have c2 := chal_lt (pw 7 (kay n t)) (pw 7 n) u
      have p1 := fun w h => Sign_ok n t w h1 h2 (by omega) h
      have p2 := fun w h => Lchal_any (pw 7 (kay n t)) (pw 7 n) t w (by omega) (by omega) (by omega) h
      have p3 := fun w h => Lchal_any (pw 7 (kay n t)) (pw 7 n) u w (by omega) (by omega) (by omega) h
      have p4 := fun w => Power_in (pw 7 n) (chal (pw 7 (kay n t)) (pw 7 n) t) w y1 y2 (by omega)
      have p5 := fun w => Power_in (pw 7 n) (chal (pw 7 (kay n t)) (pw 7 n) u) w y1 y2 (by omega)
      have p6 := fun w h => Verify_any (pw 7 n : Nat) (pw 7 (kay n t) : Nat) (sgS n t : Nat) u w (by omega) h
      exact texts_ok _ _ _ _ _ _ _ _ _ t u w h3.1 h3.2 ht hc p1 p2 p3 p4 p5 p6 (texts_val n t u) (by omega) (by omega)
    · exact texts_bad x t u w h3.1 h3.2 ht hc (fun w _ => Sign_bad x t w hc)
  · exact texts_big x t u w (by omega) hm hm2 ht
end Go.Proofs.YtgjefmhobfdjdaaDoor
