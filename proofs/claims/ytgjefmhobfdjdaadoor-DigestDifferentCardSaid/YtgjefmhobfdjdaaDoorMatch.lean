/- DigestMatchesReference, DigestDifferent: the walks. -/
import Derived.Test.YtgjefmhobfdjdaaDoorR3
namespace Go.Proofs.YtgjefmhobfdjdaaDoor
open Go.RowKit

theorem i64_wf {a : Int} (h : (Lit.int .i64 a).wf = true) : a ≤ 9223372036854775807 := by
  simp only [Lit.wf, Bool.and_eq_true, decide_eq_true_eq] at h
  exact h.2

set_option maxHeartbeats 400000 in
theorem match_big (s : ByteArray) (m : Int) (w : World) (hs : 1000 < s.size) (hm : s.size ≤ maxLen) (ht : Tabs w) :
    Calls Tryd.prog 3 #[.string s, .int .i64 m] w fun e w' => e = .returned (.bool true) ∧ Below w.heap.size w w' := by
  have hm' : (s.size : Int) ≤ 9223372036854775807 := by unfold maxLen at hm; omega
  have hs' : (1000 : Int) < (s.size : Int) := by omega
  have HT := Lib.hid ht
  clear ht
  go_enter Tryd.func3, Tryd.ntmps3
  go_wp2_with fail
  refine (head28 _ HT.out).mono ?_
  rintro e w1 ⟨rfl, hb1⟩
  go_wp2_with fail
  go_ret
  exact ⟨rfl, hb1⟩

set_option maxHeartbeats 1000000 in
theorem match_small (s : ByteArray) (m : Int) (w : World) (hs : s.size ≤ 1000) (hm : m ≤ 9223372036854775807) (ht : Tabs w) :
    Calls Tryd.prog 3 #[.string s, .int .i64 m] w fun e w' => e = .returned (.bool true) ∧ Below w.heap.size w w' := by
  have HT := Lib.hid ht
  have hs' : (s.size : Int) ≤ 1000 := by omega
  clear ht
  go_enter Tryd.func3, Tryd.ntmps3
  go_wp2_with fail
  refine (head28 _ HT.out).mono ?_
  rintro e w1 ⟨rfl, hb1⟩
  have H1 := Lib.hid (HT.out.below hb1 (Nat.le_refl _))
  have hs1 := hb1.size
  go_wp2_with fail
  refine (Sum_hex s _ (by omega) H1.out).mono ?_
  rintro e w2 ⟨rfl, hb2⟩
  have H2 := Lib.hid (H1.out.below hb2 (Nat.le_refl _))
  have hs2 := hb2.size
  have hRS := RSum_any s w2 (by omega)
  generalize hexB s.data.toList = hx at hRS ⊢
  go_wp2_with fail
  refine hRS.mono ?_
  rintro e w3 ⟨rfl, hb3⟩
  clear hRS
  have H3 := Lib.hid (H2.out.below hb3 (Nat.le_refl _))
  have hs3 := hb3.size
  go_wp2_with fail
  refine (Number_any s m _ (by omega) H3.out hm).mono ?_
  rintro e w4 ⟨rfl, hb4⟩
  have hs4 := hb4.size
  have hRN := RNumber_any s m w4 (by omega) hm
  generalize Sha.number s.data.toList m = nx at hRN ⊢
  go_wp2_with fail
  refine hRN.mono ?_
  rintro e w5 ⟨rfl, hb5⟩
  clear hRN
  go_wp2_with fail
  go_ret
  exact ⟨by simp, hb1.trans ((hb2.mono (by omega)).trans ((hb3.mono (by omega)).trans ((hb4.mono (by omega)).trans (hb5.mono (by omega)))))⟩
/-- DigestMatchesReference returns true for every text and integer. -/
theorem law_DigestMatchesReference (s : ByteArray) (m : Int) (w : World) (hl : s.size ≤ maxLen) (hm : (Lit.int .i64 m).wf = true) (ht : Tabs w) :
    Calls Tryd.prog 3 #[.string s, .int .i64 m] w fun e w' => e = .returned (.bool true) ∧ Below w.heap.size w w' := by
  by_cases h : s.size ≤ 1000
  · exact match_small s m w h (i64_wf hm) ht
  · exact match_big s m w (by omega) hl ht

set_option maxHeartbeats 400000 in
theorem diff_big1 (a b : ByteArray) (w : World) (hs : 1000 < a.size) (hm : a.size ≤ maxLen) (ht : Tabs w) :
    Calls Tryd.prog 7 #[.string a, .string b] w fun e w' => e = .returned (.bool true) ∧ Below w.heap.size w w' := by
  have hm' : (a.size : Int) ≤ 9223372036854775807 := by unfold maxLen at hm; omega
  have hs' : (1000 : Int) < (a.size : Int) := by omega
  have HT := Lib.hid ht
  clear ht
  go_enter Tryd.func7, Tryd.ntmps7
  go_wp2_with fail
  refine (head28 _ HT.out).mono ?_
  rintro e w1 ⟨rfl, hb1⟩
  go_wp2_with fail
  go_ret
  exact ⟨rfl, hb1⟩
set_option maxHeartbeats 400000 in
theorem diff_big2 (a b : ByteArray) (w : World) (ha : a.size ≤ 1000) (hs : 1000 < b.size) (hm : b.size ≤ maxLen) (ht : Tabs w) :
    Calls Tryd.prog 7 #[.string a, .string b] w fun e w' => e = .returned (.bool true) ∧ Below w.heap.size w w' := by
  have hm' : (b.size : Int) ≤ 9223372036854775807 := by unfold maxLen at hm; omega
  have hs' : (1000 : Int) < (b.size : Int) := by omega
  have ha' : (a.size : Int) ≤ 1000 := by omega
  have HT := Lib.hid ht
  clear ht
  go_enter Tryd.func7, Tryd.ntmps7
  go_wp2_with fail
  refine (head28 _ HT.out).mono ?_
  rintro e w1 ⟨rfl, hb1⟩
  go_wp2_with fail
  go_ret
  exact ⟨rfl, hb1⟩

set_option maxHeartbeats 1000000 in
theorem diff_small (a b : ByteArray) (w : World) (ha : a.size ≤ 1000) (hb : b.size ≤ 1000) (ht : Tabs w) :
    Calls Tryd.prog 7 #[.string a, .string b] w fun e w' => e = .returned (.bool true) ∧ Below w.heap.size w w' := by
  have HT := Lib.hid ht
  have ha' : (a.size : Int) ≤ 1000 := by omega
  have hb' : (b.size : Int) ≤ 1000 := by omega
  have hSa := fun w ht => Sum_hex a w (by omega) ht
  have hSb := fun w ht => Sum_hex b w (by omega) ht
  have hRa := fun w => RSum_any a w (by omega)
  have hRb := fun w => RSum_any b w (by omega)
  generalize hexB a.data.toList = xa at hSa hRa
  generalize hexB b.data.toList = xb at hSb hRb
  have HSa := Lib.hid hSa
  have HSb := Lib.hid hSb
  have HRa := Lib.hid hRa
  have HRb := Lib.hid hRb
  clear ht hSa hSb hRa hRb
  go_enter Tryd.func7, Tryd.ntmps7
  go_wp2_with fail
  refine (head28 _ HT.out).mono ?_
  rintro e w1 ⟨rfl, hb1⟩
  have H1 := Lib.hid (HT.out.below hb1 (Nat.le_refl _))
  have hs1 := hb1.size
  go_wp2_with fail
  · go_ret
    exact ⟨rfl, hb1⟩
  · refine (HSa.out _ H1.out).mono ?_
    rintro e w2 ⟨rfl, hb2⟩
    have H2 := Lib.hid (H1.out.below hb2 (Nat.le_refl _))
    have hs2 := hb2.size
    go_wp2_with fail
    refine (HSb.out _ H2.out).mono ?_
    rintro e w3 ⟨rfl, hb3⟩
    have hs3 := hb3.size
    go_wp2_with fail
    · refine (HRa.out _).mono ?_
      rintro e w4 ⟨rfl, hb4⟩
      have hs4 := hb4.size
      go_wp2_with fail
      refine (HRb.out _).mono ?_
      rintro e w5 ⟨rfl, hb5⟩
      go_wp2_with fail
      go_ret
      exact ⟨by simp [*], hb1.trans ((hb2.mono (by omega)).trans ((hb3.mono (by omega)).trans ((hb4.mono (by omega)).trans (hb5.mono (by omega)))))⟩
    · go_ret
      exact ⟨rfl, hb1.trans ((hb2.mono (by omega)).trans (hb3.mono (by omega)))⟩
/-- DigestDifferent returns true for every two texts. -/
theorem law_DigestDifferent (a b : ByteArray) (w : World) (ha : a.size ≤ maxLen) (hb : b.size ≤ maxLen) (ht : Tabs w) :
    Calls Tryd.prog 7 #[.string a, .string b] w fun e w' => e = .returned (.bool true) ∧ Below w.heap.size w w' := by
  by_cases h : a.size ≤ 1000
  · by_cases h2 : b.size ≤ 1000
    · exact diff_small a b w h h2 ht
    · exact diff_big2 a b w h (by omega) hb ht
  · exact diff_big1 a b w (by omega) ha ht
end Go.Proofs.YtgjefmhobfdjdaaDoor
