/- DigestNumbers: the walk. -/
import Derived.Test.YtgjefmhobfdjdaaDoorL28
namespace Go.Proofs.YtgjefmhobfdjdaaDoor
open Go.RowKit

theorem wf_u32 {a : Int} (h : (Lit.int .u32 a).wf = true) : 0 ≤ a ∧ a ≤ 4294967295 := by
  simp only [Lit.wf, Bool.and_eq_true, decide_eq_true_eq] at h
  exact h
theorem wf_i64 {a : Int} (h : (Lit.int .i64 a).wf = true) : -9223372036854775808 ≤ a ∧ a ≤ 9223372036854775807 := by
  simp only [Lit.wf, Bool.and_eq_true, decide_eq_true_eq] at h
  exact h

set_option maxHeartbeats 400000 in
theorem nums_big (s : ByteArray) (a b : Int) (w : World) (hs : 1000 < s.size) (hm : s.size ≤ maxLen) (ht : Tabs w) :
    Calls Tryd.prog 5 #[.string s, .int .u32 a, .int .u32 b] w fun e w' => e = .returned (.bool true) ∧ Below w.heap.size w w' := by
  have hm' : (s.size : Int) ≤ 9223372036854775807 := by unfold maxLen at hm; omega
  have hs' : (1000 : Int) < (s.size : Int) := by omega
  have HT := Lib.hid ht
  clear ht
  go_enter Tryd.func5, Tryd.ntmps5
  go_wp2_with fail
  refine (head28 _ HT.out).mono ?_
  rintro e w1 ⟨rfl, hb1⟩
  go_wp2_with fail
  go_ret
  exact ⟨rfl, hb1⟩

theorem number_mod (l : List UInt8) (m k : Int) (hm : 1 ≤ m) (hk : 1 ≤ k) : (Sha.number l (m * k)).tmod m = Sha.number l m := by
  have hmk : ¬ m * k < 1 := by have := Int.mul_le_mul hm hk (by omega) (by omega); omega
  unfold Sha.number
  rw [if_neg hmk, if_neg (by omega), Int.tmod_eq_emod_of_nonneg (Int.emod_nonneg _ (by omega)), Int.emod_emod_of_dvd _ (Int.dvd_mul_right _ _)]
theorem number_nonneg (l : List UInt8) (m : Int) (hm : 1 ≤ m) : 0 ≤ Sha.number l m := by
  unfold Sha.number; rw [if_neg (by omega)]; exact Int.emod_nonneg _ (by omega)
theorem number_lt (l : List UInt8) (m : Int) (hm : 1 ≤ m) : Sha.number l m < m := by
  unfold Sha.number; rw [if_neg (by omega)]; exact Int.emod_lt_of_pos _ (by omega)

set_option maxHeartbeats 1000000 in
theorem nums_small (s : ByteArray) (a b : Int) (w : World) (hs : s.size ≤ 1000) (ha : 0 ≤ a ∧ a ≤ 4294967295) (hb : 0 ≤ b ∧ b ≤ 4294967295) (ht : Tabs w) :
    Calls Tryd.prog 5 #[.string s, .int .u32 a, .int .u32 b] w fun e w' => e = .returned (.bool true) ∧ Below w.heap.size w w' := by
  obtain ⟨ha1, ha2⟩ := ha
  obtain ⟨hb1, hb2⟩ := hb
  have ea : a.tmod 1000000 = a % 1000000 := Int.tmod_eq_emod_of_nonneg ha1
  have eb : b.tmod 1000000 = b % 1000000 := Int.tmod_eq_emod_of_nonneg hb1
  have ea1 := Int.emod_nonneg a (show (1000000 : Int) ≠ 0 by omega)
  have ea2 := Int.emod_lt_of_pos a (show (0 : Int) < 1000000 by omega)
  have eb1 := Int.emod_nonneg b (show (1000000 : Int) ≠ 0 by omega)
  have eb2 := Int.emod_lt_of_pos b (show (0 : Int) < 1000000 by omega)
  generalize a % 1000000 = r at ea ea1 ea2
  generalize b % 1000000 = q at eb eb1 eb2
  have wr : wrap64 r = r := by unfold wrap64; omega
  have wq : wrap64 q = q := by unfold wrap64; omega
  have wr1 : wrap64 (1 + r) = 1 + r := by unfold wrap64; omega
  have wq1 : wrap64 (1 + q) = 1 + q := by unfold wrap64; omega
  have hs' : (s.size : Int) ≤ 1000 := by omega
  have HT := Lib.hid ht
  clear ht
  go_enter Tryd.func5, Tryd.ntmps5
  go_wp2_with fail
  refine (head28 _ HT.out).mono ?_
  rintro e w1 ⟨rfl, hb1⟩
  go_wp2_with fail
  have hs2 := hb1.size
  have H1 := Lib.hid (HT.out.below hb1 (Nat.le_refl _))
  refine (Number_any s _ _ (by omega) H1.out (by omega)).mono ?_
  rintro e w2 ⟨rfl, hb2⟩
  have hn1 := number_nonneg s.data.toList (1 + r) (by omega)
  have hn2 := number_lt s.data.toList (1 + r) (by omega)
  have hn3 := number_mod s.data.toList (1 + r) (1 + q) (by omega) (by omega)
  have hn4 := number_nonneg s.data.toList ((1 + r) * (1 + q)) (by have := Int.mul_le_mul (show 1 ≤ 1 + r by omega) (show 1 ≤ 1 + q by omega) (by omega) (by omega); omega)
  have hp2 : (1 + r) * (1 + q) ≤ 1000000 * 1000000 := Int.mul_le_mul (by omega) (by omega) (by omega) (by omega)
  have hp1 : 1 ≤ (1 + r) * (1 + q) := by have := Int.mul_le_mul (show 1 ≤ 1 + r by omega) (show 1 ≤ 1 + q by omega) (by omega) (by omega); omega
  have hw2 : wrap64 (Sha.number s.data.toList (1 + r)) = Sha.number s.data.toList (1 + r) := by unfold wrap64; omega
  have hcall := Number_any s ((1 + r) * (1 + q))
  generalize Sha.number s.data.toList ((1 + r) * (1 + q)) = N2 at hcall hn3 hn4
  generalize hP : (1 + r) * (1 + q) = P at hcall hp1 hp2
  have hw : wrap64 ((1 + r) * (1 + q)) = P := by rw [hP]; unfold wrap64; omega
  clear hP
  generalize Sha.number s.data.toList (1 + r) = N1 at hn1 hn2 hn3 hw2 ⊢
  have hr0 : (1 + r == 0) = false := by simp; omega
  have hs3 := hb2.size
  go_wp2_with fail
  refine (hcall _ (by omega) (H1.out.below hb2 (Nat.le_refl _)) (by omega)).mono ?_
  rintro e w3 ⟨rfl, hb3⟩
  go_wp2_with fail
  go_ret
  exact ⟨by simp [*], hb1.trans ((hb2.mono (by omega)).trans (hb3.mono (by omega)))⟩
theorem law_DigestNumbers (s : ByteArray) (a b : Int) (w : World) (hm : s.size ≤ maxLen) (ha : (Lit.int .u32 a).wf = true) (hb : (Lit.int .u32 b).wf = true) (ht : Tabs w) :
    Calls Tryd.prog 5 #[.string s, .int .u32 a, .int .u32 b] w fun e w' => e = .returned (.bool true) ∧ Below w.heap.size w w' := by
  by_cases h : s.size ≤ 1000
  · exact nums_small s a b w h (wf_u32 ha) (wf_u32 hb) ht
  · exact nums_big s a b w (by omega) hm ht
end Go.Proofs.YtgjefmhobfdjdaaDoor
