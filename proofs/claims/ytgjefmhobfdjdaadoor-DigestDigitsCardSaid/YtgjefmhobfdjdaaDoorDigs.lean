/- DigestDigits: the walk. -/
import Derived.Test.YtgjefmhobfdjdaaDoorL28
namespace Go.Proofs.YtgjefmhobfdjdaaDoor
open Go.RowKit

set_option maxHeartbeats 400000 in
theorem digs_big (s : ByteArray) (w : World) (hs : 1000 < s.size) (hm : s.size ≤ maxLen) (ht : Tabs w) :
    Calls Tryd.prog 6 #[.string s] w fun e w' => e = .returned (.bool true) ∧ Below w.heap.size w w' := by
  have hm' : (s.size : Int) ≤ 9223372036854775807 := by unfold maxLen at hm; omega
  have hs' : (1000 : Int) < (s.size : Int) := by omega
  have HT := Lib.hid ht
  clear ht
  go_enter Tryd.func6, Tryd.ntmps6
  go_wp2_with fail
  refine (head28 _ HT.out).mono ?_
  rintro e w1 ⟨rfl, hb1⟩
  go_wp2_with fail
  go_ret
  exact ⟨rfl, hb1⟩

/-- The first k digits as a number. -/
def digsTo (l : List UInt8) : Nat → Nat
  | 0 => 0
  | k + 1 => 16 * digsTo l k + hexDigit l k
theorem digsTo_lt (l : List UInt8) : ∀ k, digsTo l k < 16 ^ k
  | 0 => by simp [digsTo]
  | k + 1 => by
    have h1 := digsTo_lt l k
    have h2 := hexDigit_lt l k
    simp only [digsTo, Nat.pow_succ]
    omega
theorem digit_pow (x : Nat) (k : Nat) (h : k < 8) : x / 16 ^ (8 - (k + 1)) = 16 * (x / 16 ^ (8 - k)) + x / 16 ^ (7 - k) % 16 := by
  have e : 8 - k = (7 - k) + 1 := by omega
  have e2 : 8 - (k + 1) = 7 - k := by omega
  rw [e, e2, Nat.pow_succ, ← Nat.div_div_eq_div_mul]
  omega
theorem digsTo_low (l : List UInt8) : ∀ k, k ≤ 8 → digsTo l k = (Sha.sum l).a.toNat / 16 ^ (8 - k)
  | 0, _ => by
    have := Sha.toNat_lt (Sha.sum l).a
    simp only [digsTo]
    omega
  | k + 1, h => by
    rw [digsTo, digsTo_low l k (by omega), digit_pow _ k (by omega)]
    unfold hexDigit
    rw [show k / 8 = 0 by omega, show k % 8 = k by omega]
    rfl
theorem digsTo_high (l : List UInt8) : ∀ k, k ≤ 8 → digsTo l (8 + k) = (Sha.sum l).a.toNat * 16 ^ k + (Sha.sum l).b.toNat / 16 ^ (8 - k)
  | 0, _ => by
    have := Sha.toNat_lt (Sha.sum l).b
    rw [digsTo_low l 8 (by omega)]
    omega
  | k + 1, h => by
    rw [show 8 + (k + 1) = (8 + k) + 1 by omega, digsTo, digsTo_high l k (by omega), digit_pow _ k (by omega), Nat.pow_succ]
    unfold hexDigit
    rw [show (8 + k) / 8 = 1 by omega, show (8 + k) % 8 = k by omega]
    show _ + (Sha.sum l).b.toNat / 16 ^ (7 - k) % 16 = _
    rw [Nat.mul_add, ← Nat.mul_assoc, ← Nat.mul_assoc, Nat.mul_comm 16 (Sha.sum l).a.toNat, Nat.mul_assoc, Nat.mul_comm 16 (16 ^ k), ← Nat.mul_assoc, Nat.add_assoc]
theorem digs15 (l : List UInt8) : digsTo l 15 = Sha.top l := by
  have h := digsTo_high l 7 (by omega)
  unfold Sha.top
  simpa using h
theorem num60 (l : List UInt8) : Sha.number l 1152921504606846976 = (digsTo l 15 : Int) := by
  have := top_lt l
  unfold Sha.number
  rw [if_neg (by omega), digs15, Int.emod_eq_of_lt (by omega) (by omega)]
theorem num16 (l : List UInt8) : Sha.number l 16 = (hexDigit l 14 : Int) := by
  unfold Sha.number
  rw [if_neg (by omega), ← digs15]
  have := hexDigit_lt l 14
  show ((16 * digsTo l 14 + hexDigit l 14 : Nat) : Int) % 16 = _
  omega

set_option maxHeartbeats 1000000 in
theorem digs_small (s : ByteArray) (w : World) (hs : s.size ≤ 1000) (ht : Tabs w) :
    Calls Tryd.prog 6 #[.string s] w fun e w' => e = .returned (.bool true) ∧ Below w.heap.size w w' := by
  have HT := Lib.hid ht
  clear ht
  have hs' : (s.size : Int) ≤ 1000 := by omega
  go_enter Tryd.func6, Tryd.ntmps6
  go_wp2_with fail
  refine (head28 _ HT.out).mono ?_
  rintro e w1 ⟨rfl, hb1⟩
  go_wp2_with fail
  refine (Sum_hex s _ (by omega) (HT.out.below hb1 (Nat.le_refl _))).mono ?_
  rintro e w2 ⟨rfl, hb2⟩
  have H2 := Lib.hid ((HT.out.below hb1 (Nat.le_refl _)).below hb2 (Nat.le_refl _))
  have hat := hexB_at s.data.toList
  have hsz := hexB_size s.data.toList
  have hs2 := hb1.size
  have hs3 := hb2.size
  generalize hx : hexB s.data.toList = x at hat hsz ⊢
  have hsz' : (x.size : Int) = 64 := by omega
  go_wp2_with fail
  go_loopg [5, 6] 15 (fun gk n i wr => ∃ k, k + gk = 15 ∧ i = .int .i64 (k : Nat) ∧ n = .int .i64 (digsTo s.data.toList k : Nat) ∧ wr = w2)
  case atStart => exact ⟨0, by omega, rfl, rfl, rfl⟩
  case round =>
    obtain ⟨k, hk, rfl, rfl, rfl⟩ := hrel
    by_cases hlt : k < 15
    · have hdg := digit_hex (hexDigit s.data.toList k)
      have hlt16 := hexDigit_lt s.data.toList k
      have hk2 := hat k (by omega) (by omega)
      have hd1 := digsTo_lt s.data.toList k
      have hd2 : 16 ^ k ≤ 16 ^ 14 := Nat.pow_le_pow_right (by omega) (by omega)
      have hd3 : digsTo s.data.toList (k + 1) = 16 * digsTo s.data.toList k + hexDigit s.data.toList k := rfl
      generalize digsTo s.data.toList k = D at hd1 hd3 ⊢
      generalize hexDigit s.data.toList k = d at hdg hlt16 hk2 hd3
      have hd4 : D < 16 ^ 14 := by omega
      have w1 : wrap64 (16 * (D : Int)) = 16 * (D : Int) := by unfold wrap64; omega
      have w2 : wrap64 (16 * (D : Int) + (d : Int)) = 16 * (D : Int) + (d : Int) := by unfold wrap64; omega
      clear hd1 hd2 hd4
      go_wp2_with fail
      refine (hdg _ hlt16).mono ?_
      rintro e w3 ⟨rfl, rfl⟩
      go_wp2_with fail
      go_roundg (gk - 1)
      case measure => omega
      case rel => exact ⟨k + 1, by omega, by go_num, by rw [hd3, w2]; simp, rfl⟩
    · obtain rfl : gk = 0 := by omega
      obtain rfl : k = 15 := by omega
      have hk2 := hat 14 (by omega) (by omega)
      have hdg := digit_hex (hexDigit s.data.toList 14)
      have hlt16 := hexDigit_lt s.data.toList 14
      have hN1 : ∀ w : World, Tabs w → Calls Tryd.prog 18 #[.string s, .int .i64 1152921504606846976] w fun e w' => e = .returned (.int .i64 (digsTo s.data.toList 15 : Nat)) ∧ Below w.heap.size w w' := fun w h => by
        have := Number_any s 1152921504606846976 w (by omega) h (by omega)
        rwa [num60] at this
      have hN2 : ∀ w : World, Tabs w → Calls Tryd.prog 18 #[.string s, .int .i64 16] w fun e w' => e = .returned (.int .i64 (hexDigit s.data.toList 14 : Nat)) ∧ Below w.heap.size w w' := fun w h => by
        have := Number_any s 16 w (by omega) h (by omega)
        rwa [num16] at this
      generalize digsTo s.data.toList 15 = D at hN1 ⊢
      generalize hexDigit s.data.toList 14 = d at hdg hlt16 hk2 hN2
      have HN1 := Lib.hid hN1
      have HN2 := Lib.hid hN2
      have HDG := Lib.hid (fun w => hdg w hlt16)
      clear hN1 hN2 hdg hat
      have h14 : (14 : Int) < (x.size : Int) := by omega
      go_wp2_with fail
      go_region_with (first | (go_at_call_of 18 (Value.int .i64 1152921504606846976); refine (HN1.out _ (by repeat (first | exact H2.out | apply Tabs.drew))).mono ?_; rintro e wa ⟨rfl, hba⟩) | (go_at_call_of 18 (Value.int .i64 16); refine (HN2.out _ (by repeat (first | exact H2.out | apply Tabs.drew | refine Tabs.below ?_ hba (Nat.le_refl _)))).mono ?_; rintro e wb ⟨rfl, hbb⟩) | (go_at_call 20; refine (HDG.out _).mono ?_; rintro e wc ⟨rfl, rfl⟩))
      all_goals
        have hsa : wr.heap.size ≤ wa.heap.size := hba.size
        have hba' : Below wr.heap.size wr.drew wa := hba
        have hA : Below w.heap.size w wb := (((hb1.trans (hb2.mono (by omega))).drew).trans (hba'.mono (by omega))).trans (hbb.mono (by omega))
        clear hba' HN1 HN2 HDG
        go_wp2_with fail
        go_ret
        exact ⟨by simp [Act.put], by first | exact hA | exact hA.drew⟩
theorem law_DigestDigits (s : ByteArray) (w : World) (hm : s.size ≤ maxLen) (ht : Tabs w) :
    Calls Tryd.prog 6 #[.string s] w fun e w' => e = .returned (.bool true) ∧ Below w.heap.size w w' := by
  by_cases h : s.size ≤ 1000
  · exact digs_small s w h ht
  · exact digs_big s w (by omega) hm ht
end Go.Proofs.YtgjefmhobfdjdaaDoor
