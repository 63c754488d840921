/- DigestForm: the walk. -/
import Derived.Test.YtgjefmhobfdjdaaDoorL28
namespace Go.Proofs.YtgjefmhobfdjdaaDoor
open Go.RowKit

set_option maxHeartbeats 400000 in
theorem form_big (s : ByteArray) (w : World) (hs : 1000 < s.size) (hm : s.size ≤ maxLen) (ht : Tabs w) :
    Calls Tryd.prog 4 #[.string s] w fun e w' => e = .returned (.bool true) ∧ Below w.heap.size w w' := by
  have hm' : (s.size : Int) ≤ 9223372036854775807 := by unfold maxLen at hm; omega
  have hs' : (1000 : Int) < (s.size : Int) := by omega
  have HT := Lib.hid ht
  clear ht
  go_enter Tryd.func4, Tryd.ntmps4
  go_wp2_with fail
  refine (head28 _ HT.out).mono ?_
  rintro e w1 ⟨rfl, hb1⟩
  go_wp2_with fail
  go_ret
  exact ⟨rfl, hb1⟩

set_option maxHeartbeats 1000000 in
theorem form_small (s : ByteArray) (w : World) (hs : s.size ≤ 1000) (ht : Tabs w) :
    Calls Tryd.prog 4 #[.string s] w fun e w' => e = .returned (.bool true) ∧ Below w.heap.size w w' := by
  have HT := Lib.hid ht
  clear ht
  go_enter Tryd.func4, Tryd.ntmps4
  go_wp2_with fail
  refine (head28 _ HT.out).mono ?_
  rintro e w1 ⟨rfl, hb1⟩
  have hs' : (s.size : Int) ≤ 1000 := by omega
  go_wp2_with fail
  refine (Sum_hex s _ (by omega) (HT.out.below hb1 (Nat.le_refl _))).mono ?_
  rintro e w2 ⟨rfl, hb2⟩
  have hat := hexB_at s.data.toList
  have hsz := hexB_size s.data.toList
  have hs2 := hb1.size
  generalize hx : hexB s.data.toList = x at hat hsz ⊢
  go_wp2_with fail
  go_loopg [5] 64 (fun gk i wr => ∃ k, k + gk = 64 ∧ i = .int .i64 (k : Nat) ∧ wr = w2)
  case atStart => exact ⟨0, by omega, rfl, rfl⟩
  case round =>
    obtain ⟨k, hk, rfl, rfl⟩ := hrel
    have hsz' : (x.size : Int) = 64 := by omega
    by_cases hlt : k < 64
    · have hdg := digit_hex (hexDigit s.data.toList k)
      have hlt16 := hexDigit_lt s.data.toList k
      have hk2 := hat k hlt (by omega)
      go_wp2_with fail
      refine (hdg _ hlt16).mono ?_
      rintro e w3 ⟨rfl, rfl⟩
      go_wp2_with fail
      go_roundg (gk - 1)
      case measure => omega
      case rel => exact ⟨k + 1, by omega, by go_num, rfl⟩
    · obtain rfl : gk = 0 := by omega
      obtain rfl : k = 64 := by omega
      go_wp2_with fail
      have hs3 := hb2.size
      refine (Sum_hex s _ (by omega) ((HT.out.below hb1 (Nat.le_refl _)).below hb2 (Nat.le_refl _))).mono ?_
      rintro e w3 ⟨rfl, hb3⟩
      rw [hx]
      go_wp2_with fail
      go_ret
      exact ⟨by simp, hb1.trans ((hb2.mono (by omega)).trans (hb3.mono (by omega)))⟩
/-- DigestForm returns true for every text. -/
theorem law_DigestForm (s : ByteArray) (w : World) (hm : s.size ≤ maxLen) (ht : Tabs w) :
    Calls Tryd.prog 4 #[.string s] w fun e w' => e = .returned (.bool true) ∧ Below w.heap.size w w' := by
  by_cases h : s.size ≤ 1000
  · exact form_small s w h ht
  · exact form_big s w (by omega) hm ht
end Go.Proofs.YtgjefmhobfdjdaaDoor
