/- The laws of layer 28: what they share: the head, the digits, the digest as a string. -/
import Derived.Test.YtpdbcahiipbhnaaDoorS2
namespace Go.Proofs.YtpdbcahiipbhnaaDoor
open Go.RowKit

/-- The digest as a string (kept shut). -/
@[irreducible] def hexB (l : List UInt8) : ByteArray := ⟨(Sha.hex l).toArray⟩
theorem hexB_list (l : List UInt8) : (hexB l).toList = Sha.hex l := by unfold hexB; simp
theorem hexB_data (l : List UInt8) : (hexB l).data.toList = Sha.hex l := by unfold hexB; simp
theorem hexB_size (l : List UInt8) : (hexB l).size = 64 := by
  show (hexB l).data.size = 64
  rw [← Array.length_toList, hexB_data, Sha.hex_length]
theorem hexW_at (x : Sha.W) (i : Nat) (h : i < 8) : (Sha.hexW x)[i]? = some (Sha.dig (x.toNat / 16 ^ (7 - i) % 16)) := by simp [Sha.hexW, h]
/-- Digit i of word k. -/
def hexDigit (l : List UInt8) (k : Nat) : Nat := ((Sha.sum l).toList.getD (k / 8) 0).toNat / 16 ^ (7 - k % 8) % 16
theorem flat_at : ∀ (ws : List Sha.W) (k : Nat), k < 8 * ws.length → ((ws.map Sha.hexW).flatten)[k]? = some (Sha.dig ((ws.getD (k / 8) 0).toNat / 16 ^ (7 - k % 8) % 16))
  | [], k, h => by simp at h
  | a :: ws, k, h => by
    by_cases hk : k < 8
    · rw [List.map_cons, List.flatten_cons, List.getElem?_append_left (by rw [Sha.hexW_length]; exact hk), hexW_at a k hk, show k / 8 = 0 by omega, show k % 8 = k by omega]
      rfl
    · rw [List.map_cons, List.flatten_cons, List.getElem?_append_right (by rw [Sha.hexW_length]; omega), Sha.hexW_length, flat_at ws (k - 8) (by simp at h; omega), show k / 8 = (k - 8) / 8 + 1 by omega, show (k - 8) % 8 = k % 8 by omega]
      rfl
theorem hex_at (l : List UInt8) (k : Nat) (h : k < 64) : (Sha.hex l)[k]? = some (Sha.dig (hexDigit l k)) := by
  unfold Sha.hex hexDigit
  exact flat_at _ k (by simpa [Sha.V.toList] using h)
theorem hexDigit_lt (l : List UInt8) (k : Nat) : hexDigit l k < 16 := Nat.mod_lt _ (by omega)
theorem hexB_at (l : List UInt8) (k : Nat) (h : k < 64) (hk : k < (hexB l).size) : (hexB l)[k]'hk = Sha.dig (hexDigit l k) := by
  have h1 : (hexB l).data.toList[k]? = some (Sha.dig (hexDigit l k)) := by rw [hexB_data]; exact hex_at l k h
  have h2 : k < (hexB l).data.toList.length := by simpa using hk
  rw [List.getElem?_eq_getElem h2] at h1
  exact Option.some.inj h1

theorem Sum_hex (s : ByteArray) (w : World) (hs : s.size ≤ 1000000) (ht : Tabs w) :
    Calls Tryd.prog 50 #[.string s] w fun e w' => e = .returned (.string (hexB s.data.toList)) ∧ Below w.heap.size w w' :=
  (Sum_any s w hs ht).mono fun _ _ ⟨he, hb⟩ => ⟨by rw [he]; unfold hexB; rfl, hb⟩
theorem Number_any (s : ByteArray) (m : Int) (w : World) (hs : s.size ≤ 1000000) (ht : Tabs w) (hm2 : m ≤ 9223372036854775807) :
    Calls Tryd.prog 91 #[.string s, .int .i64 m] w fun e w' => e = .returned (.int .i64 (Sha.number s.data.toList m)) ∧ Below w.heap.size w w' := by
  by_cases hm : m < 1
  · exact Number_zero s m w hm
  · exact Number_pos s m w hs ht (by omega) hm2

theorem hexB_empty : hexB [] = ⟨#[101, 51, 98, 48, 99, 52, 52, 50, 57, 56, 102, 99, 49, 99, 49, 52, 57, 97, 102, 98, 102, 52, 99, 56, 57, 57, 54, 102, 98, 57, 50, 52, 50, 55, 97, 101, 52, 49, 101, 52, 54, 52, 57, 98, 57, 51, 52, 99, 97, 52, 57, 53, 57, 57, 49, 98, 55, 56, 53, 50, 98, 56, 53, 53]⟩ := by
  unfold hexB
  rw [show Sha.hex [] = [101, 51, 98, 48, 99, 52, 52, 50, 57, 56, 102, 99, 49, 99, 49, 52, 57, 97, 102, 98, 102, 52, 99, 56, 57, 57, 54, 102, 98, 57, 50, 52, 50, 55, 97, 101, 52, 49, 101, 52, 54, 52, 57, 98, 57, 51, 52, 99, 97, 52, 57, 53, 57, 57, 49, 98, 55, 56, 53, 50, 98, 56, 53, 53] by decide +kernel]
theorem hexB_abc : hexB [97, 98, 99] = ⟨#[98, 97, 55, 56, 49, 54, 98, 102, 56, 102, 48, 49, 99, 102, 101, 97, 52, 49, 52, 49, 52, 48, 100, 101, 53, 100, 97, 101, 50, 50, 50, 51, 98, 48, 48, 51, 54, 49, 97, 51, 57, 54, 49, 55, 55, 97, 57, 99, 98, 52, 49, 48, 102, 102, 54, 49, 102, 50, 48, 48, 49, 53, 97, 100]⟩ := by
  unfold hexB
  rw [show Sha.hex [97, 98, 99] = [98, 97, 55, 56, 49, 54, 98, 102, 56, 102, 48, 49, 99, 102, 101, 97, 52, 49, 52, 49, 52, 48, 100, 101, 53, 100, 97, 101, 50, 50, 50, 51, 98, 48, 48, 51, 54, 49, 97, 51, 57, 54, 49, 55, 55, 97, 57, 99, 98, 52, 49, 48, 102, 102, 54, 49, 102, 50, 48, 48, 49, 53, 97, 100] by decide +kernel]
theorem Sum_empty (w : World) (ht : Tabs w) :
    Calls Tryd.prog 50 #[.string ⟨#[]⟩] w fun e w' => e = .returned (.string ⟨#[101, 51, 98, 48, 99, 52, 52, 50, 57, 56, 102, 99, 49, 99, 49, 52, 57, 97, 102, 98, 102, 52, 99, 56, 57, 57, 54, 102, 98, 57, 50, 52, 50, 55, 97, 101, 52, 49, 101, 52, 54, 52, 57, 98, 57, 51, 52, 99, 97, 52, 57, 53, 57, 57, 49, 98, 55, 56, 53, 50, 98, 56, 53, 53]⟩) ∧ Below w.heap.size w w' :=
  (Sum_hex ⟨#[]⟩ w (by decide) ht).mono fun _ _ ⟨he, hb⟩ => ⟨by rw [he, ← hexB_empty], hb⟩
theorem Sum_abc (w : World) (ht : Tabs w) :
    Calls Tryd.prog 50 #[.string ⟨#[97, 98, 99]⟩] w fun e w' => e = .returned (.string ⟨#[98, 97, 55, 56, 49, 54, 98, 102, 56, 102, 48, 49, 99, 102, 101, 97, 52, 49, 52, 49, 52, 48, 100, 101, 53, 100, 97, 101, 50, 50, 50, 51, 98, 48, 48, 51, 54, 49, 97, 51, 57, 54, 49, 55, 55, 97, 57, 99, 98, 52, 49, 48, 102, 102, 54, 49, 102, 50, 48, 48, 49, 53, 97, 100]⟩) ∧ Below w.heap.size w w' :=
  (Sum_hex ⟨#[97, 98, 99]⟩ w (by decide) ht).mono fun _ _ ⟨he, hb⟩ => ⟨by rw [he, ← hexB_abc], hb⟩
theorem Number_abc (m r : Int) (w : World) (ht : Tabs w) (hm2 : m ≤ 9223372036854775807) (hr : Sha.number [97, 98, 99] m = r) :
    Calls Tryd.prog 91 #[.string ⟨#[97, 98, 99]⟩, .int .i64 m] w fun e w' => e = .returned (.int .i64 r) ∧ Below w.heap.size w w' :=
  (Number_any ⟨#[97, 98, 99]⟩ m w (by decide) ht hm2).mono fun _ _ ⟨he, hb⟩ => ⟨by rw [he, ← hr], hb⟩
theorem n16 : Sha.number [97, 98, 99] 16 = 14 := by decide +kernel
theorem n256 : Sha.number [97, 98, 99] 256 = 254 := by decide +kernel
theorem n0 : Sha.number [97, 98, 99] 0 = 0 := by decide +kernel
theorem n1 : Sha.number [97, 98, 99] 1 = 0 := by decide +kernel

end Go.Proofs.YtpdbcahiipbhnaaDoor
