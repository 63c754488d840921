/- Layer 29: the challenges. -/
import Derived.Test.YtpdbcahiipbhnaaDoorP2
namespace Go.Proofs.YtpdbcahiipbhnaaDoor
open Go.RowKit

/-- The challenge's text. -/
@[irreducible] def cT (r y : Nat) (t : ByteArray) : ByteArray := ((((⟨#[101, 32]⟩ ++ decB r) ++ ⟨#[32]⟩) ++ decB y) ++ ⟨#[32]⟩) ++ t
theorem cT_eq (r y : Nat) (t : ByteArray) : ((((⟨#[101, 32]⟩ ++ decB r) ++ ⟨#[32]⟩) ++ decB y) ++ ⟨#[32]⟩) ++ t = cT r y t := by unfold cT; rfl
theorem cT_size (r y : Nat) (t : ByteArray) (hr : r < 9223372036854775808) (hy : y < 9223372036854775808) (ht : t.size ≤ 100000) : (cT r y t).size ≤ 1000000 := by
  have h1 := decB_size r hr
  have h2 := decB_size y hy
  rw [← cT_eq]
  simp only [ByteArray.size_append]
  show 2 + (decB r).size + 1 + (decB y).size + 1 + t.size ≤ _
  omega
/-- The challenge. -/
@[irreducible] def chal (r y : Nat) (t : ByteArray) : Nat := (Sha.number (cT r y t).data.toList 2147483646).toNat
theorem chal_eq (r y : Nat) (t : ByteArray) : Sha.number (cT r y t).data.toList 2147483646 = (chal r y t : Nat) := by
  unfold chal
  have : 0 ≤ Sha.number (cT r y t).data.toList 2147483646 := by unfold Sha.number; rw [if_neg (by omega)]; exact Int.emod_nonneg _ (by omega)
  omega
theorem chal_lt (r y : Nat) (t : ByteArray) : chal r y t < 2147483646 := by
  have h := chal_eq r y t
  have h2 : Sha.number (cT r y t).data.toList 2147483646 < 2147483646 := by unfold Sha.number; rw [if_neg (by omega)]; exact Int.emod_lt_of_pos _ (by omega)
  omega

set_option maxHeartbeats 1000000 in
theorem chal_any (r y : Nat) (t : ByteArray) (w : World) (hr : r < 9223372036854775808) (hy : y < 9223372036854775808) (ht : t.size ≤ 100000) (htab : Tabs w) :
    Calls Tryd.prog 83 #[.int .i64 r, .int .i64 y, .string t] w fun e w' => e = .returned (.int .i64 (chal r y t : Nat)) ∧ Below w.heap.size w w' := by
  have HT := Lib.hid htab
  clear htab
  have hI1 := fun w => Itoa_any r w (by omega)
  have hI2 := fun w => Itoa_any y w (by omega)
  have s1 := decB_size r hr
  have s2 := decB_size y hy
  have HC := Lib.hid (cT_eq r y t)
  have HS := Lib.hid (cT_size r y t hr hy ht)
  have HE := Lib.hid (chal_eq r y t)
  generalize chal r y t = c at HE ⊢
  generalize cT r y t = ct at HC HS HE
  generalize decB r = dr at hI1 s1 HC
  generalize decB y = dy at hI2 s2 HC
  have HI1 := Lib.hid hI1
  have HI2 := Lib.hid hI2
  clear hI1 hI2
  go_enter Tryd.func83, Tryd.ntmps83
  go_wp2_with fail
  refine (HI1.out _ HT.out).mono ?_
  rintro e w1 ⟨rfl, hb1⟩
  have H1 := Lib.hid (HT.out.below hb1 (Nat.le_refl _))
  have hs1 := hb1.size
  go_wp2_with fail
  refine (HI2.out _ H1.out).mono ?_
  rintro e w2 ⟨rfl, hb2⟩
  have H2 := Lib.hid (H1.out.below hb2 (Nat.le_refl _))
  have hs2 := hb2.size
  go_wp2_with fail
  rw [HC.out]
  refine (Number_any ct _ _ HS.out H2.out (by omega)).mono ?_
  rintro e w3 ⟨rfl, hb3⟩
  rw [HE.out]
  go_wp2_with fail
  go_ret
  exact ⟨rfl, hb1.trans ((hb2.mono (by omega)).trans (hb3.mono (by omega)))⟩

set_option maxHeartbeats 1000000 in
theorem Rchal_any (r y : Nat) (t : ByteArray) (w : World) (hr : r < 9223372036854775808) (hy : y < 9223372036854775808) (ht : t.size ≤ 100000) :
    Calls Tryd.prog 96 #[.int .i64 r, .int .i64 y, .string t] w fun e w' => e = .returned (.int .i64 (chal r y t : Nat)) ∧ Below w.heap.size w w' := by
  have hI1 := fun w => RDec_any r hr w
  have hI2 := fun w => RDec_any y hy w
  have s1 := decB_size r hr
  have s2 := decB_size y hy
  have HC := Lib.hid (cT_eq r y t)
  have HS := Lib.hid (cT_size r y t hr hy ht)
  have HE := Lib.hid (chal_eq r y t)
  generalize chal r y t = c at HE ⊢
  generalize cT r y t = ct at HC HS HE
  generalize decB r = dr at hI1 s1 HC
  generalize decB y = dy at hI2 s2 HC
  have HI1 := Lib.hid hI1
  have HI2 := Lib.hid hI2
  clear hI1 hI2
  go_enter Tryd.func96, Tryd.ntmps96
  go_wp2_with fail
  refine (HI1.out _).mono ?_
  rintro e w1 ⟨rfl, m1, rfl⟩
  go_wp2_with fail
  refine (HI2.out _).mono ?_
  rintro e w2 ⟨rfl, m2, rfl⟩
  go_wp2_with fail
  rw [HC.out]
  refine (RNumber_any ct _ _ HS.out (by omega)).mono ?_
  rintro e w3 ⟨rfl, hb3⟩
  rw [HE.out]
  go_wp2_with fail
  go_ret
  exact ⟨rfl, ⟨hb3.os, hb3.tape, hb3.output, hb3.size, hb3.block⟩⟩
end Go.Proofs.YtpdbcahiipbhnaaDoor
