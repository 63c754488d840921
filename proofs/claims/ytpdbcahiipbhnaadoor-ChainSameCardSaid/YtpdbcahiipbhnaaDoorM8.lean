/- Layer 31: what the laws' head needs: a signature that was made does not fit the text with another body. By the kernel. -/
import Derived.Test.YtpdbcahiipbhnaaDoorM7
namespace Go.Proofs.YtpdbcahiipbhnaaDoor
open Go.RowKit

/-- Decimal digits by a count of steps. -/
def decF : Nat → Nat → List UInt8
  | 0, _ => []
  | k + 1, u => if u < 10 then [UInt8.ofNat (48 + u)] else decF k (u / 10) ++ [UInt8.ofNat (48 + u % 10)]
theorem decF_eq : ∀ (k u : Nat), u < 10 ^ (k + 1) → decF (k + 1) u = Lib.decDigits u
  | 0, u, h => by
    have h0 : u < 10 := by omega
    unfold decF
    rw [if_pos h0, Lib.decDigits_one h0]
  | k + 1, u, h => by
    unfold decF
    by_cases h0 : u < 10
    · rw [if_pos h0, Lib.decDigits_one h0]
    · rw [if_neg h0, decF_eq k (u / 10) (by rw [Nat.pow_succ] at h; omega)]
      conv => rhs; rw [Lib.decDigits, dif_neg h0]
theorem pw_val (b n v : Nat) (hn : n < 2 ^ 31) (hb : b < 2147483647) (h : fpw 31 b n = v) : pw b n = v := (fpw_eq 31 b n hn hb).symm.trans h
theorem decB_val (u : Nat) (l : List UInt8) (hu : u < 10 ^ 12) (h : decF 12 u = l) : decB u = ⟨l.toArray⟩ := by rw [decB_eq, ← decF_eq 11 u hu, h]
theorem itoa_val (u : Nat) (l : List UInt8) (hu : u < 10 ^ 12) (h : decF 12 u = l) : Lib.itoa (u : Int) = l := by
  unfold Lib.itoa
  rw [if_neg (by omega), Int.toNat_natCast, ← decF_eq 11 u hu, h]
abbrev tA : List UInt8 := [101, 110, 116, 114, 121, 32, 48, 32, 48, 32, 51, 32, 48, 32, 97]
abbrev tC : List UInt8 := [101, 110, 116, 114, 121, 32, 48, 32, 48, 32, 51, 32, 48, 32, 99]
theorem head_words : wordsB entryW [0, 0, 3, 0] = ⟨#[101, 110, 116, 114, 121, 32, 48, 32, 48, 32, 51, 32, 48]⟩ := by
  have i0 : Lib.itoa 0 = [48] := itoa_val 0 [48] (by decide) (by decide)
  have i3 : Lib.itoa 3 = [51] := itoa_val 3 [51] (by decide) (by decide)
  rw [wordsB_eq]
  simp [wordsL, i0, i3]
theorem head_txt (c : UInt8) : txtE 0 0 3 ⟨#[]⟩ ⟨#[c]⟩ = ⟨#[101, 110, 116, 114, 121, 32, 48, 32, 48, 32, 51, 32, 48, 32, c]⟩ := by
  rw [txtE_eq, show (((⟨#[]⟩ : ByteArray).size : Nat) : Int) = 0 from rfl, head_words]
  rfl
theorem hnum_val (l : List UInt8) (m : Nat) (v : Nat) (h : decide (1 ≤ m) = true) (hv : Sha.top l % m = v) : Sha.number l (m : Int) = (v : Int) := by
  unfold Sha.number
  have := of_decide_eq_true h
  rw [if_neg (by omega), ← hv]; rfl
theorem kayA : kay 5 ⟨#[101, 110, 116, 114, 121, 32, 48, 32, 48, 32, 51, 32, 48, 32, 97]⟩ = 406066904 := by
  have h : (kT 5 ⟨#[101, 110, 116, 114, 121, 32, 48, 32, 48, 32, 51, 32, 48, 32, 97]⟩).data.toList = [107, 32, 53, 32] ++ tA := by
    rw [← kT_eq, decB_val 5 [53] (by decide) (by decide)]; rfl
  have h2 := kay_eq 5 ⟨#[101, 110, 116, 114, 121, 32, 48, 32, 48, 32, 51, 32, 48, 32, 97]⟩
  rw [h, show Sha.number ([107, 32, 53, 32] ++ tA) (2147483645 : Int) = ((406066903 : Nat) : Int) from hnum_val _ 2147483645 406066903 (by decide) (by unfold Sha.top Sha.sum; decide +kernel)] at h2
  omega
theorem chalV (c : UInt8) (v : Nat) (hv : Sha.top ([101, 32, 49, 52, 56, 57, 50, 55, 53, 54, 53, 48, 32, 49, 54, 56, 48, 55, 32] ++ [101, 110, 116, 114, 121, 32, 48, 32, 48, 32, 51, 32, 48, 32, c]) % 2147483646 = v) :
    chal 1489275650 16807 ⟨#[101, 110, 116, 114, 121, 32, 48, 32, 48, 32, 51, 32, 48, 32, c]⟩ = v := by
  have h : (cT 1489275650 16807 ⟨#[101, 110, 116, 114, 121, 32, 48, 32, 48, 32, 51, 32, 48, 32, c]⟩).data.toList = [101, 32, 49, 52, 56, 57, 50, 55, 53, 54, 53, 48, 32, 49, 54, 56, 48, 55, 32] ++ [101, 110, 116, 114, 121, 32, 48, 32, 48, 32, 51, 32, 48, 32, c] := by
    rw [← cT_eq, decB_val 1489275650 [49, 52, 56, 57, 50, 55, 53, 54, 53, 48] (by decide) (by decide), decB_val 16807 [49, 54, 56, 48, 55] (by decide) (by decide)]; rfl
  have h2 := chal_eq 1489275650 16807 ⟨#[101, 110, 116, 114, 121, 32, 48, 32, 48, 32, 51, 32, 48, 32, c]⟩
  rw [h, show Sha.number ([101, 32, 49, 52, 56, 57, 50, 55, 53, 54, 53, 48, 32, 49, 54, 56, 48, 55, 32] ++ [101, 110, 116, 114, 121, 32, 48, 32, 48, 32, 51, 32, 48, 32, c]) (2147483646 : Int) = (v : Int) from hnum_val _ 2147483646 v (by decide) hv] at h2
  omega
theorem powA : pw 7 406066904 = 1489275650 := pw_val _ _ _ (by decide) (by decide) (by decide +kernel)
theorem sgS_val {x K R Y C : Nat} {t : ByteArray} (h1 : kay x t = K) (h2 : pw 7 K = R) (h3 : pw 7 x = Y) (h4 : chal R Y t = C) : sgS x t = (K + C * x % 2147483646) % 2147483646 := by
  unfold sgS; rw [h1, h2, h3, h4]
theorem sigA : sgS 5 ⟨#[101, 110, 116, 114, 121, 32, 48, 32, 48, 32, 51, 32, 48, 32, 97]⟩ = 827666374 :=
  (sgS_val kayA powA pw7_five (chalV 97 84319894 (by unfold Sha.top Sha.sum; decide +kernel))).trans (by decide)
theorem verC : verB 16807 1489275650 827666374 ⟨#[101, 110, 116, 114, 121, 32, 48, 32, 48, 32, 51, 32, 48, 32, 99]⟩ = false := by
  have h := verB_in (y := 16807) (r := 1489275650) (s := 827666374) (t := ⟨#[101, 110, 116, 114, 121, 32, 48, 32, 48, 32, 51, 32, 48, 32, 99]⟩) (by decide) (by decide) (by decide) (by decide) (by decide)
  rw [chalV 99 706663265 (by unfold Sha.top Sha.sum; decide +kernel)] at h
  have e1 : pw 7 827666374 ≠ 1489275650 * pw 16807 706663265 % 2147483647 := by
    rw [pw_val 7 827666374 _ (by decide) (by decide) rfl, pw_val 16807 706663265 _ (by decide) (by decide) rfl]; decide +kernel
  rw [decide_eq_false e1] at h
  exact h
/-- A new entry is signed. -/
theorem new_sgd (ho : Int) (x : Nat) (day : Int) (body : ByteArray) (q : Int) (pv : ByteArray) : (newEnt ho x day body q pv).sgd (pw 7 x : Nat) = true := by
  unfold Ent.sgd newEnt
  rw [sgdE_eq]
  exact ver_sign x _
theorem forged : sgdE 16807 0 0 3 ⟨#[]⟩ ⟨#[99]⟩ (newEnt 0 5 3 ⟨#[97]⟩ 0 ⟨#[]⟩).r (newEnt 0 5 3 ⟨#[97]⟩ 0 ⟨#[]⟩).s = false := by
  rw [sgdE_eq, head_txt]
  unfold newEnt
  rw [head_txt, kayA, powA, sigA]
  exact verC
end Go.Proofs.YtpdbcahiipbhnaaDoor
