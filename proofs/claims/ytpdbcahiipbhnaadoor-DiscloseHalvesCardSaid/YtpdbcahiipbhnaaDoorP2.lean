/- Layer 29: decimal numerals: strconv.Itoa, and the two decimal functions. -/
import Derived.Test.YtpdbcahiipbhnaaDoorP1
import Derived.Test.YtpdbcahiipbhnaaDoorItoa
import Derived.Lib.AppendIntMem
namespace Go.Proofs.YtpdbcahiipbhnaaDoor
open Go.RowKit

/-- A number's decimal numeral (kept shut). -/
@[irreducible] def decB (n : Nat) : ByteArray := ⟨(Lib.decDigits n).toArray⟩
theorem decB_eq (n : Nat) : decB n = ⟨(Lib.decDigits n).toArray⟩ := by unfold decB; rfl

theorem Itoa_any (n : Nat) (w : World) (hn : n ≤ 9223372036854775807) (ht : Tabs w) :
    Calls Tryd.prog 87 #[.int .i64 n] w fun e w' => e = .returned (.string (decB n)) ∧ Below w.heap.size w w' := by
  refine (Tryd.strconv_Itoa (n : Int) (by omega) (by omega) w ht.pow10).mono ?_
  rintro e w' ⟨rfl, k, os, rfl⟩
  refine ⟨?_, Lib.below_grow _ w (Nat.le_refl _) k os⟩
  rw [decB_eq]
  unfold Lib.itoa
  rw [if_neg (by omega)]
  rfl

theorem digit_piece (d : Nat) (h : d < 10) : (⟨#[48, 49, 50, 51, 52, 53, 54, 55, 56, 57]⟩ : ByteArray).extract d (d + 1) = ⟨#[UInt8.ofNat (48 + d)]⟩ := by
  match d, h with
  | 0, _ => rfl
  | 1, _ => rfl
  | 2, _ => rfl
  | 3, _ => rfl
  | 4, _ => rfl
  | 5, _ => rfl
  | 6, _ => rfl
  | 7, _ => rfl
  | 8, _ => rfl
  | 9, _ => rfl

theorem digit_dec (d : Nat) (h : d < 10) : (⟨#[48, 49, 50, 51, 52, 53, 54, 55, 56, 57]⟩ : ByteArray).extract d (d + 1) = decB d := by
  rw [digit_piece d h, decB_eq, Lib.decDigits_one h]
theorem dec_step (n : Nat) (h : ¬ n < 10) : decB (n / 10) ++ decB (n % 10) = decB n := by
  have e : decB n = ⟨(Lib.decDigits (n / 10) ++ [UInt8.ofNat (48 + n % 10)]).toArray⟩ := by rw [decB_eq, Lib.decDigits, dif_neg h]
  rw [e, decB_eq, decB_eq, Lib.decDigits_one (show n % 10 < 10 by omega)]
  apply ByteArray.ext
  simp [ByteArray.data_append]

theorem dec_len : ∀ (k n : Nat), n < 10 ^ (k + 1) → (Lib.decDigits n).length ≤ k + 1
  | 0, n, h => by rw [Lib.decDigits_one (by omega)]; simp
  | k + 1, n, h => by
    by_cases h0 : n < 10
    · rw [Lib.decDigits_one h0]; simp
    · have e : Lib.decDigits n = Lib.decDigits (n / 10) ++ [UInt8.ofNat (48 + n % 10)] := by rw [Lib.decDigits, dif_neg h0]
      rw [e, List.length_append]
      have := dec_len k (n / 10) (by rw [Nat.pow_succ] at h; omega)
      simp; omega
theorem decB_size (n : Nat) (h : n < 9223372036854775808) : (decB n).size ≤ 20 := by
  have e : (decB n).size = (Lib.decDigits n).length := by
    rw [decB_eq]
    show (Lib.decDigits n).toArray.size = _
    simp
  rw [e]
  exact dec_len 19 n (by omega)

set_option maxHeartbeats 400000 in
theorem RDec_small (n : Nat) (w : World) (h : n < 10) :
    Calls Tryd.prog 95 #[.int .i64 n] w fun e w' => e = .returned (.string (decB n)) ∧ w = w' := by
  have hp := digit_dec n h
  have h1 : (n : Int) < 10 := by omega
  have h2 : (n : Int) + 1 ≤ 10 := by omega
  have h3 : wrap64 ((n : Int) + 1) = (n : Int) + 1 := by unfold wrap64; omega
  go_enter Tryd.func95, Tryd.ntmps95
  go_wp2_with fail
  go_ret
  exact ⟨rfl, rfl⟩

set_option maxHeartbeats 400000 in
theorem RDec_step (n : Nat) (w : World) (h : ¬ n < 10) (hn : n < 9223372036854775808)
    (ih : ∀ (w : World) (k : Nat), Calls Tryd.prog 95 #[.int .i64 (n / 10 : Nat)] (w.drewN k) fun e w' => e = .returned (.string (decB (n / 10))) ∧ ∃ m, w' = w.drewN m) :
    Calls Tryd.prog 95 #[.int .i64 n] w fun e w' => e = .returned (.string (decB n)) ∧ ∃ m, w' = w.drewN m := by
  have hp := digit_dec (n % 10) (by omega)
  have hd := dec_step n h
  have h1 : ¬ (n : Int) < 10 := by omega
  have hq : (n : Int).tdiv 10 = ((n / 10 : Nat) : Int) := by rw [Int.tdiv_eq_ediv_of_nonneg (by omega)]; omega
  have hr : (n : Int).tmod 10 = ((n % 10 : Nat) : Int) := by rw [Int.tmod_eq_emod_of_nonneg (by omega)]; omega
  have hw : IntKind.i64.wrap ((n / 10 : Nat) : Int) = ((n / 10 : Nat) : Int) := wrap_i64_in (by omega) (by omega)
  have hw2 : IntKind.i64.wrap ((n % 10 : Nat) : Int) = ((n % 10 : Nat) : Int) := wrap_i64_in (by omega) (by omega)
  have hw3 : IntKind.i64.wrap (((n % 10 : Nat) : Int) + 1) = ((n % 10 : Nat) : Int) + 1 := wrap_i64_in (by omega) (by omega)
  have hd10 : n % 10 < 10 := Nat.mod_lt _ (by omega)
  have IH := Lib.hid ih
  clear ih
  have s1 := decB_size (n % 10) (by omega)
  have s2 := decB_size (n / 10) (by omega)
  have s3 : (decB (n / 10)).size + (decB (n % 10)).size ≤ 9223372036854775807 := by omega
  have s4 : (decB (n / 10)).size + (decB (n % 10)).size ≤ maxLen := by unfold maxLen; omega
  have s5 : ((decB (n / 10)).size : Int) + ((decB (n % 10)).size : Int) ≤ 9223372036854775807 := by omega
  generalize n % 10 = d at *
  generalize n / 10 = q at *
  have b0 : (0 : Int) ≤ (d : Int) := by omega
  have b1 : (d : Int) + 1 ≤ 10 := by omega
  have b2 : (d : Int) ≤ (d : Int) + 1 := by omega
  have b3 : ((d : Int) + 1).toNat = d + 1 := by omega
  have b4 : (0 : Int) ≤ (d : Int) + 1 := by omega
  have b5 : (d : Int) ≤ 10 := by omega
  go_enter Tryd.func95, Tryd.ntmps95
  go_wp2_with fail
  go_quiet (first | (go_at_call 95; exact IH.out _ _))
  go_wp2_with fail
  go_ret
  exact ⟨rfl, _, rfl⟩
theorem RDec_any (n : Nat) : n < 9223372036854775808 → ∀ w,
    Calls Tryd.prog 95 #[.int .i64 n] w fun e w' => e = .returned (.string (decB n)) ∧ ∃ m, w' = w.drewN m := by
  induction n using Nat.strongRecOn with
  | ind n ih =>
    intro hn w
    by_cases h0 : n < 10
    · exact (RDec_small n w h0).mono fun _ _ ⟨a, b⟩ => ⟨a, 0, by rw [← b]; rfl⟩
    · exact RDec_step n w h0 hn (fun w m => Calls.quiet_of (ih (n / 10) (by omega) (by omega) _))

end Go.Proofs.YtpdbcahiipbhnaaDoor
