/- Layer 31: the reference's decimal. -/
import Derived.Test.YtpdbcahiipbhnaaDoorM0
import Derived.Test.YtpdbcahiipbhnaaDoorLib
import Derived.LoopN
import Derived.Deep.LoopGhost
import Derived.WalkMore
namespace Go.Proofs.YtpdbcahiipbhnaaDoor
open Go.RowKit

theorem numB_pos {n : Int} (h : 0 ≤ n) : numB n = decB n.natAbs := by
  rw [numB_eq, decB_eq]; unfold Lib.itoa; rw [if_neg (by omega), show n.toNat = n.natAbs by omega]
theorem numB_neg {n : Int} (h : n < 0) : numB n = ⟨#[45]⟩ ++ decB n.natAbs := by
  rw [numB_eq, decB_eq]; unfold Lib.itoa; rw [if_pos h]
  apply ByteArray.ext
  simp [ByteArray.data_append]
theorem alloc_bel (w : World) (o : Obj) : Below w.heap.size w (w.alloc o) := (Below.refl _ _).alloc (Nat.le_refl _) o
theorem dig_val (n : Int) : ((UInt8.ofNat (48 + (n % 10).toNat)).toNat : Int) = 48 + n % 10 := by
  have h1 : 0 ≤ n % 10 := Int.emod_nonneg _ (by decide)
  have h2 : n % 10 < 10 := Int.emod_lt_of_pos _ (by decide)
  have : (UInt8.ofNat (48 + (n % 10).toNat)).toNat = 48 + (n % 10).toNat := by
    rw [UInt8.toNat_ofNat']; omega
  rw [this]; omega
/-- A number's last digit. -/
@[irreducible] def digB (n : Int) : ByteArray := ⟨#[UInt8.ofNat (48 + (n % 10).toNat)]⟩
theorem digB_eq (n : Int) : digB n = ⟨#[UInt8.ofNat (48 + (n % 10).toNat)]⟩ := by unfold digB; rfl
theorem digB_size (n : Int) : (digB n).size = 1 := by rw [digB_eq]; rfl
theorem conv_dig (W : World) (n : Int) : (convert 106 9 (.slice (some ⟨W.heap.size, 0, none⟩) 1 1)).run Tryd.prog (W.alloc (.cells #[.int .u8 (48 + n % 10)] 5)) = .ok (.string (digB n)) (W.alloc (.cells #[.int .u8 (48 + n % 10)] 5)) := by
  rw [digB_eq]
  refine run_string_bytes [UInt8.ofNat (48 + (n % 10).toNat)] ?_ rfl Tryd.underlying106 Tryd.underlying5 Tryd.underlying9
  intro j u hj
  have := rangeAt_new W #[.int .u8 (48 + n % 10)] 5 j u
  apply this
  rw [← hj]
  show [Value.int .u8 (48 + n % 10)][j]? = [Value.int .u8 ((UInt8.ofNat (48 + (n % 10).toNat)).toNat : Int)][j]?
  rw [dig_val]
theorem dig_one (v : Nat) : digB v = decB (v % 10) := by
  rw [digB_eq, ← digit_dec _ (Nat.mod_lt _ (by decide)), digit_piece _ (Nat.mod_lt _ (by decide))]
  rw [show ((v : Int) % 10).toNat = v % 10 by omega]
theorem decB_pos (v : Nat) : 1 ≤ (decB v).size := by
  have e : (decB v).size = (Lib.decDigits v).length := by rw [decB_eq]; show (Lib.decDigits v).toArray.size = _; simp
  rw [e]
  by_cases h : v < 10
  · rw [Lib.decDigits_one h]; simp
  · rw [Lib.decDigits, dif_neg h]; simp
/-- Between two rounds: the number v is left, s is what was printed. -/
def DecAt (m v : Nat) (s : ByteArray) : Prop := ∃ t, s = decB (v % 10) ++ t ∧ decB v ++ t = decB m ∧ s.size ≤ 20
theorem DecAt.start (m : Nat) : DecAt m m (digB m) :=
  ⟨⟨#[]⟩, by rw [dig_one]; apply ByteArray.ext; simp [ByteArray.data_append], by apply ByteArray.ext; simp [ByteArray.data_append], by rw [digB_size]; decide⟩
theorem decB_size' (n : Nat) (h : n < 9223372036854775809) : (decB n).size ≤ 20 := by
  have e : (decB n).size = (Lib.decDigits n).length := by rw [decB_eq]; show (Lib.decDigits n).toArray.size = _; simp
  rw [e]; exact dec_len 19 n (by omega)
theorem DecAt.step {m v : Nat} {s : ByteArray} (hm : m < 9223372036854775809) (h : DecAt m v s) (hv : ¬ v < 10) : DecAt m (v / 10) (digB ((v : Int) / 10) ++ s) := by
  obtain ⟨t, h1, h2, h3⟩ := h
  have e1 : digB ((v : Int) / 10) = decB (v / 10 % 10) := by rw [← dig_one]; congr
  have e2 : decB (v / 10) ++ s = decB m := by rw [← h2, ← dec_step v hv, h1, ByteArray.append_assoc]
  refine ⟨s, by rw [e1], e2, ?_⟩
  have := decB_pos (v / 10)
  have h4 := decB_size' m hm
  rw [← e2, ByteArray.size_append] at h4
  rw [ByteArray.size_append, digB_size]
  omega
theorem DecAt.fin {m v : Nat} {s : ByteArray} (h : DecAt m v s) (hv : v < 10) : s = decB m := by
  obtain ⟨t, h1, h2, _⟩ := h
  rw [h1, Nat.mod_eq_of_lt hv, h2]
set_option maxHeartbeats 2000000 in
set_option maxRecDepth 100000 in
theorem RDec31_pos (m : Nat) (w : World) (hm : m ≤ 9223372036854775807) :
    Calls Tryd.prog 79 #[.int .i64 m] w fun e w' => e = .returned (.string (decB m)) ∧ Below w.heap.size w w' := by
  have n0 : ¬ (m : Int) < 0 := by omega
  have hcv := conv_dig
  have hds := digB_size
  go_enter Tryd.func79, Tryd.ntmps79
  go_wp2_with fail
  go_loopg [3, 4] m (fun gk u s wr => ∃ (v : Nat) (t : ByteArray), v ≤ gk ∧ v ≤ m ∧ u = .int .u64 v ∧ s = .string t ∧ DecAt m v t ∧ Below w.heap.size w wr)
  case atStart => exact ⟨m, _, Nat.le_refl _, Nat.le_refl _, rfl, rfl, DecAt.start m, (Below.refl _ _).alloc (Nat.le_refl _) _⟩
  case round =>
    obtain ⟨v, t, hv, hvm, rfl, rfl, hD, br⟩ := hrel
    have B4 := Lib.hid br
    have HD := Lib.hid hD
    have hz : t.size ≤ 20 := by obtain ⟨_, _, _, h⟩ := hD; exact h
    have hz1 : ¬ 9223372036854775807 < 1 + t.size := by omega
    clear br hD
    by_cases h9 : v < 10
    · have h9' : ¬ (9 : Int) < (v : Int) := by omega
      go_wp2_with fail
      go_ret
      exact ⟨by rw [HD.out.fin h9]; rfl, B4.out⟩
    · have h9' : (9 : Int) < (v : Int) := by omega
      have hw0 : (0 : Int) ≤ (v : Int) / 10 := by omega
      have hw1 : (v : Int) / 10 ≤ 9223372036854775807 := by omega
      go_wp2_with fail
      go_roundg (gk - 1)
      case measure => omega
      case rel => exact ⟨v / 10, _, by omega, by omega, by go_num, rfl, HD.out.step (by omega) h9, B4.out.trans ((alloc_bel wr _).mono B4.out.size)⟩
set_option maxHeartbeats 2000000 in
set_option maxRecDepth 100000 in
theorem RDec31_neg (m : Nat) (w : World) (hm : m ≤ 9223372036854775808) (h0 : 0 < m) :
    Calls Tryd.prog 79 #[.int .i64 (-(m : Int))] w fun e w' => e = .returned (.string (⟨#[45]⟩ ++ decB m)) ∧ Below w.heap.size w w' := by
  have n0 : -(m : Int) < 0 := by omega
  have n12 : IntKind.u64.wrap (-IntKind.u64.wrap (-(m : Int))) = (m : Int) := by rw [IntKind.wrap_u64, IntKind.wrap_u64]; omega
  have hcv := conv_dig
  have hds := digB_size
  go_enter Tryd.func79, Tryd.ntmps79
  go_wp2_with fail
  go_loopg [3, 4] m (fun gk u s wr => ∃ (v : Nat) (t : ByteArray), v ≤ gk ∧ v ≤ m ∧ u = .int .u64 v ∧ s = .string t ∧ DecAt m v t ∧ Below w.heap.size w wr)
  case atStart => exact ⟨m, _, Nat.le_refl _, Nat.le_refl _, rfl, rfl, DecAt.start m, (Below.refl _ _).alloc (Nat.le_refl _) _⟩
  case round =>
    obtain ⟨v, t, hv, hvm, rfl, rfl, hD, br⟩ := hrel
    have B4 := Lib.hid br
    have HD := Lib.hid hD
    have hz : t.size ≤ 20 := by obtain ⟨_, _, _, h⟩ := hD; exact h
    have hz1 : ¬ 9223372036854775807 < 1 + t.size := by omega
    clear br hD
    by_cases h9 : v < 10
    · have h9' : ¬ (9 : Int) < (v : Int) := by omega
      go_wp2_with fail
      go_ret
      exact ⟨by rw [HD.out.fin h9]; rfl, B4.out⟩
    · have h9' : (9 : Int) < (v : Int) := by omega
      have hw0 : (0 : Int) ≤ (v : Int) / 10 := by omega
      have hw1 : (v : Int) / 10 ≤ 9223372036854775808 := by omega
      go_wp2_with fail
      go_roundg (gk - 1)
      case measure => omega
      case rel => exact ⟨v / 10, _, by omega, by omega, by go_num, rfl, HD.out.step (by omega) h9, B4.out.trans ((alloc_bel wr _).mono B4.out.size)⟩
theorem RDec31_any (n : Int) (w : World) (hn : I64 n) :
    Calls Tryd.prog 79 #[.int .i64 n] w fun e w' => e = .returned (.string (numB n)) ∧ Below w.heap.size w w' := by
  have h1 := hn.1
  have h2 := hn.2
  by_cases h : n < 0
  · rw [numB_neg h]
    have := RDec31_neg n.natAbs w (by omega) (by omega)
    rw [show -((n.natAbs : Nat) : Int) = n by omega] at this
    exact this
  · rw [numB_pos (by omega)]
    have := RDec31_pos n.natAbs w (by omega)
    rw [show ((n.natAbs : Nat) : Int) = n by omega] at this
    exact this
end Go.Proofs.YtpdbcahiipbhnaaDoor
