/- digest.Number. -/
import Derived.Test.YtpdbcahiipbhnaaDoorS1
namespace Go.Proofs.YtpdbcahiipbhnaaDoor
open Go.RowKit

theorem sum_a (s : List UInt8) (v : Sha.V) (h : Sha.sum s = v) : Sha.top s = v.a.toNat * 2 ^ 28 + v.b.toNat / 16 := by unfold Sha.top; rw [h]
theorem top_or (x y : Sha.W) : bits .or .u64 ((x.toNat : Int) * 268435456) ((y.toNat : Int) / 16) = ((x.toNat * 2 ^ 28 + y.toNat / 16 : Nat) : Int) := by
  have hx := Sha.toNat_lt x
  have hy := Sha.toNat_lt y
  have := u64_or_nat (x.toNat * 2 ^ 28) (y.toNat / 16) (by omega) (by omega)
  rw [show (((x.toNat * 2 ^ 28 : Nat)) : Int) = (x.toNat : Int) * 268435456 by omega, show ((y.toNat / 16 : Nat) : Int) = (y.toNat : Int) / 16 by omega] at this
  rw [this]
  congr 1
  have h := Nat.two_pow_add_eq_or_of_lt (i := 28) (b := y.toNat / 16) (by omega) x.toNat
  rw [Nat.mul_comm] at h
  exact h.symm
theorem top_lt (s : List UInt8) : Sha.top s < 2 ^ 60 := by
  unfold Sha.top
  have hx := Sha.toNat_lt (Sha.sum s).a
  have hy := Sha.toNat_lt (Sha.sum s).b
  omega

theorem num_val {x y : Sha.W} {T : Nat} {m : Int} (h : T = x.toNat * 2 ^ 28 + y.toNat / 16) (hl : T < 2 ^ 60) (h1 : 1 ≤ m) (h2 : m ≤ 9223372036854775807) :
    wrap64 ((bits .or .u64 ((x.toNat : Int) * 268435456) ((y.toNat : Int) / 16)).tmod m) = (T : Int) % m := by
  rw [top_or, ← h, Int.tmod_eq_emod_of_nonneg (by omega)]
  have a := Int.emod_nonneg (T : Int) (show m ≠ 0 by omega)
  have b := Int.emod_lt_of_pos (T : Int) (show 0 < m by omega)
  unfold wrap64
  omega

set_option maxHeartbeats 1000000 in
theorem Number_zero (s : ByteArray) (m : Int) (w : World) (hm : m < 1) :
    Calls Tryd.prog 91 #[.string s, .int .i64 m] w fun e w' => e = .returned (.int .i64 (Sha.number s.data.toList m)) ∧ Below w.heap.size w w' := by
  have hn : Sha.number s.data.toList m = 0 := by unfold Sha.number; rw [if_pos hm]
  rw [hn]
  go_enter Tryd.func91, Tryd.ntmps91
  go_wp2
  go_ret
  exact ⟨rfl, Below.refl _ _⟩

set_option maxHeartbeats 1000000 in
theorem Number_pos (s : ByteArray) (m : Int) (w : World) (hs : s.size ≤ 1000000) (ht : Tabs w) (hm : 1 ≤ m) (hm2 : m ≤ 9223372036854775807) :
    Calls Tryd.prog 91 #[.string s, .int .i64 m] w fun e w' => e = .returned (.int .i64 (Sha.number s.data.toList m)) ∧ Below w.heap.size w w' := by
  have hn : Sha.number s.data.toList m = (Sha.top s.data.toList : Int) % m := by unfold Sha.number; rw [if_neg (by omega)]
  rw [hn]
  clear hn
  have hl := top_lt s.data.toList
  have HT := Lib.hid ht
  clear ht
  generalize hvs : Sha.sum s.data.toList = vs
  have htop := sum_a _ _ hvs
  have HTOP := Lib.hid htop
  have HL := Lib.hid hl
  have HVS := Lib.hid hvs
  clear htop hl hvs
  go_enter Tryd.func91, Tryd.ntmps91
  go_wp2_with (first | (go_at_call 84; refine (sum_any _ _ hs HT.out).mono ?_; rintro e w1 ⟨rfl, hb⟩; rw [HVS.out]) | ((with_reducible refine wpList_store_any rfl 108 _ _ rfl w1.heap.size 0 (Sha.wv vs.toList) rfl rfl (there_new _ _ _ _ (by simp [Sha.wv, Sha.V.toList])) (by kernel_rfl) (Sha.wv_one _) ?_); intro w5 q1 q2 q3; have c0 := q1 0 _ rfl; have c1 := q1 1 _ rfl; have Q3 := Lib.hid q3; clear q1 q2 q3))
  go_ret
  have hsz := hb.size
  refine ⟨ret_int (num_val HTOP.out HL.out hm hm2), (hb.alloc (by omega) _).grown Q3.out (by simp; omega) (fun k hk => by cases hk; exact hsz)⟩
end Go.Proofs.YtpdbcahiipbhnaaDoor
