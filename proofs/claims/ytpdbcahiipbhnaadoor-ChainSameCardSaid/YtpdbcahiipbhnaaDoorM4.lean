/- Layer 31: the rules of chain.Check. -/
import Derived.Test.YtpdbcahiipbhnaaDoorM3
namespace Go.Proofs.YtpdbcahiipbhnaaDoor
open Go.RowKit

set_option maxHeartbeats 1000000 in
theorem rule1 (n m : Nat) (i : Int) (h q d : Int) (p b : ByteArray) (r s : Int) (v : Bool) (w : World) (hi : i < 4000) (hb : b.size ≤ 40000) (ci : w.cell? ⟨n, 0, none⟩ = some (.int .i64 i)) (c : At7 w m h q d p b r s) (hv : decide (b.size ≤ 2000) = v) :
    Calls Tryd.prog 68 #[.pointer (some ⟨n, 0, none⟩), .pointer (some ⟨m, 0, none⟩)] w fun e w' => e = .returned (.bool v) ∧ w = w' := by
  obtain ⟨c0, c1, c2, c3, c4, c5, c6⟩ := c
  subst hv
  clear c0 c1 c2 c3 c5 c6
  have k1 : (i : Int) < 4000 := hi
  have k2 : ((b.size : Int) ≤ 2000) ↔ b.size ≤ 2000 := by omega
  go_enter Tryd.func68, Tryd.ntmps68
  go_wp2_with fail
  go_ret
  refine ⟨?_, rfl⟩
  first | rfl | simp [*]
theorem bool_ret {a b : Bool} (h : a = b) : Ending.returned (.bool a) = .returned (.bool b) := by rw [h]
set_option maxHeartbeats 1000000 in
theorem rule2 (n m k : Nat) (i ho : Int) (h q d : Int) (p b : ByteArray) (r s : Int) (v : Bool) (w : World) (ci : w.cell? ⟨n, 0, none⟩ = some (.int .i64 i)) (ck : w.cell? ⟨k, 0, none⟩ = some (.int .i64 ho)) (c : At7 w m h q d p b r s) (hv : (decide (h = ho) && decide (q = i) && decide (0 ≤ d) && decide (d ≤ 2000)) = v) :
    Calls Tryd.prog 69 #[.pointer (some ⟨m, 0, none⟩), .pointer (some ⟨k, 0, none⟩), .pointer (some ⟨n, 0, none⟩)] w fun e w' => e = .returned (.bool v) ∧ w = w' := by
  obtain ⟨c0, c1, c2, c3, c4, c5, c6⟩ := c
  have HV := Lib.hid hv
  clear c3 c4 c5 c6 hv
  go_enter Tryd.func69, Tryd.ntmps69
  go_wp2_with fail
  all_goals
    go_ret
    refine ⟨?_, rfl⟩
    rw [← HV.out]
    first | rfl | (refine bool_ret ?_; simp [*]; done) | (refine bool_ret ?_; simp [*]; omega)
set_option maxHeartbeats 1000000 in
theorem rule3 (m k : Nat) (bd : Int) (h q d : Int) (p b : ByteArray) (r s : Int) (v : Bool) (w : World) (ck : w.cell? ⟨k, 2, none⟩ = some (.int .i64 bd)) (c : At7 w m h q d p b r s) (hv : decide (bd ≤ d) = v) :
    Calls Tryd.prog 70 #[.pointer (some ⟨m, 0, none⟩), .pointer (some ⟨k, 0, none⟩)] w fun e w' => e = .returned (.bool v) ∧ w = w' := by
  obtain ⟨c0, c1, c2, c3, c4, c5, c6⟩ := c
  subst hv
  clear c0 c1 c3 c4 c5 c6
  go_enter Tryd.func70, Tryd.ntmps70
  go_wp2_with fail
  go_ret
  exact ⟨rfl, rfl⟩
set_option maxHeartbeats 1000000 in
theorem rule4 (m k l : Nat) (pv : ByteArray) (y : Int) (h q d : Int) (p b : ByteArray) (r s : Int) (v : Bool) (w : World) (hh : I64 h) (hq : I64 q) (hd : I64 d) (hp : p.size ≤ 40000) (hb : b.size ≤ 40000) (ck : w.cell? ⟨k, 0, none⟩ = some (.string pv)) (cl : w.cell? ⟨l, 0, none⟩ = some (.int .i64 y)) (c : At7 w m h q d p b r s) (ht : Tabs w) (hv : (decide (p = pv) && sgdE y h q d p b r s) = v) :
    Calls Tryd.prog 71 #[.pointer (some ⟨m, 0, none⟩), .pointer (some ⟨k, 0, none⟩), .pointer (some ⟨l, 0, none⟩)] w fun e w' => e = .returned (.bool v) ∧ Below w.heap.size w w' := by
  obtain ⟨c0, c1, c2, c3, c4, c5, c6⟩ := c
  have HS := Lib.hid (fun w ht => signed_raw y h q d p b r s w hh hq hd hp hb ht)
  have HV := Lib.hid hv
  have HT := Lib.hid ht
  clear hv hh hq hd hp hb ht
  by_cases hpv : p = pv
  · subst hpv
    generalize sgdE y h q d p b r s = g at *
    go_enter Tryd.func71, Tryd.ntmps71
    go_wp2_with fail
    refine (HS.out _ HT.out).mono ?_
    rintro e w1 ⟨rfl, hb⟩
    have HB := Lib.hid hb
    clear hb
    go_wp2_with fail
    go_ret
    exact ⟨by rw [← HV.out]; first | rfl | exact bool_ret (by simp), HB.out⟩
  · have k1 : (p.toList == pv.toList) = false := by
      rw [beq_eq_false_iff_ne]
      intro h
      apply hpv
      rw [Lib.toList_data, Lib.toList_data] at h
      exact ByteArray.ext (Array.toList_inj.1 h)
    have HN := Lib.hid hpv
    clear hpv
    go_enter Tryd.func71, Tryd.ntmps71
    go_wp2_with fail
    go_ret
    exact ⟨by rw [← HV.out]; first | rfl | exact bool_ret (by simp [HN.out]), Below.refl _ _⟩
end Go.Proofs.YtpdbcahiipbhnaaDoor
