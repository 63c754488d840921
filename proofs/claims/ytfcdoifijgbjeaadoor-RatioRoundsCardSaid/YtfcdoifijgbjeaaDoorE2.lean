/- Layer 01: Valid. -/
import Derived.Test.YtfcdoifijgbjeaaDoorE1
import Derived.Deep.RegionHeldLaw
import Derived.StillTailTactics
namespace Go.Proofs.YtfcdoifijgbjeaaDoor
open Go.RowKit

theorem cells2_below {w w' : World} {n B : Nat} {a b : Value} (h : w.cell? ⟨n, 0, none⟩ = some a ∧ w.cell? ⟨n, 1, none⟩ = some b) (hb : Below B w w') (hn : n < B) : w'.cell? ⟨n, 0, none⟩ = some a ∧ w'.cell? ⟨n, 1, none⟩ = some b :=
  ⟨(hb.cell (p := ⟨n, 0, none⟩) hn).trans h.1, (hb.cell (p := ⟨n, 1, none⟩) hn).trans h.2⟩
theorem drewN_below (w : World) (m : Nat) : Below w.heap.size w (w.drewN m) := ⟨rfl, rfl, rfl, Nat.le_refl _, fun _ _ => rfl⟩

set_option maxHeartbeats 1000000 in
theorem Valid_d (n d : Int) (w : World) (h : d ≤ 0 ∨ (0 < d ∧ 1000000 < d)) :
    Calls Tryd.prog 15 #[.agg #[.int .i64 n, .int .i64 d]] w fun e w' => e = .returned (.bool false) ∧ Below w.heap.size w w' := by
  have c1 : (w.alloc (.cells #[.int .i64 n, .int .i64 d] 25)).cell? ⟨w.heap.size, 1, none⟩ = some (.int .i64 d) := new0 rfl rfl
  have hb0 := (Below.refl w.heap.size w).alloc (Nat.le_refl _) (.cells #[.int .i64 n, .int .i64 d] 25)
  rcases h with h | ⟨h, h2⟩
  · have hd : decide (0 < d) = false := by simp; omega
    clear h
    go_enter Tryd.func15, Tryd.ntmps15
    go_wp2_with fail
    go_quiet (fail)
    go_wp2_with fail
    go_ret
    exact ⟨rfl, by first | exact hb0 | exact ⟨hb0.os, hb0.tape, hb0.output, hb0.size, hb0.block⟩⟩
  · have hd : decide (0 < d) = true := by simp; omega
    have hd2 : decide (d ≤ 1000000) = false := by simp; omega
    clear h h2
    go_enter Tryd.func15, Tryd.ntmps15
    go_wp2_with fail
    go_quiet (fail)
    go_wp2_with fail
    go_ret
    exact ⟨rfl, by first | exact hb0 | exact ⟨hb0.os, hb0.tape, hb0.output, hb0.size, hb0.block⟩⟩

theorem mag_same (n : Int) (w : World) (h1 : -9223372036854775808 ≤ n) (h2 : n ≤ 9223372036854775807) :
    Calls Tryd.prog 38 #[.int .i64 n] w fun e w' => e = .returned (.int .u64 (n.natAbs : Nat)) ∧ w' = w := (mag_any n w h1 h2).mono fun _ _ ⟨a, b⟩ => ⟨a, b.symm⟩
set_option maxHeartbeats 1000000 in
theorem Valid_n (n d : Int) (w : World) (h : 0 < d) (h2 : d ≤ 1000000) (h3 : 1000000000000 < n.natAbs) (hn1 : -9223372036854775808 ≤ n) (hn2 : n ≤ 9223372036854775807) :
    Calls Tryd.prog 15 #[.agg #[.int .i64 n, .int .i64 d]] w fun e w' => e = .returned (.bool false) ∧ Below w.heap.size w w' := by
  have HM := Lib.hid (fun w => mag_same n w hn1 hn2)
  have hd : decide (0 < d) = true := by simp; omega
  have hd2 : decide (d ≤ 1000000) = true := by simp; omega
  have hd3 : decide (((n.natAbs : Nat) : Int) ≤ 1000000000000) = false := by simp; omega
  generalize n.natAbs = N at *
  clear h h2 h3 hn1 hn2
  have c0 : (w.alloc (.cells #[.int .i64 n, .int .i64 d] 25)).cell? ⟨w.heap.size, 0, none⟩ = some (.int .i64 n) := new0 rfl rfl
  have c1 : (w.alloc (.cells #[.int .i64 n, .int .i64 d] 25)).cell? ⟨w.heap.size, 1, none⟩ = some (.int .i64 d) := new0 rfl rfl
  have hb0 := (Below.refl w.heap.size w).alloc (Nat.le_refl _) (.cells #[.int .i64 n, .int .i64 d] 25)
  go_enter Tryd.func15, Tryd.ntmps15
  go_wp2_with fail
  go_quiet ((go_at_call 38; exact Calls.quiet_of_same (HM.out _)))
  go_wp2_with fail
  go_ret
  exact ⟨rfl, by first | exact hb0 | exact ⟨hb0.os, hb0.tape, hb0.output, hb0.size, hb0.block⟩⟩

set_option maxHeartbeats 1000000 in
theorem Valid_in (n d : Int) (N D : Nat) (v : Bool) (w : World) (h : 0 < d) (h2 : d ≤ 1000000) (h3 : N ≤ 1000000000000) (hD : D ≤ 1000000)
    (hN : ∀ w, Calls Tryd.prog 38 #[.int .i64 n] w fun e w' => e = .returned (.int .u64 N) ∧ w' = w)
    (hDc : ∀ w, Calls Tryd.prog 38 #[.int .i64 d] w fun e w' => e = .returned (.int .u64 D) ∧ w' = w)
    (hv : (((Nat.gcd N D : Nat) : Int) == 1) = v) :
    Calls Tryd.prog 15 #[.agg #[.int .i64 n, .int .i64 d]] w fun e w' => e = .returned (.bool v) ∧ Below w.heap.size w w' := by
  have HN := Lib.hid hN
  have HD := Lib.hid hDc
  have HC := Lib.hid (fun a b w => common_any N D a b w (by omega) (by omega))
  have HV := Lib.hid hv
  generalize Nat.gcd N D = g at *
  clear hN hDc hv
  have hd : decide (0 < d) = true := by simp; omega
  have hd2 : decide (d ≤ 1000000) = true := by simp; omega
  have hd3 : decide (((N : Nat) : Int) ≤ 1000000000000) = true := by simp; omega
  clear h h2 h3 hD
  have c0 : (w.alloc (.cells #[.int .i64 n, .int .i64 d] 25)).cell? ⟨w.heap.size, 0, none⟩ = some (.int .i64 n) := new0 rfl rfl
  have c1 : (w.alloc (.cells #[.int .i64 n, .int .i64 d] 25)).cell? ⟨w.heap.size, 1, none⟩ = some (.int .i64 d) := new0 rfl rfl
  have hb0 := (Below.refl w.heap.size w).alloc (Nat.le_refl _) (.cells #[.int .i64 n, .int .i64 d] 25)
  have hs0 : w.heap.size < (w.alloc (.cells #[.int .i64 n, .int .i64 d] 25)).heap.size := by simp
  go_enter Tryd.func15, Tryd.ntmps15
  go_wp2_with fail
  generalize w.alloc (.cells #[.int .i64 n, .int .i64 d] 25) = w0 at *
  generalize hn0 : w.heap.size = n0 at *
  have HN0 := Lib.hid hn0
  clear hn0
  go_region_held_law (fun w' => w'.cell? ⟨n0, 0, none⟩ = some (.int .i64 n) ∧ w'.cell? ⟨n0, 1, none⟩ = some (.int .i64 d)) (first | (go_keep; done)) (first | (go_at_call_of 38 (Value.int .i64 n); refine (HN.out _).mono ?_; rintro e wa ⟨rfl, rfl⟩) | (go_at_call_of 38 (Value.int .i64 d); refine (HD.out _).mono ?_; rintro e wa ⟨rfl, rfl⟩) | (go_at_call 39; refine (HC.out _ _ _ (by exact new0 rfl rfl) (by exact new0 rfl rfl)).mono ?_; rintro e wc ⟨rfl, mc, rfl⟩))
  have hb1 := hb0.alloc (Nat.le_of_lt hs0) (.cells #[.int .u64 N, .int .u64 D] 29)
  go_wp2_with fail
  go_ret
  exact ⟨by rw [← HV.out]; rfl, by rw [HN0.out]; exact ⟨hb1.os, hb1.tape, hb1.output, hb1.size, hb1.block⟩⟩

/-- Valid, at every pair of integers. -/
theorem Valid_any (n d : Int) (w : World) (hn1 : -9223372036854775808 ≤ n) (hn2 : n ≤ 9223372036854775807) (hd1 : -9223372036854775808 ≤ d) (hd2 : d ≤ 9223372036854775807) :
    Calls Tryd.prog 15 #[.agg #[.int .i64 n, .int .i64 d]] w fun e w' => e = .returned (.bool (vld n d)) ∧ Below w.heap.size w w' := by
  rw [vld_eq]
  by_cases h1 : d ≤ 0 ∨ (0 < d ∧ 1000000 < d)
  · rw [decide_eq_false (by omega)]; exact Valid_d n d w h1
  · by_cases h2 : 1000000000000 < n.natAbs
    · rw [decide_eq_false (by omega)]; exact Valid_n n d w (by omega) (by omega) h2 hn1 hn2
    · refine Valid_in n d n.natAbs d.toNat _ w (by omega) (by omega) (by omega) (by omega) (fun w => mag_same n w hn1 hn2) (fun w => ?_) ?_
      · have h := mag_same d w hd1 hd2
        rwa [show d.natAbs = d.toNat by omega] at h
      · by_cases e : Nat.gcd n.natAbs d.toNat = 1
        · rw [decide_eq_true ⟨by omega, by omega, by omega, e⟩, e]; rfl
        · rw [decide_eq_false (fun h => e h.2.2.2)]; simp; omega
end Go.Proofs.YtfcdoifijgbjeaaDoor
