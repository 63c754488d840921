/- Layer 01: Make. -/
import Derived.Test.YtfcdoifijgbjeaaDoorE3
namespace Go.Proofs.YtfcdoifijgbjeaaDoor
open Go.RowKit

set_option maxHeartbeats 1000000 in
theorem Make_zero (n : Int) (w : World) :
    Calls Tryd.prog 13 #[.int .i64 n, .int .i64 0] w fun e w' => e = .returned (.tuple #[.agg #[.int .i64 0, .int .i64 0], .int .i64 1]) ∧ Below w.heap.size w w' := by
  go_enter Tryd.func13, Tryd.ntmps13
  go_wp2_with fail
  exact bodyPost_ret (results_cell_tmp_mid Tryd.results13 _ _ w.heap.size 0 [.int .i64 0, .int .i64 0] _ rfl (rangeAt_new w #[.int .i64 0, .int .i64 0] 25) Tryd.underlying25 rfl (by kernel_rfl)) rfl ⟨rfl, (Below.refl _ _).alloc (Nat.le_refl _) _⟩

set_option maxHeartbeats 1000000 in
theorem Make_in (n d a b e : Int) (N D : Nat) (w : World) (h0 : d ≠ 0)
    (hN : ∀ w, Calls Tryd.prog 38 #[.int .i64 n] w fun e w' => e = .returned (.int .u64 N) ∧ w' = w)
    (hD : ∀ w, Calls Tryd.prog 38 #[.int .i64 d] w fun e w' => e = .returned (.int .u64 D) ∧ w' = w)
    (hR : ∀ w, Calls Tryd.prog 37 #[.bool (decide (n < 0) != decide (d < 0)), .int .u64 N, .int .u64 D] w fun e' w' => e' = .returned (.tuple #[.agg #[.int .i64 a, .int .i64 b], .int .i64 e]) ∧ Below w.heap.size w w') :
    Calls Tryd.prog 13 #[.int .i64 n, .int .i64 d] w fun e' w' => e' = .returned (.tuple #[.agg #[.int .i64 a, .int .i64 b], .int .i64 e]) ∧ Below w.heap.size w w' := by
  have HN := Lib.hid hN
  have HD := Lib.hid hD
  have HR := Lib.hid hR
  have hd : (d == 0) = false := by simp [h0]
  clear hN hD hR h0
  go_enter Tryd.func13, Tryd.ntmps13
  go_wp2_with fail
  have ht0 := there_new w #[.int .i64 0, .int .i64 0] 25 2 (by simp)
  have hb0 := (Below.refl w.heap.size w).alloc (Nat.le_refl _) (.cells #[.int .i64 0, .int .i64 0] 25)
  have hs0 : w.heap.size < (w.alloc (.cells #[.int .i64 0, .int .i64 0] 25)).heap.size := by simp
  generalize w.alloc (.cells #[.int .i64 0, .int .i64 0] 25) = w1 at *
  refine (HN.out _).mono ?_
  rintro e w2 ⟨rfl, rfl⟩
  go_wp2_with fail
  refine (HD.out _).mono ?_
  rintro e w2 ⟨rfl, rfl⟩
  go_wp2_with fail
  refine (HR.out _).mono ?_
  rintro e w2 ⟨rfl, hb2⟩
  have ht3 := there_below ht0 hb2 hs0
  have hb3 := hb0.trans (hb2.mono (Nat.le_of_lt hs0))
  clear ht0 hb0 hb2 hs0
  have c0 := there_cell ht3 0 (by omega)
  have c1 := there_cell ht3 1 (by omega)
  have k0 := (ht3 0 (by omega)).2
  have k1 := (ht3 1 (by omega)).2
  rw [Nat.zero_add] at c0 c1 k0 k1
  have hr3 : w2.rangeAt w.heap.size 0 [valAt w2 ⟨w.heap.size, 0, none⟩, valAt w2 ⟨w.heap.size, 1, none⟩] := fun j u hj => by
    match j, hj with
    | 0, hj => simp at hj; subst hj; simpa using c0
    | 1, hj => simp at hj; subst hj; simpa using c1
  have HR4 := Lib.hid (rangeAt_set (rangeAt_set hr3 0 (.int .i64 a)) 1 (.int .i64 b))
  have HB4 := Lib.hid ((hb3.setCell (p := ⟨w.heap.size, 0, none⟩) (Nat.le_refl _) (.int .i64 a)).setCell (p := ⟨w.heap.size, 1, none⟩) (Nat.le_refl _) (.int .i64 b))
  clear hr3 ht3 hb3
  go_wp2_with fail
  exact bodyPost_ret (results_cell_tmp_mid Tryd.results13 _ _ w.heap.size 0 [.int .i64 a, .int .i64 b] _ rfl HR4.out Tryd.underlying25 rfl (by kernel_rfl)) rfl ⟨rfl, HB4.out⟩

/-- Make, at every pair of integers with a denominator other than 0. -/
theorem Make_any (n d : Int) (w : World) (h0 : d ≠ 0) (hn1 : -9223372036854775808 ≤ n) (hn2 : n ≤ 9223372036854775807) (hd1 : -9223372036854775808 ≤ d) (hd2 : d ≤ 9223372036854775807) :
    Calls Tryd.prog 13 #[.int .i64 n, .int .i64 d] w fun e w' =>
      e = .returned (.tuple #[.agg #[.int .i64 (resN (Rat.divInt n d)), .int .i64 (resD (Rat.divInt n d))], .int .i64 (resE (Rat.divInt n d))]) ∧ Below w.heap.size w w' :=
  Make_in n d _ _ _ n.natAbs d.natAbs w h0 (fun w => mag_same n w hn1 hn2) (fun w => mag_same d w hd1 hd2) (fun w => reduced_any n d _ _ _ w (by omega) (by omega) h0 rfl rfl (.inr rfl))
end Go.Proofs.YtfcdoifijgbjeaaDoor
