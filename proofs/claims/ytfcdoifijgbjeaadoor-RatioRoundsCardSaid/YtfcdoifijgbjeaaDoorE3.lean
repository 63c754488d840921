/- Layer 01: reduced, Make. -/
import Derived.Test.YtfcdoifijgbjeaaDoorE2
namespace Go.Proofs.YtfcdoifijgbjeaaDoor
open Go.RowKit

theorem results_cell_tmp_mid {P : Program} {fn : Func} {p u : Tmp} {ty : TypeId} (h : fn.results = #[.cell p ty, .tmp u]) (tmps : Array Value) (w : World) (b o : Nat) (cs : List Value) (d : TypeDesc)
    (hp : tmps.getD p undef = .pointer (some ⟨b, o, none⟩)) (hc : w.rangeAt b o cs) (hu : P.underlying ty = some d) (hd : d.isRow = true) (hi : (P.info? ty).map (·.size) = some cs.length) :
    (results fn tmps).run P w = .ok (.tuple #[.agg cs.toArray, tmps.getD u undef]) w := by
  have hp' : tmps[p]?.getD undef = .pointer (some ⟨b, o, none⟩) := by simpa using hp
  rw [results_cell_tmp h]
  simp [hp', asAddr, run_loadVar_mid w b o ty cs d hc hu hd hi]

set_option maxHeartbeats 1000000 in
theorem reduced_a (m : Bool) (N D : Nat) (w : World) (hN : N < 18446744073709551616) (hD : D < 18446744073709551616) (h0 : D ≠ 0) (h : 1000000000000 < N / Nat.gcd N D) :
    Calls Tryd.prog 37 #[.bool m, .int .u64 N, .int .u64 D] w fun e w' => e = .returned (.tuple #[.agg #[.int .i64 0, .int .i64 0], .int .i64 2]) ∧ Below w.heap.size w w' := by
  have HC := Lib.hid (fun a b w => common_any N D a b w hN hD)
  have hg : 0 < Nat.gcd N D := Nat.gcd_pos_of_pos_right _ (by omega)
  have q1 : N / Nat.gcd N D ≤ N := Nat.div_le_self _ _
  have q2 : D / Nat.gcd N D ≤ D := Nat.div_le_self _ _
  generalize Nat.gcd N D = g at *
  have f1 : (N : Int).tdiv (g : Int) = ((N / g : Nat) : Int) := by rw [Int.tdiv_eq_ediv_of_nonneg (by omega)]; rfl
  have f2 : (D : Int).tdiv (g : Int) = ((D / g : Nat) : Int) := by rw [Int.tdiv_eq_ediv_of_nonneg (by omega)]; rfl
  have f1' : (N : Int) / (g : Int) = ((N / g : Nat) : Int) := rfl
  have f2' : (D : Int) / (g : Int) = ((D / g : Nat) : Int) := rfl
  have f5 : ((g : Int) == 0) = false := by simp; omega
  have f6 : ¬ g = 0 := by omega
  have f7 : ¬ (g : Int) = 0 := by omega
  generalize N / g = q at *
  generalize D / g = r at *
  have f3 : IntKind.u64.wrap (q : Int) = q := wrap_u64_in (by omega) (by omega)
  have f4 : IntKind.u64.wrap (r : Int) = r := wrap_u64_in (by omega) (by omega)
  have g1 : 1000000000000 < (q : Int) := by omega
  clear h
  clear hN hD h0 hg q1 q2
  go_enter Tryd.func37, Tryd.ntmps37
  go_wp2_with fail
  have hr0 := rangeAt_new w #[.int .i64 0, .int .i64 0] 25
  have ht0 := there_new w #[.int .i64 0, .int .i64 0] 25 2 (by simp)
  have hb0 := (Below.refl w.heap.size w).alloc (Nat.le_refl _) (.cells #[.int .i64 0, .int .i64 0] 25)
  have hs0 : w.heap.size < (w.alloc (.cells #[.int .i64 0, .int .i64 0] 25)).heap.size := by simp
  have hz0 : (w.alloc (.cells #[.int .i64 0, .int .i64 0] 25)).heap.size = w.heap.size + 1 := by simp
  generalize w.alloc (.cells #[.int .i64 0, .int .i64 0] 25) = w1 at *
  rw [← hz0]
  have HZ0 := Lib.hid hz0
  clear hz0
  refine (HC.out _ _ _ (by exact new0 rfl rfl) (by exact new0 rfl rfl)).mono ?_
  rintro e w2 ⟨rfl, mc, hw2⟩
  have hb2 : Below w1.heap.size w1 w2 := by
    have hx := (Below.refl w1.heap.size w1).alloc (Nat.le_refl _) (.cells #[.int .u64 N, .int .u64 D] 29)
    rw [hw2]; exact ⟨hx.os, hx.tape, hx.output, hx.size, hx.block⟩
  have HR2 := Lib.hid (rangeAt_below hr0 hb2 hs0)
  have HT2 := Lib.hid (there_below ht0 hb2 hs0)
  have HB2 := Lib.hid (hb0.trans (hb2.mono (Nat.le_of_lt hs0)))
  clear hw2 hr0 ht0 hb0 hb2 hs0 HZ0
  go_wp2_with fail
  go_quiet (fail)
  have hr3 : (w2.drewN nq).rangeAt w.heap.size 0 [.int .i64 0, .int .i64 0] := HR2.out
  have ht3 : (w2.drewN nq).there w.heap.size 0 2 := HT2.out
  have hb3 : Below w.heap.size w (w2.drewN nq) := ⟨HB2.out.os, HB2.out.tape, HB2.out.output, HB2.out.size, HB2.out.block⟩
  generalize w2.drewN nq = w3 at *
  have c0 := there_cell ht3 0 (by omega)
  have c1 := there_cell ht3 1 (by omega)
  have k0 := (ht3 0 (by omega)).2
  have k1 := (ht3 1 (by omega)).2
  rw [Nat.zero_add] at c0 c1 k0 k1
  have HR4 := Lib.hid (rangeAt_set (rangeAt_set hr3 0 (.int .i64 0)) 1 (.int .i64 0))
  have HB4 := Lib.hid ((hb3.setCell (p := ⟨w.heap.size, 0, none⟩) (Nat.le_refl _) (.int .i64 0)).setCell (p := ⟨w.heap.size, 1, none⟩) (Nat.le_refl _) (.int .i64 0))
  clear hr3 ht3 hb3
  go_wp2_with fail
  exact bodyPost_ret (results_cell_tmp_mid Tryd.results37 _ _ w.heap.size 0 [.int .i64 0, .int .i64 0] _ rfl HR4.out Tryd.underlying25 rfl (by kernel_rfl)) rfl ⟨rfl, HB4.out⟩
set_option maxHeartbeats 1000000 in
theorem reduced_b (m : Bool) (N D : Nat) (w : World) (hN : N < 18446744073709551616) (hD : D < 18446744073709551616) (h0 : D ≠ 0) (h : N / Nat.gcd N D ≤ 1000000000000) (h2 : 1000000 < D / Nat.gcd N D) :
    Calls Tryd.prog 37 #[.bool m, .int .u64 N, .int .u64 D] w fun e w' => e = .returned (.tuple #[.agg #[.int .i64 0, .int .i64 0], .int .i64 2]) ∧ Below w.heap.size w w' := by
  have HC := Lib.hid (fun a b w => common_any N D a b w hN hD)
  have hg : 0 < Nat.gcd N D := Nat.gcd_pos_of_pos_right _ (by omega)
  have q1 : N / Nat.gcd N D ≤ N := Nat.div_le_self _ _
  have q2 : D / Nat.gcd N D ≤ D := Nat.div_le_self _ _
  generalize Nat.gcd N D = g at *
  have f1 : (N : Int).tdiv (g : Int) = ((N / g : Nat) : Int) := by rw [Int.tdiv_eq_ediv_of_nonneg (by omega)]; rfl
  have f2 : (D : Int).tdiv (g : Int) = ((D / g : Nat) : Int) := by rw [Int.tdiv_eq_ediv_of_nonneg (by omega)]; rfl
  have f1' : (N : Int) / (g : Int) = ((N / g : Nat) : Int) := rfl
  have f2' : (D : Int) / (g : Int) = ((D / g : Nat) : Int) := rfl
  have f5 : ((g : Int) == 0) = false := by simp; omega
  have f6 : ¬ g = 0 := by omega
  have f7 : ¬ (g : Int) = 0 := by omega
  generalize N / g = q at *
  generalize D / g = r at *
  have f3 : IntKind.u64.wrap (q : Int) = q := wrap_u64_in (by omega) (by omega)
  have f4 : IntKind.u64.wrap (r : Int) = r := wrap_u64_in (by omega) (by omega)
  have g1 : (q : Int) ≤ 1000000000000 := by omega
  have g2 : 1000000 < (r : Int) := by omega
  clear h h2
  clear hN hD h0 hg q1 q2
  go_enter Tryd.func37, Tryd.ntmps37
  go_wp2_with fail
  have hr0 := rangeAt_new w #[.int .i64 0, .int .i64 0] 25
  have ht0 := there_new w #[.int .i64 0, .int .i64 0] 25 2 (by simp)
  have hb0 := (Below.refl w.heap.size w).alloc (Nat.le_refl _) (.cells #[.int .i64 0, .int .i64 0] 25)
  have hs0 : w.heap.size < (w.alloc (.cells #[.int .i64 0, .int .i64 0] 25)).heap.size := by simp
  have hz0 : (w.alloc (.cells #[.int .i64 0, .int .i64 0] 25)).heap.size = w.heap.size + 1 := by simp
  generalize w.alloc (.cells #[.int .i64 0, .int .i64 0] 25) = w1 at *
  rw [← hz0]
  have HZ0 := Lib.hid hz0
  clear hz0
  refine (HC.out _ _ _ (by exact new0 rfl rfl) (by exact new0 rfl rfl)).mono ?_
  rintro e w2 ⟨rfl, mc, hw2⟩
  have hb2 : Below w1.heap.size w1 w2 := by
    have hx := (Below.refl w1.heap.size w1).alloc (Nat.le_refl _) (.cells #[.int .u64 N, .int .u64 D] 29)
    rw [hw2]; exact ⟨hx.os, hx.tape, hx.output, hx.size, hx.block⟩
  have HR2 := Lib.hid (rangeAt_below hr0 hb2 hs0)
  have HT2 := Lib.hid (there_below ht0 hb2 hs0)
  have HB2 := Lib.hid (hb0.trans (hb2.mono (Nat.le_of_lt hs0)))
  clear hw2 hr0 ht0 hb0 hb2 hs0 HZ0
  go_wp2_with fail
  go_quiet (fail)
  have hr3 : (w2.drewN nq).rangeAt w.heap.size 0 [.int .i64 0, .int .i64 0] := HR2.out
  have ht3 : (w2.drewN nq).there w.heap.size 0 2 := HT2.out
  have hb3 : Below w.heap.size w (w2.drewN nq) := ⟨HB2.out.os, HB2.out.tape, HB2.out.output, HB2.out.size, HB2.out.block⟩
  generalize w2.drewN nq = w3 at *
  have c0 := there_cell ht3 0 (by omega)
  have c1 := there_cell ht3 1 (by omega)
  have k0 := (ht3 0 (by omega)).2
  have k1 := (ht3 1 (by omega)).2
  rw [Nat.zero_add] at c0 c1 k0 k1
  have HR4 := Lib.hid (rangeAt_set (rangeAt_set hr3 0 (.int .i64 0)) 1 (.int .i64 0))
  have HB4 := Lib.hid ((hb3.setCell (p := ⟨w.heap.size, 0, none⟩) (Nat.le_refl _) (.int .i64 0)).setCell (p := ⟨w.heap.size, 1, none⟩) (Nat.le_refl _) (.int .i64 0))
  clear hr3 ht3 hb3
  go_wp2_with fail
  exact bodyPost_ret (results_cell_tmp_mid Tryd.results37 _ _ w.heap.size 0 [.int .i64 0, .int .i64 0] _ rfl HR4.out Tryd.underlying25 rfl (by kernel_rfl)) rfl ⟨rfl, HB4.out⟩
set_option maxHeartbeats 1000000 in
theorem reduced_m (N D : Nat) (w : World) (hN : N < 18446744073709551616) (hD : D < 18446744073709551616) (h0 : D ≠ 0) (h : N / Nat.gcd N D ≤ 1000000000000) (h2 : D / Nat.gcd N D ≤ 1000000) :
    Calls Tryd.prog 37 #[.bool true, .int .u64 N, .int .u64 D] w fun e w' => e = .returned (.tuple #[.agg #[.int .i64 (-((N / Nat.gcd N D : Nat) : Int)), .int .i64 ((D / Nat.gcd N D : Nat) : Int)], .int .i64 0]) ∧ Below w.heap.size w w' := by
  have HC := Lib.hid (fun a b w => common_any N D a b w hN hD)
  have hg : 0 < Nat.gcd N D := Nat.gcd_pos_of_pos_right _ (by omega)
  have q1 : N / Nat.gcd N D ≤ N := Nat.div_le_self _ _
  have q2 : D / Nat.gcd N D ≤ D := Nat.div_le_self _ _
  generalize Nat.gcd N D = g at *
  have f1 : (N : Int).tdiv (g : Int) = ((N / g : Nat) : Int) := by rw [Int.tdiv_eq_ediv_of_nonneg (by omega)]; rfl
  have f2 : (D : Int).tdiv (g : Int) = ((D / g : Nat) : Int) := by rw [Int.tdiv_eq_ediv_of_nonneg (by omega)]; rfl
  have f1' : (N : Int) / (g : Int) = ((N / g : Nat) : Int) := rfl
  have f2' : (D : Int) / (g : Int) = ((D / g : Nat) : Int) := rfl
  have f5 : ((g : Int) == 0) = false := by simp; omega
  have f6 : ¬ g = 0 := by omega
  have f7 : ¬ (g : Int) = 0 := by omega
  generalize N / g = q at *
  generalize D / g = r at *
  have f3 : IntKind.u64.wrap (q : Int) = q := wrap_u64_in (by omega) (by omega)
  have f4 : IntKind.u64.wrap (r : Int) = r := wrap_u64_in (by omega) (by omega)
  have g1 : (q : Int) ≤ 1000000000000 := by omega
  have g2 : (r : Int) ≤ 1000000 := by omega
  clear h h2
  clear hN hD h0 hg q1 q2
  go_enter Tryd.func37, Tryd.ntmps37
  go_wp2_with fail
  have hr0 := rangeAt_new w #[.int .i64 0, .int .i64 0] 25
  have ht0 := there_new w #[.int .i64 0, .int .i64 0] 25 2 (by simp)
  have hb0 := (Below.refl w.heap.size w).alloc (Nat.le_refl _) (.cells #[.int .i64 0, .int .i64 0] 25)
  have hs0 : w.heap.size < (w.alloc (.cells #[.int .i64 0, .int .i64 0] 25)).heap.size := by simp
  have hz0 : (w.alloc (.cells #[.int .i64 0, .int .i64 0] 25)).heap.size = w.heap.size + 1 := by simp
  generalize w.alloc (.cells #[.int .i64 0, .int .i64 0] 25) = w1 at *
  rw [← hz0]
  have HZ0 := Lib.hid hz0
  clear hz0
  refine (HC.out _ _ _ (by exact new0 rfl rfl) (by exact new0 rfl rfl)).mono ?_
  rintro e w2 ⟨rfl, mc, hw2⟩
  have hb2 : Below w1.heap.size w1 w2 := by
    have hx := (Below.refl w1.heap.size w1).alloc (Nat.le_refl _) (.cells #[.int .u64 N, .int .u64 D] 29)
    rw [hw2]; exact ⟨hx.os, hx.tape, hx.output, hx.size, hx.block⟩
  have HR2 := Lib.hid (rangeAt_below hr0 hb2 hs0)
  have HT2 := Lib.hid (there_below ht0 hb2 hs0)
  have HB2 := Lib.hid (hb0.trans (hb2.mono (Nat.le_of_lt hs0)))
  clear hw2 hr0 ht0 hb0 hb2 hs0 HZ0
  go_wp2_with fail
  go_quiet (fail)
  have hr3 : (w2.drewN nq).rangeAt w.heap.size 0 [.int .i64 0, .int .i64 0] := HR2.out
  have ht3 : (w2.drewN nq).there w.heap.size 0 2 := HT2.out
  have hb3 : Below w.heap.size w (w2.drewN nq) := ⟨HB2.out.os, HB2.out.tape, HB2.out.output, HB2.out.size, HB2.out.block⟩
  generalize w2.drewN nq = w3 at *
  have c0 := there_cell ht3 0 (by omega)
  have c1 := there_cell ht3 1 (by omega)
  have k0 := (ht3 0 (by omega)).2
  have k1 := (ht3 1 (by omega)).2
  rw [Nat.zero_add] at c0 c1 k0 k1
  have HR4 := Lib.hid (rangeAt_set (rangeAt_set hr3 0 (.int .i64 (-(q : Int)))) 1 (.int .i64 (r : Int)))
  have HB4 := Lib.hid ((hb3.setCell (p := ⟨w.heap.size, 0, none⟩) (Nat.le_refl _) (.int .i64 (-(q : Int)))).setCell (p := ⟨w.heap.size, 1, none⟩) (Nat.le_refl _) (.int .i64 (r : Int)))
  clear hr3 ht3 hb3
  go_wp2_with fail
  exact bodyPost_ret (results_cell_tmp_mid Tryd.results37 _ _ w.heap.size 0 [.int .i64 (-(q : Int)), .int .i64 (r : Int)] _ rfl HR4.out Tryd.underlying25 rfl (by kernel_rfl)) rfl ⟨rfl, HB4.out⟩
set_option maxHeartbeats 1000000 in
theorem reduced_p (N D : Nat) (w : World) (hN : N < 18446744073709551616) (hD : D < 18446744073709551616) (h0 : D ≠ 0) (h : N / Nat.gcd N D ≤ 1000000000000) (h2 : D / Nat.gcd N D ≤ 1000000) :
    Calls Tryd.prog 37 #[.bool false, .int .u64 N, .int .u64 D] w fun e w' => e = .returned (.tuple #[.agg #[.int .i64 ((N / Nat.gcd N D : Nat) : Int), .int .i64 ((D / Nat.gcd N D : Nat) : Int)], .int .i64 0]) ∧ Below w.heap.size w w' := by
  have HC := Lib.hid (fun a b w => common_any N D a b w hN hD)
  have hg : 0 < Nat.gcd N D := Nat.gcd_pos_of_pos_right _ (by omega)
  have q1 : N / Nat.gcd N D ≤ N := Nat.div_le_self _ _
  have q2 : D / Nat.gcd N D ≤ D := Nat.div_le_self _ _
  generalize Nat.gcd N D = g at *
  have f1 : (N : Int).tdiv (g : Int) = ((N / g : Nat) : Int) := by rw [Int.tdiv_eq_ediv_of_nonneg (by omega)]; rfl
  have f2 : (D : Int).tdiv (g : Int) = ((D / g : Nat) : Int) := by rw [Int.tdiv_eq_ediv_of_nonneg (by omega)]; rfl
  have f1' : (N : Int) / (g : Int) = ((N / g : Nat) : Int) := rfl
  have f2' : (D : Int) / (g : Int) = ((D / g : Nat) : Int) := rfl
  have f5 : ((g : Int) == 0) = false := by simp; omega
  have f6 : ¬ g = 0 := by omega
  have f7 : ¬ (g : Int) = 0 := by omega
  generalize N / g = q at *
  generalize D / g = r at *
  have f3 : IntKind.u64.wrap (q : Int) = q := wrap_u64_in (by omega) (by omega)
  have f4 : IntKind.u64.wrap (r : Int) = r := wrap_u64_in (by omega) (by omega)
  have g1 : (q : Int) ≤ 1000000000000 := by omega
  have g2 : (r : Int) ≤ 1000000 := by omega
  clear h h2
  clear hN hD h0 hg q1 q2
  go_enter Tryd.func37, Tryd.ntmps37
  go_wp2_with fail
  have hr0 := rangeAt_new w #[.int .i64 0, .int .i64 0] 25
  have ht0 := there_new w #[.int .i64 0, .int .i64 0] 25 2 (by simp)
  have hb0 := (Below.refl w.heap.size w).alloc (Nat.le_refl _) (.cells #[.int .i64 0, .int .i64 0] 25)
  have hs0 : w.heap.size < (w.alloc (.cells #[.int .i64 0, .int .i64 0] 25)).heap.size := by simp
  have hz0 : (w.alloc (.cells #[.int .i64 0, .int .i64 0] 25)).heap.size = w.heap.size + 1 := by simp
  generalize w.alloc (.cells #[.int .i64 0, .int .i64 0] 25) = w1 at *
  rw [← hz0]
  have HZ0 := Lib.hid hz0
  clear hz0
  refine (HC.out _ _ _ (by exact new0 rfl rfl) (by exact new0 rfl rfl)).mono ?_
  rintro e w2 ⟨rfl, mc, hw2⟩
  have hb2 : Below w1.heap.size w1 w2 := by
    have hx := (Below.refl w1.heap.size w1).alloc (Nat.le_refl _) (.cells #[.int .u64 N, .int .u64 D] 29)
    rw [hw2]; exact ⟨hx.os, hx.tape, hx.output, hx.size, hx.block⟩
  have HR2 := Lib.hid (rangeAt_below hr0 hb2 hs0)
  have HT2 := Lib.hid (there_below ht0 hb2 hs0)
  have HB2 := Lib.hid (hb0.trans (hb2.mono (Nat.le_of_lt hs0)))
  clear hw2 hr0 ht0 hb0 hb2 hs0 HZ0
  go_wp2_with fail
  go_quiet (fail)
  have hr3 : (w2.drewN nq).rangeAt w.heap.size 0 [.int .i64 0, .int .i64 0] := HR2.out
  have ht3 : (w2.drewN nq).there w.heap.size 0 2 := HT2.out
  have hb3 : Below w.heap.size w (w2.drewN nq) := ⟨HB2.out.os, HB2.out.tape, HB2.out.output, HB2.out.size, HB2.out.block⟩
  generalize w2.drewN nq = w3 at *
  have c0 := there_cell ht3 0 (by omega)
  have c1 := there_cell ht3 1 (by omega)
  have k0 := (ht3 0 (by omega)).2
  have k1 := (ht3 1 (by omega)).2
  rw [Nat.zero_add] at c0 c1 k0 k1
  have HR4 := Lib.hid (rangeAt_set (rangeAt_set hr3 0 (.int .i64 (q : Int))) 1 (.int .i64 (r : Int)))
  have HB4 := Lib.hid ((hb3.setCell (p := ⟨w.heap.size, 0, none⟩) (Nat.le_refl _) (.int .i64 (q : Int))).setCell (p := ⟨w.heap.size, 1, none⟩) (Nat.le_refl _) (.int .i64 (r : Int)))
  clear hr3 ht3 hb3
  go_wp2_with fail
  exact bodyPost_ret (results_cell_tmp_mid Tryd.results37 _ _ w.heap.size 0 [.int .i64 (q : Int), .int .i64 (r : Int)] _ rfl HR4.out Tryd.underlying25 rfl (by kernel_rfl)) rfl ⟨rfl, HB4.out⟩

theorem pair_eq {a b c a' b' c' : Int} (h1 : a = a') (h2 : b = b') (h3 : c = c') : Ending.returned (.tuple #[.agg #[.int .i64 a, .int .i64 b], .int .i64 c]) = .returned (.tuple #[.agg #[.int .i64 a', .int .i64 b'], .int .i64 c']) := by rw [h1, h2, h3]
/-- reduced: the quotient of two integers, of which the magnitudes and the sign are given. -/
theorem reduced_any (n d : Int) (N D : Nat) (m : Bool) (w : World) (hN : N < 18446744073709551616) (hD : D < 18446744073709551616) (h0 : d ≠ 0) (eN : n.natAbs = N) (eD : d.natAbs = D) (em : N = 0 ∨ (decide (n < 0) != decide (d < 0)) = m) :
    Calls Tryd.prog 37 #[.bool m, .int .u64 N, .int .u64 D] w fun e w' =>
      e = .returned (.tuple #[.agg #[.int .i64 (resN (Rat.divInt n d)), .int .i64 (resD (Rat.divInt n d))], .int .i64 (resE (Rat.divInt n d))]) ∧ Below w.heap.size w w' := by
  subst eN eD
  have hk := div_Rok n d h0
  by_cases h : Rok (Rat.divInt n d)
  · obtain ⟨h1, h2⟩ := hk.1 h
    rw [resN_ok h, resD_ok h, resE_ok h]
    have hn := div_num n d h0
    have hd := div_den n d h0
    have hn' : (Rat.divInt n d).num = if m = true then -((n.natAbs / Nat.gcd n.natAbs d.natAbs : Nat) : Int) else ((n.natAbs / Nat.gcd n.natAbs d.natAbs : Nat) : Int) := by
      rcases em with e | e
      · rw [hn, e, Nat.zero_div]; simp
      · rw [hn, e]
    clear hn
    rcases m with _ | _
    · rw [if_neg (by simp)] at hn'
      exact (reduced_p _ _ w hN hD (by omega) h1 h2).mono fun _ _ ⟨a, b⟩ => ⟨a.trans (pair_eq hn'.symm (by rw [hd]) rfl), b⟩
    · rw [if_pos rfl] at hn'
      exact (reduced_m _ _ w hN hD (by omega) h1 h2).mono fun _ _ ⟨a, b⟩ => ⟨a.trans (pair_eq hn'.symm (by rw [hd]) rfl), b⟩
  · rw [resN_no h, resD_no h, resE_no h]
    by_cases h1 : 1000000000000 < n.natAbs / Nat.gcd n.natAbs d.natAbs
    · exact reduced_a m _ _ w hN hD (by omega) h1
    · have h2 : ¬ d.natAbs / Nat.gcd n.natAbs d.natAbs ≤ 1000000 := fun h2 => h (hk.2 ⟨by omega, h2⟩)
      exact reduced_b m _ _ w hN hD (by omega) (by omega) (by omega)
end Go.Proofs.YtfcdoifijgbjeaaDoor
