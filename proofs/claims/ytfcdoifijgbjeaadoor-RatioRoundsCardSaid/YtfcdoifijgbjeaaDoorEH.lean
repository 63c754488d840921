/- Layer 01: the laws' head. -/
import Derived.Test.YtfcdoifijgbjeaaDoorEG
namespace Go.Proofs.YtfcdoifijgbjeaaDoor
open Go.RowKit

theorem keepS2 {w0 w w' : World} {n0 n1 : Nat} {a0 b0 a1 b1 : Value} (l : n0 < w0.heap.size ∧ n1 < w0.heap.size) (hb : Below w.heap.size w w') (h : (w.cell? ⟨n0, 0, none⟩ = some a0 ∧ w.cell? ⟨n0, 1, none⟩ = some b0) ∧ (w.cell? ⟨n1, 0, none⟩ = some a1 ∧ w.cell? ⟨n1, 1, none⟩ = some b1) ∧ Below w0.heap.size w0 w) :
    (w'.cell? ⟨n0, 0, none⟩ = some a0 ∧ w'.cell? ⟨n0, 1, none⟩ = some b0) ∧ (w'.cell? ⟨n1, 0, none⟩ = some a1 ∧ w'.cell? ⟨n1, 1, none⟩ = some b1) ∧ Below w0.heap.size w0 w' := ⟨cells2_below h.1 hb (by have := h.2.2.size; omega), cells2_below h.2.1 hb (by have := h.2.2.size; omega), (h.2.2).trans (hb.mono (h.2.2).size)⟩
theorem keepS3 {w0 w w' : World} {n0 n1 n2 : Nat} {a0 b0 a1 b1 a2 b2 : Value} (l : n0 < w0.heap.size ∧ n1 < w0.heap.size ∧ n2 < w0.heap.size) (hb : Below w.heap.size w w') (h : (w.cell? ⟨n0, 0, none⟩ = some a0 ∧ w.cell? ⟨n0, 1, none⟩ = some b0) ∧ (w.cell? ⟨n1, 0, none⟩ = some a1 ∧ w.cell? ⟨n1, 1, none⟩ = some b1) ∧ (w.cell? ⟨n2, 0, none⟩ = some a2 ∧ w.cell? ⟨n2, 1, none⟩ = some b2) ∧ Below w0.heap.size w0 w) :
    (w'.cell? ⟨n0, 0, none⟩ = some a0 ∧ w'.cell? ⟨n0, 1, none⟩ = some b0) ∧ (w'.cell? ⟨n1, 0, none⟩ = some a1 ∧ w'.cell? ⟨n1, 1, none⟩ = some b1) ∧ (w'.cell? ⟨n2, 0, none⟩ = some a2 ∧ w'.cell? ⟨n2, 1, none⟩ = some b2) ∧ Below w0.heap.size w0 w' := ⟨cells2_below h.1 hb (by have := h.2.2.2.size; omega), cells2_below h.2.1 hb (by have := h.2.2.2.size; omega), cells2_below h.2.2.1 hb (by have := h.2.2.2.size; omega), (h.2.2.2).trans (hb.mono (h.2.2.2).size)⟩

set_option maxHeartbeats 4000000 in
set_option maxRecDepth 100000 in
theorem head01 (w : World) (ht : Tabs w) : Calls Tryd.prog 11 #[] w fun e w' => e = .returned (.bool true) ∧ Below w.heap.size w w' := by
  have T0 : Hid (Trk w w) := Lib.hid ⟨ht, Below.refl _ _⟩
  clear ht
  have HO := Lib.hid (fun n d w => of_any n d w)
  go_enter Tryd.func11, Tryd.ntmps11
  go_wp2_with fail
  refine (hMake1 _).mono ?_
  rintro e w1 ⟨rfl, hb⟩
  have T1 := Lib.hid (T0.out.step hb)
  clear hb
  have T2 := Lib.hid (T1.out.alloc (.cells #[.int .i64 (-3), .int .i64 2] 25))
  have A1 := Lib.hid (C2.new w1 (.int .i64 (-3)) (.int .i64 2) 25)
  go_wp2_with fail
  generalize w1.alloc (.cells #[.int .i64 (-3), .int .i64 2] 25) = w2 at *
  generalize hnA1 : w1.heap.size = nA1 at *
  clear hnA1
  refine (hMake2 _).mono ?_
  rintro e w3 ⟨rfl, hb⟩
  have T3 := Lib.hid (T2.out.step hb)
  have A1x := Lib.hid (A1.out.step hb)
  clear A1
  have A1 := Lib.hid A1x.out
  clear A1x
  clear hb
  have T4 := Lib.hid (T3.out.alloc (.cells #[.int .i64 0, .int .i64 1] 25))
  have A1x := Lib.hid (A1.out.alloc (.cells #[.int .i64 0, .int .i64 1] 25))
  clear A1
  have A1 := Lib.hid A1x.out
  clear A1x
  have A2 := Lib.hid (C2.new w3 (.int .i64 0) (.int .i64 1) 25)
  go_wp2_with fail
  generalize w3.alloc (.cells #[.int .i64 0, .int .i64 1] 25) = w4 at *
  generalize hnA2 : w3.heap.size = nA2 at *
  clear hnA2
  refine (Make_zero 1 _).mono ?_
  rintro e w5 ⟨rfl, hb⟩
  have T5 := Lib.hid (T4.out.step hb)
  have A1x := Lib.hid (A1.out.step hb)
  clear A1
  have A1 := Lib.hid A1x.out
  clear A1x
  have A2x := Lib.hid (A2.out.step hb)
  clear A2
  have A2 := Lib.hid A2x.out
  clear A2x
  clear hb
  have T6 := Lib.hid (T5.out.alloc (.cells #[.int .i64 0, .int .i64 0] 25))
  have A1x := Lib.hid (A1.out.alloc (.cells #[.int .i64 0, .int .i64 0] 25))
  clear A1
  have A1 := Lib.hid A1x.out
  clear A1x
  have A2x := Lib.hid (A2.out.alloc (.cells #[.int .i64 0, .int .i64 0] 25))
  clear A2
  have A2 := Lib.hid A2x.out
  clear A2x
  go_wp2_with fail
  generalize w5.alloc (.cells #[.int .i64 0, .int .i64 0] 25) = w6 at *
  refine (hMake4 _).mono ?_
  rintro e w7 ⟨rfl, hb⟩
  have T7 := Lib.hid (T6.out.step hb)
  have A1x := Lib.hid (A1.out.step hb)
  clear A1
  have A1 := Lib.hid A1x.out
  clear A1x
  have A2x := Lib.hid (A2.out.step hb)
  clear A2
  have A2 := Lib.hid A2x.out
  clear A2x
  clear hb
  have T8 := Lib.hid (T7.out.alloc (.cells #[.int .i64 0, .int .i64 0] 25))
  have A1x := Lib.hid (A1.out.alloc (.cells #[.int .i64 0, .int .i64 0] 25))
  clear A1
  have A1 := Lib.hid A1x.out
  clear A1x
  have A2x := Lib.hid (A2.out.alloc (.cells #[.int .i64 0, .int .i64 0] 25))
  clear A2
  have A2 := Lib.hid A2x.out
  clear A2x
  go_wp2_with fail
  generalize w7.alloc (.cells #[.int .i64 0, .int .i64 0] 25) = w8 at *
  refine (HO.out _ _ _).mono ?_
  rintro e w9 ⟨rfl, hb⟩
  have T9 := Lib.hid (T8.out.step hb)
  have A1x := Lib.hid (A1.out.step hb)
  clear A1
  have A1 := Lib.hid A1x.out
  clear A1x
  have A2x := Lib.hid (A2.out.step hb)
  clear A2
  have A2 := Lib.hid A2x.out
  clear A2x
  clear hb
  go_wp2_with fail
  refine (HO.out _ _ _).mono ?_
  rintro e w10 ⟨rfl, hb⟩
  have T10 := Lib.hid (T9.out.step hb)
  have A1x := Lib.hid (A1.out.step hb)
  clear A1
  have A1 := Lib.hid A1x.out
  clear A1x
  have A2x := Lib.hid (A2.out.step hb)
  clear A2
  have A2 := Lib.hid A2x.out
  clear A2x
  clear hb
  go_wp2_with fail
  refine (hAdd _).mono ?_
  rintro e w11 ⟨rfl, hb⟩
  have T11 := Lib.hid (T10.out.step hb)
  have A1x := Lib.hid (A1.out.step hb)
  clear A1
  have A1 := Lib.hid A1x.out
  clear A1x
  have A2x := Lib.hid (A2.out.step hb)
  clear A2
  have A2 := Lib.hid A2x.out
  clear A2x
  clear hb
  have T12 := Lib.hid (T11.out.alloc (.cells #[.int .i64 1, .int .i64 2] 25))
  have A1x := Lib.hid (A1.out.alloc (.cells #[.int .i64 1, .int .i64 2] 25))
  clear A1
  have A1 := Lib.hid A1x.out
  clear A1x
  have A2x := Lib.hid (A2.out.alloc (.cells #[.int .i64 1, .int .i64 2] 25))
  clear A2
  have A2 := Lib.hid A2x.out
  clear A2x
  have A3 := Lib.hid (C2.new w11 (.int .i64 1) (.int .i64 2) 25)
  go_wp2_with fail
  generalize w11.alloc (.cells #[.int .i64 1, .int .i64 2] 25) = w12 at *
  generalize hnA3 : w11.heap.size = nA3 at *
  clear hnA3
  refine (HO.out _ _ _).mono ?_
  rintro e w13 ⟨rfl, hb⟩
  have T13 := Lib.hid (T12.out.step hb)
  have A1x := Lib.hid (A1.out.step hb)
  clear A1
  have A1 := Lib.hid A1x.out
  clear A1x
  have A2x := Lib.hid (A2.out.step hb)
  clear A2
  have A2 := Lib.hid A2x.out
  clear A2x
  have A3x := Lib.hid (A3.out.step hb)
  clear A3
  have A3 := Lib.hid A3x.out
  clear A3x
  clear hb
  go_wp2_with fail
  refine (HO.out _ _ _).mono ?_
  rintro e w14 ⟨rfl, hb⟩
  have T14 := Lib.hid (T13.out.step hb)
  have A1x := Lib.hid (A1.out.step hb)
  clear A1
  have A1 := Lib.hid A1x.out
  clear A1x
  have A2x := Lib.hid (A2.out.step hb)
  clear A2
  have A2 := Lib.hid A2x.out
  clear A2x
  have A3x := Lib.hid (A3.out.step hb)
  clear A3
  have A3 := Lib.hid A3x.out
  clear A3x
  clear hb
  go_wp2_with fail
  refine (hMul _).mono ?_
  rintro e w15 ⟨rfl, hb⟩
  have T15 := Lib.hid (T14.out.step hb)
  have A1x := Lib.hid (A1.out.step hb)
  clear A1
  have A1 := Lib.hid A1x.out
  clear A1x
  have A2x := Lib.hid (A2.out.step hb)
  clear A2
  have A2 := Lib.hid A2x.out
  clear A2x
  have A3x := Lib.hid (A3.out.step hb)
  clear A3
  have A3 := Lib.hid A3x.out
  clear A3x
  clear hb
  have T16 := Lib.hid (T15.out.alloc (.cells #[.int .i64 3, .int .i64 2] 25))
  have A1x := Lib.hid (A1.out.alloc (.cells #[.int .i64 3, .int .i64 2] 25))
  clear A1
  have A1 := Lib.hid A1x.out
  clear A1x
  have A2x := Lib.hid (A2.out.alloc (.cells #[.int .i64 3, .int .i64 2] 25))
  clear A2
  have A2 := Lib.hid A2x.out
  clear A2x
  have A3x := Lib.hid (A3.out.alloc (.cells #[.int .i64 3, .int .i64 2] 25))
  clear A3
  have A3 := Lib.hid A3x.out
  clear A3x
  have A4 := Lib.hid (C2.new w15 (.int .i64 3) (.int .i64 2) 25)
  go_wp2_with fail
  generalize w15.alloc (.cells #[.int .i64 3, .int .i64 2] 25) = w16 at *
  generalize hnA4 : w15.heap.size = nA4 at *
  clear hnA4
  refine (HO.out _ _ _).mono ?_
  rintro e w17 ⟨rfl, hb⟩
  have T17 := Lib.hid (T16.out.step hb)
  have A1x := Lib.hid (A1.out.step hb)
  clear A1
  have A1 := Lib.hid A1x.out
  clear A1x
  have A2x := Lib.hid (A2.out.step hb)
  clear A2
  have A2 := Lib.hid A2x.out
  clear A2x
  have A3x := Lib.hid (A3.out.step hb)
  clear A3
  have A3 := Lib.hid A3x.out
  clear A3x
  have A4x := Lib.hid (A4.out.step hb)
  clear A4
  have A4 := Lib.hid A4x.out
  clear A4x
  clear hb
  go_wp2_with fail
  refine (HO.out _ _ _).mono ?_
  rintro e w18 ⟨rfl, hb⟩
  have T18 := Lib.hid (T17.out.step hb)
  have A1x := Lib.hid (A1.out.step hb)
  clear A1
  have A1 := Lib.hid A1x.out
  clear A1x
  have A2x := Lib.hid (A2.out.step hb)
  clear A2
  have A2 := Lib.hid A2x.out
  clear A2x
  have A3x := Lib.hid (A3.out.step hb)
  clear A3
  have A3 := Lib.hid A3x.out
  clear A3x
  have A4x := Lib.hid (A4.out.step hb)
  clear A4
  have A4 := Lib.hid A4x.out
  clear A4x
  clear hb
  go_wp2_with fail
  refine (hDiv _).mono ?_
  rintro e w19 ⟨rfl, hb⟩
  have T19 := Lib.hid (T18.out.step hb)
  have A1x := Lib.hid (A1.out.step hb)
  clear A1
  have A1 := Lib.hid A1x.out
  clear A1x
  have A2x := Lib.hid (A2.out.step hb)
  clear A2
  have A2 := Lib.hid A2x.out
  clear A2x
  have A3x := Lib.hid (A3.out.step hb)
  clear A3
  have A3 := Lib.hid A3x.out
  clear A3x
  have A4x := Lib.hid (A4.out.step hb)
  clear A4
  have A4 := Lib.hid A4x.out
  clear A4x
  clear hb
  have T20 := Lib.hid (T19.out.alloc (.cells #[.int .i64 0, .int .i64 0] 25))
  have A1x := Lib.hid (A1.out.alloc (.cells #[.int .i64 0, .int .i64 0] 25))
  clear A1
  have A1 := Lib.hid A1x.out
  clear A1x
  have A2x := Lib.hid (A2.out.alloc (.cells #[.int .i64 0, .int .i64 0] 25))
  clear A2
  have A2 := Lib.hid A2x.out
  clear A2x
  have A3x := Lib.hid (A3.out.alloc (.cells #[.int .i64 0, .int .i64 0] 25))
  clear A3
  have A3 := Lib.hid A3x.out
  clear A3x
  have A4x := Lib.hid (A4.out.alloc (.cells #[.int .i64 0, .int .i64 0] 25))
  clear A4
  have A4 := Lib.hid A4x.out
  clear A4x
  go_wp2_with fail
  generalize w19.alloc (.cells #[.int .i64 0, .int .i64 0] 25) = w20 at *
  refine (HO.out _ _ _).mono ?_
  rintro e w21 ⟨rfl, hb⟩
  have T21 := Lib.hid (T20.out.step hb)
  have A1x := Lib.hid (A1.out.step hb)
  clear A1
  have A1 := Lib.hid A1x.out
  clear A1x
  have A2x := Lib.hid (A2.out.step hb)
  clear A2
  have A2 := Lib.hid A2x.out
  clear A2x
  have A3x := Lib.hid (A3.out.step hb)
  clear A3
  have A3 := Lib.hid A3x.out
  clear A3x
  have A4x := Lib.hid (A4.out.step hb)
  clear A4
  have A4 := Lib.hid A4x.out
  clear A4x
  clear hb
  go_wp2_with fail
  refine (hRound _).mono ?_
  rintro e w22 ⟨rfl, hb⟩
  have T22 := Lib.hid (T21.out.step hb)
  have A1x := Lib.hid (A1.out.step hb)
  clear A1
  have A1 := Lib.hid A1x.out
  clear A1x
  have A2x := Lib.hid (A2.out.step hb)
  clear A2
  have A2 := Lib.hid A2x.out
  clear A2x
  have A3x := Lib.hid (A3.out.step hb)
  clear A3
  have A3 := Lib.hid A3x.out
  clear A3x
  have A4x := Lib.hid (A4.out.step hb)
  clear A4
  have A4 := Lib.hid A4x.out
  clear A4x
  clear hb
  have T23 := Lib.hid (T22.out.alloc (.cells #[.int .i64 1, .int .i64 2] 25))
  have A1x := Lib.hid (A1.out.alloc (.cells #[.int .i64 1, .int .i64 2] 25))
  clear A1
  have A1 := Lib.hid A1x.out
  clear A1x
  have A2x := Lib.hid (A2.out.alloc (.cells #[.int .i64 1, .int .i64 2] 25))
  clear A2
  have A2 := Lib.hid A2x.out
  clear A2x
  have A3x := Lib.hid (A3.out.alloc (.cells #[.int .i64 1, .int .i64 2] 25))
  clear A3
  have A3 := Lib.hid A3x.out
  clear A3x
  have A4x := Lib.hid (A4.out.alloc (.cells #[.int .i64 1, .int .i64 2] 25))
  clear A4
  have A4 := Lib.hid A4x.out
  clear A4x
  have A5 := Lib.hid (C2.new w22 (.int .i64 1) (.int .i64 2) 25)
  go_wp2_with fail
  generalize w22.alloc (.cells #[.int .i64 1, .int .i64 2] 25) = w23 at *
  generalize hnA5 : w22.heap.size = nA5 at *
  clear hnA5
  refine (hParse _ T23.out.tabs).mono ?_
  rintro e w24 ⟨rfl, hb⟩
  have T24 := Lib.hid (T23.out.step hb)
  have A1x := Lib.hid (A1.out.step hb)
  clear A1
  have A1 := Lib.hid A1x.out
  clear A1x
  have A2x := Lib.hid (A2.out.step hb)
  clear A2
  have A2 := Lib.hid A2x.out
  clear A2x
  have A3x := Lib.hid (A3.out.step hb)
  clear A3
  have A3 := Lib.hid A3x.out
  clear A3x
  have A4x := Lib.hid (A4.out.step hb)
  clear A4
  have A4 := Lib.hid A4x.out
  clear A4x
  have A5x := Lib.hid (A5.out.step hb)
  clear A5
  have A5 := Lib.hid A5x.out
  clear A5x
  clear hb
  have T25 := Lib.hid (T24.out.alloc (.cells #[.int .i64 0, .int .i64 0] 25))
  have A1x := Lib.hid (A1.out.alloc (.cells #[.int .i64 0, .int .i64 0] 25))
  clear A1
  have A1 := Lib.hid A1x.out
  clear A1x
  have A2x := Lib.hid (A2.out.alloc (.cells #[.int .i64 0, .int .i64 0] 25))
  clear A2
  have A2 := Lib.hid A2x.out
  clear A2x
  have A3x := Lib.hid (A3.out.alloc (.cells #[.int .i64 0, .int .i64 0] 25))
  clear A3
  have A3 := Lib.hid A3x.out
  clear A3x
  have A4x := Lib.hid (A4.out.alloc (.cells #[.int .i64 0, .int .i64 0] 25))
  clear A4
  have A4 := Lib.hid A4x.out
  clear A4x
  have A5x := Lib.hid (A5.out.alloc (.cells #[.int .i64 0, .int .i64 0] 25))
  clear A5
  have A5 := Lib.hid A5x.out
  clear A5x
  go_wp2_with fail
  generalize w24.alloc (.cells #[.int .i64 0, .int .i64 0] 25) = w25 at *
  obtain ⟨c0, c1⟩ := A1.out.cells
  have l0 := A1.out.lt
  obtain ⟨c2, c3⟩ := A2.out.cells
  have l1 := A2.out.lt
  have hB := Below.refl w25.heap.size w25
  go_region_held_law (fun w' => (w'.cell? ⟨nA1, 0, none⟩ = some (.int .i64 (-3)) ∧ w'.cell? ⟨nA1, 1, none⟩ = some (.int .i64 2)) ∧ (w'.cell? ⟨nA2, 0, none⟩ = some (.int .i64 0) ∧ w'.cell? ⟨nA2, 1, none⟩ = some (.int .i64 1)) ∧ Below w25.heap.size w25 w') (first | (go_keep; done) | exact keepS2 ⟨l0, l1⟩ hba (by assumption) | exact keepS2 ⟨l0, l1⟩ (drewN_below _ 1) (by assumption) | exact keepS2 ⟨l0, l1⟩ (drewN_below _ 1) ⟨⟨c0, c1⟩, ⟨c2, c3⟩, hB⟩) ((go_at_call 20; refine (HO.out _ _ _).mono ?_; rintro e wa ⟨rfl, hba⟩))
  rename_i hh
  have hb := hh.2.2
  have T26 := Lib.hid (T25.out.step hb)
  have A3x := Lib.hid (A3.out.step hb)
  clear A3
  have A3 := Lib.hid A3x.out
  clear A3x
  have A4x := Lib.hid (A4.out.step hb)
  clear A4
  have A4 := Lib.hid A4x.out
  clear A4x
  have A5x := Lib.hid (A5.out.step hb)
  clear A5
  have A5 := Lib.hid A5x.out
  clear A5x
  clear hh hb hba hB c0 c1 c2 c3 l0 l1 A1 A2
  generalize wa = w26 at *
  go_wp2_with fail
  obtain ⟨c0, c1⟩ := A3.out.cells
  have l0 := A3.out.lt
  obtain ⟨c2, c3⟩ := A4.out.cells
  have l1 := A4.out.lt
  obtain ⟨c4, c5⟩ := A5.out.cells
  have l2 := A5.out.lt
  have hB := Below.refl w26.heap.size w26
  go_region_held_law (fun w' => (w'.cell? ⟨nA3, 0, none⟩ = some (.int .i64 1) ∧ w'.cell? ⟨nA3, 1, none⟩ = some (.int .i64 2)) ∧ (w'.cell? ⟨nA4, 0, none⟩ = some (.int .i64 3) ∧ w'.cell? ⟨nA4, 1, none⟩ = some (.int .i64 2)) ∧ (w'.cell? ⟨nA5, 0, none⟩ = some (.int .i64 1) ∧ w'.cell? ⟨nA5, 1, none⟩ = some (.int .i64 2)) ∧ Below w26.heap.size w26 w') (first | (go_keep; done) | exact keepS3 ⟨l0, l1, l2⟩ hba (by assumption) | exact keepS3 ⟨l0, l1, l2⟩ (drewN_below _ 1) (by assumption) | exact keepS3 ⟨l0, l1, l2⟩ (drewN_below _ 1) ⟨⟨c0, c1⟩, ⟨c2, c3⟩, ⟨c4, c5⟩, hB⟩) ((go_at_call 20; refine (HO.out _ _ _).mono ?_; rintro e wa ⟨rfl, hba⟩))
  rename_i hh
  have hb := hh.2.2.2
  have T27 := Lib.hid (T26.out.step hb)
  clear hh hb hba hB c0 c1 c2 c3 c4 c5 l0 l1 l2 A3 A4 A5
  generalize wa = w27 at *
  go_wp2_with fail
  refine (HO.out _ _ _).mono ?_
  rintro e w28 ⟨rfl, hb⟩
  have T28 := Lib.hid (T27.out.step hb)
  clear hb
  go_wp2_with fail
  refine (hFloor _).mono ?_
  rintro e w29 ⟨rfl, hb⟩
  have T29 := Lib.hid (T28.out.step hb)
  clear hb
  go_wp2_with fail
  refine (HO.out _ _ _).mono ?_
  rintro e w30 ⟨rfl, hb⟩
  have T30 := Lib.hid (T29.out.step hb)
  clear hb
  go_wp2_with fail
  refine (hText _ T30.out.tabs).mono ?_
  rintro e w31 ⟨rfl, hb⟩
  have T31 := Lib.hid (T30.out.step hb)
  clear hb
  go_wp2_with fail
  refine (HO.out _ _ _).mono ?_
  rintro e w32 ⟨rfl, hb⟩
  have T32 := Lib.hid (T31.out.step hb)
  clear hb
  go_wp2_with fail
  refine (hValid1 _).mono ?_
  rintro e w33 ⟨rfl, hb⟩
  have T33 := Lib.hid (T32.out.step hb)
  clear hb
  go_wp2_with fail
  refine (HO.out _ _ _).mono ?_
  rintro e w34 ⟨rfl, hb⟩
  have T34 := Lib.hid (T33.out.step hb)
  clear hb
  go_wp2_with fail
  refine (hValid2 _).mono ?_
  rintro e w35 ⟨rfl, hb⟩
  have T35 := Lib.hid (T34.out.step hb)
  clear hb
  go_wp2_with fail
  refine (HO.out _ _ _).mono ?_
  rintro e w36 ⟨rfl, hb⟩
  have T36 := Lib.hid (T35.out.step hb)
  clear hb
  go_wp2_with fail
  refine (HO.out _ _ _).mono ?_
  rintro e w37 ⟨rfl, hb⟩
  have T37 := Lib.hid (T36.out.step hb)
  clear hb
  go_wp2_with fail
  refine (hCmp _).mono ?_
  rintro e w38 ⟨rfl, hb⟩
  have T38 := Lib.hid (T37.out.step hb)
  clear hb
  go_wp2_with fail
  go_ret
  exact ⟨rfl, T38.out.bel⟩
end Go.Proofs.YtfcdoifijgbjeaaDoor
