/- RatioTexts: the walk. -/
import Derived.Test.YtfcdoifijgbjeaaDoorF1
namespace Go.Proofs.YtfcdoifijgbjeaaDoor
open Go.RowKit

set_option maxHeartbeats 1000000 in
theorem texts_big (n d : Int) (t : ByteArray) (w : World) (hs : 1000 < t.size) (hm : t.size ≤ maxLen) (ht : Tabs w) :
    Calls Tryd.prog 7 #[.agg #[.int .i64 n, .int .i64 d], .string t] w fun e w' => e = .returned (.bool true) ∧ Below w.heap.size w w' := by
  have hm' : (t.size : Int) ≤ 9223372036854775807 := by unfold maxLen at hm; omega
  have hs' : (1000 : Int) < (t.size : Int) := by omega
  clear hs hm
  have T0 : Hid (Trk w w) := Lib.hid ⟨ht, Below.refl _ _⟩
  clear ht
  have T1 := Lib.hid (T0.out.alloc (.cells #[.int .i64 n, .int .i64 d] 25))
  have A := Lib.hid (C2.new (w) (.int .i64 n) (.int .i64 d) 25)
  go_enter Tryd.func7, Tryd.ntmps7
  go_wp2_with fail
  generalize (w).alloc (.cells #[.int .i64 n, .int .i64 d] 25) = w1 at *
  refine (head01 _ T1.out.tabs).mono ?_
  rintro e w2 ⟨rfl, hb⟩
  have T2 := Lib.hid (T1.out.step hb)
  have A' := Lib.hid (A.out.step hb)
  clear A
  have A := Lib.hid A'.out
  clear A'
  clear hb
  obtain ⟨cA0, cA1⟩ := A.out.cells
  go_wp2_with fail
  go_ret
  exact ⟨rfl, T2.out.bel⟩
set_option maxHeartbeats 1000000 in
set_option maxRecDepth 100000 in
theorem texts_vp (n d m c : Int) (s t : ByteArray) (w : World) (hs : t.size ≤ 1000) (ht : Tabs w)
    (hV : ∀ w, Calls Tryd.prog 15 #[.agg #[.int .i64 n, .int .i64 d]] w fun e w' => e = .returned (.bool true) ∧ Below w.heap.size w w')
    (hX : ∀ w, Tabs w → Calls Tryd.prog 22 #[.agg #[.int .i64 n, .int .i64 d]] w fun e w' => e = .returned (.string s) ∧ Below w.heap.size w w')
    (hP : ∀ w, Tabs w → Calls Tryd.prog 23 #[.string s] w (Ret3 w n d 0))
    (hQ : ∀ w, Tabs w → Calls Tryd.prog 23 #[.string t] w (Ret3 w m c 0))
    (hU : ∀ w, Calls Tryd.prog 15 #[.agg #[.int .i64 m, .int .i64 c]] w fun e w' => e = .returned (.bool true) ∧ Below w.heap.size w w')
    (hY : ∀ w, Tabs w → Calls Tryd.prog 22 #[.agg #[.int .i64 m, .int .i64 c]] w fun e w' => e = .returned (.string t) ∧ Below w.heap.size w w')
    (s1 : s.toList.isEmpty = false) :
    Calls Tryd.prog 7 #[.agg #[.int .i64 n, .int .i64 d], .string t] w fun e w' => e = .returned (.bool true) ∧ Below w.heap.size w w' := by
  have hs' : (t.size : Int) ≤ 1000 := by omega
  clear hs
  have HV := Lib.hid hV
  clear hV
  have HX := Lib.hid hX
  clear hX
  have HP := Lib.hid hP
  clear hP
  have HQ := Lib.hid hQ
  clear hQ
  have HU := Lib.hid hU
  clear hU
  have HY := Lib.hid hY
  clear hY
  have T0 : Hid (Trk w w) := Lib.hid ⟨ht, Below.refl _ _⟩
  clear ht
  have T1 := Lib.hid (T0.out.alloc (.cells #[.int .i64 n, .int .i64 d] 25))
  have A := Lib.hid (C2.new (w) (.int .i64 n) (.int .i64 d) 25)
  go_enter Tryd.func7, Tryd.ntmps7
  go_wp2_with fail
  generalize (w).alloc (.cells #[.int .i64 n, .int .i64 d] 25) = w1 at *
  refine (head01 _ T1.out.tabs).mono ?_
  rintro e w2 ⟨rfl, hb⟩
  have T2 := Lib.hid (T1.out.step hb)
  have A' := Lib.hid (A.out.step hb)
  clear A
  have A := Lib.hid A'.out
  clear A'
  clear hb
  obtain ⟨cA0, cA1⟩ := A.out.cells
  go_wp2_with fail
  refine (HX.out _ T2.out.tabs).mono ?_
  rintro e w3 ⟨rfl, hb⟩
  have T3 := Lib.hid (T2.out.step hb)
  have A' := Lib.hid (A.out.step hb)
  clear A
  have A := Lib.hid A'.out
  clear A'
  clear hb
  clear cA0 cA1
  obtain ⟨cA0, cA1⟩ := A.out.cells
  go_wp2_with fail
  refine (HV.out _).mono ?_
  rintro e w4 ⟨rfl, hb⟩
  have T4 := Lib.hid (T3.out.step hb)
  have A' := Lib.hid (A.out.step hb)
  clear A
  have A := Lib.hid A'.out
  clear A'
  clear hb
  clear cA0 cA1
  obtain ⟨cA0, cA1⟩ := A.out.cells
  go_wp2_with fail
  refine (HP.out _ T4.out.tabs).mono ?_
  rintro e w5 ⟨rfl, hb⟩
  have T5 := Lib.hid (T4.out.step hb)
  have A' := Lib.hid (A.out.step hb)
  clear A
  have A := Lib.hid A'.out
  clear A'
  clear hb
  clear cA0 cA1
  have T6 := Lib.hid (T5.out.alloc (.cells #[.int .i64 n, .int .i64 d] 25))
  have A' := Lib.hid (A.out.alloc (.cells #[.int .i64 n, .int .i64 d] 25))
  clear A
  have A := Lib.hid A'.out
  clear A'
  have B := Lib.hid (C2.new w5 (.int .i64 n) (.int .i64 d) 25)
  obtain ⟨cA0, cA1⟩ := A.out.cells
  obtain ⟨cB0, cB1⟩ := B.out.cells
  go_wp2_with fail
  generalize w5.alloc (.cells #[.int .i64 n, .int .i64 d] 25) = w6 at *
  generalize w5.heap.size = nB at *
  refine (HQ.out _ T6.out.tabs).mono ?_
  rintro e w7 ⟨rfl, hb⟩
  have T7 := Lib.hid (T6.out.step hb)
  have A' := Lib.hid (A.out.step hb)
  clear A
  have A := Lib.hid A'.out
  clear A'
  have B' := Lib.hid (B.out.step hb)
  clear B
  have B := Lib.hid B'.out
  clear B'
  clear hb
  clear cA0 cA1 cB0 cB1
  have T8 := Lib.hid (T7.out.alloc (.cells #[.int .i64 m, .int .i64 c] 25))
  have A' := Lib.hid (A.out.alloc (.cells #[.int .i64 m, .int .i64 c] 25))
  clear A
  have A := Lib.hid A'.out
  clear A'
  have B' := Lib.hid (B.out.alloc (.cells #[.int .i64 m, .int .i64 c] 25))
  clear B
  have B := Lib.hid B'.out
  clear B'
  have C := Lib.hid (C2.new w7 (.int .i64 m) (.int .i64 c) 25)
  obtain ⟨cA0, cA1⟩ := A.out.cells
  obtain ⟨cB0, cB1⟩ := B.out.cells
  obtain ⟨cC0, cC1⟩ := C.out.cells
  go_wp2_with fail
  generalize w7.alloc (.cells #[.int .i64 m, .int .i64 c] 25) = w8 at *
  generalize w7.heap.size = nC at *
  refine (HU.out _).mono ?_
  rintro e w9 ⟨rfl, hb⟩
  have T9 := Lib.hid (T8.out.step hb)
  have A' := Lib.hid (A.out.step hb)
  clear A
  have A := Lib.hid A'.out
  clear A'
  have B' := Lib.hid (B.out.step hb)
  clear B
  have B := Lib.hid B'.out
  clear B'
  have C' := Lib.hid (C.out.step hb)
  clear C
  have C := Lib.hid C'.out
  clear C'
  clear hb
  clear cA0 cA1 cB0 cB1 cC0 cC1
  obtain ⟨cA0, cA1⟩ := A.out.cells
  obtain ⟨cB0, cB1⟩ := B.out.cells
  obtain ⟨cC0, cC1⟩ := C.out.cells
  go_wp2_with fail
  refine (HY.out _ T9.out.tabs).mono ?_
  rintro e w10 ⟨rfl, hb⟩
  have T10 := Lib.hid (T9.out.step hb)
  have A' := Lib.hid (A.out.step hb)
  clear A
  have A := Lib.hid A'.out
  clear A'
  have B' := Lib.hid (B.out.step hb)
  clear B
  have B := Lib.hid B'.out
  clear B'
  have C' := Lib.hid (C.out.step hb)
  clear C
  have C := Lib.hid C'.out
  clear C'
  clear hb
  clear cA0 cA1 cB0 cB1 cC0 cC1
  obtain ⟨cA0, cA1⟩ := A.out.cells
  obtain ⟨cB0, cB1⟩ := B.out.cells
  obtain ⟨cC0, cC1⟩ := C.out.cells
  go_wp2_with fail
  go_ret
  exact ⟨rfl, T10.out.bel⟩
set_option maxHeartbeats 1000000 in
set_option maxRecDepth 100000 in
theorem texts_vn (n d : Int) (s t : ByteArray) (w : World) (hs : t.size ≤ 1000) (ht : Tabs w)
    (hV : ∀ w, Calls Tryd.prog 15 #[.agg #[.int .i64 n, .int .i64 d]] w fun e w' => e = .returned (.bool true) ∧ Below w.heap.size w w')
    (hX : ∀ w, Tabs w → Calls Tryd.prog 22 #[.agg #[.int .i64 n, .int .i64 d]] w fun e w' => e = .returned (.string s) ∧ Below w.heap.size w w')
    (hP : ∀ w, Tabs w → Calls Tryd.prog 23 #[.string s] w (Ret3 w n d 0))
    (hQ : ∀ w, Tabs w → Calls Tryd.prog 23 #[.string t] w (Ret3 w 0 0 5))
    (s1 : s.toList.isEmpty = false) :
    Calls Tryd.prog 7 #[.agg #[.int .i64 n, .int .i64 d], .string t] w fun e w' => e = .returned (.bool true) ∧ Below w.heap.size w w' := by
  have hs' : (t.size : Int) ≤ 1000 := by omega
  clear hs
  have HV := Lib.hid hV
  clear hV
  have HX := Lib.hid hX
  clear hX
  have HP := Lib.hid hP
  clear hP
  have HQ := Lib.hid hQ
  clear hQ
  have T0 : Hid (Trk w w) := Lib.hid ⟨ht, Below.refl _ _⟩
  clear ht
  have T1 := Lib.hid (T0.out.alloc (.cells #[.int .i64 n, .int .i64 d] 25))
  have A := Lib.hid (C2.new (w) (.int .i64 n) (.int .i64 d) 25)
  go_enter Tryd.func7, Tryd.ntmps7
  go_wp2_with fail
  generalize (w).alloc (.cells #[.int .i64 n, .int .i64 d] 25) = w1 at *
  refine (head01 _ T1.out.tabs).mono ?_
  rintro e w2 ⟨rfl, hb⟩
  have T2 := Lib.hid (T1.out.step hb)
  have A' := Lib.hid (A.out.step hb)
  clear A
  have A := Lib.hid A'.out
  clear A'
  clear hb
  obtain ⟨cA0, cA1⟩ := A.out.cells
  go_wp2_with fail
  refine (HX.out _ T2.out.tabs).mono ?_
  rintro e w3 ⟨rfl, hb⟩
  have T3 := Lib.hid (T2.out.step hb)
  have A' := Lib.hid (A.out.step hb)
  clear A
  have A := Lib.hid A'.out
  clear A'
  clear hb
  clear cA0 cA1
  obtain ⟨cA0, cA1⟩ := A.out.cells
  go_wp2_with fail
  refine (HV.out _).mono ?_
  rintro e w4 ⟨rfl, hb⟩
  have T4 := Lib.hid (T3.out.step hb)
  have A' := Lib.hid (A.out.step hb)
  clear A
  have A := Lib.hid A'.out
  clear A'
  clear hb
  clear cA0 cA1
  obtain ⟨cA0, cA1⟩ := A.out.cells
  go_wp2_with fail
  refine (HP.out _ T4.out.tabs).mono ?_
  rintro e w5 ⟨rfl, hb⟩
  have T5 := Lib.hid (T4.out.step hb)
  have A' := Lib.hid (A.out.step hb)
  clear A
  have A := Lib.hid A'.out
  clear A'
  clear hb
  clear cA0 cA1
  have T6 := Lib.hid (T5.out.alloc (.cells #[.int .i64 n, .int .i64 d] 25))
  have A' := Lib.hid (A.out.alloc (.cells #[.int .i64 n, .int .i64 d] 25))
  clear A
  have A := Lib.hid A'.out
  clear A'
  have B := Lib.hid (C2.new w5 (.int .i64 n) (.int .i64 d) 25)
  obtain ⟨cA0, cA1⟩ := A.out.cells
  obtain ⟨cB0, cB1⟩ := B.out.cells
  go_wp2_with fail
  generalize w5.alloc (.cells #[.int .i64 n, .int .i64 d] 25) = w6 at *
  generalize w5.heap.size = nB at *
  refine (HQ.out _ T6.out.tabs).mono ?_
  rintro e w7 ⟨rfl, hb⟩
  have T7 := Lib.hid (T6.out.step hb)
  have A' := Lib.hid (A.out.step hb)
  clear A
  have A := Lib.hid A'.out
  clear A'
  have B' := Lib.hid (B.out.step hb)
  clear B
  have B := Lib.hid B'.out
  clear B'
  clear hb
  clear cA0 cA1 cB0 cB1
  have T8 := Lib.hid (T7.out.alloc (.cells #[.int .i64 0, .int .i64 0] 25))
  have A' := Lib.hid (A.out.alloc (.cells #[.int .i64 0, .int .i64 0] 25))
  clear A
  have A := Lib.hid A'.out
  clear A'
  have B' := Lib.hid (B.out.alloc (.cells #[.int .i64 0, .int .i64 0] 25))
  clear B
  have B := Lib.hid B'.out
  clear B'
  have C := Lib.hid (C2.new w7 (.int .i64 0) (.int .i64 0) 25)
  obtain ⟨cA0, cA1⟩ := A.out.cells
  obtain ⟨cB0, cB1⟩ := B.out.cells
  obtain ⟨cC0, cC1⟩ := C.out.cells
  go_wp2_with fail
  generalize w7.alloc (.cells #[.int .i64 0, .int .i64 0] 25) = w8 at *
  generalize w7.heap.size = nC at *
  go_ret
  exact ⟨rfl, T8.out.bel⟩
set_option maxHeartbeats 1000000 in
set_option maxRecDepth 100000 in
theorem texts_ip (n d m c : Int) (t : ByteArray) (w : World) (hs : t.size ≤ 1000) (ht : Tabs w)
    (hV : ∀ w, Calls Tryd.prog 15 #[.agg #[.int .i64 n, .int .i64 d]] w fun e w' => e = .returned (.bool false) ∧ Below w.heap.size w w')
    (hX : ∀ w, Tabs w → Calls Tryd.prog 22 #[.agg #[.int .i64 n, .int .i64 d]] w fun e w' => e = .returned (.string ⟨#[]⟩) ∧ Below w.heap.size w w')
    (hP : ∀ w, Tabs w → Calls Tryd.prog 23 #[.string ⟨#[]⟩] w (Ret3 w 0 0 5))
    (hQ : ∀ w, Tabs w → Calls Tryd.prog 23 #[.string t] w (Ret3 w m c 0))
    (hU : ∀ w, Calls Tryd.prog 15 #[.agg #[.int .i64 m, .int .i64 c]] w fun e w' => e = .returned (.bool true) ∧ Below w.heap.size w w')
    (hY : ∀ w, Tabs w → Calls Tryd.prog 22 #[.agg #[.int .i64 m, .int .i64 c]] w fun e w' => e = .returned (.string t) ∧ Below w.heap.size w w') :
    Calls Tryd.prog 7 #[.agg #[.int .i64 n, .int .i64 d], .string t] w fun e w' => e = .returned (.bool true) ∧ Below w.heap.size w w' := by
  have hs' : (t.size : Int) ≤ 1000 := by omega
  clear hs
  have HV := Lib.hid hV
  clear hV
  have HX := Lib.hid hX
  clear hX
  have HP := Lib.hid hP
  clear hP
  have HQ := Lib.hid hQ
  clear hQ
  have HU := Lib.hid hU
  clear hU
  have HY := Lib.hid hY
  clear hY
  have T0 : Hid (Trk w w) := Lib.hid ⟨ht, Below.refl _ _⟩
  clear ht
  have T1 := Lib.hid (T0.out.alloc (.cells #[.int .i64 n, .int .i64 d] 25))
  have A := Lib.hid (C2.new (w) (.int .i64 n) (.int .i64 d) 25)
  go_enter Tryd.func7, Tryd.ntmps7
  go_wp2_with fail
  generalize (w).alloc (.cells #[.int .i64 n, .int .i64 d] 25) = w1 at *
  refine (head01 _ T1.out.tabs).mono ?_
  rintro e w2 ⟨rfl, hb⟩
  have T2 := Lib.hid (T1.out.step hb)
  have A' := Lib.hid (A.out.step hb)
  clear A
  have A := Lib.hid A'.out
  clear A'
  clear hb
  obtain ⟨cA0, cA1⟩ := A.out.cells
  go_wp2_with fail
  refine (HX.out _ T2.out.tabs).mono ?_
  rintro e w3 ⟨rfl, hb⟩
  have T3 := Lib.hid (T2.out.step hb)
  have A' := Lib.hid (A.out.step hb)
  clear A
  have A := Lib.hid A'.out
  clear A'
  clear hb
  clear cA0 cA1
  obtain ⟨cA0, cA1⟩ := A.out.cells
  go_wp2_with fail
  refine (HV.out _).mono ?_
  rintro e w4 ⟨rfl, hb⟩
  have T4 := Lib.hid (T3.out.step hb)
  have A' := Lib.hid (A.out.step hb)
  clear A
  have A := Lib.hid A'.out
  clear A'
  clear hb
  clear cA0 cA1
  obtain ⟨cA0, cA1⟩ := A.out.cells
  go_wp2_with fail
  refine (HP.out _ T4.out.tabs).mono ?_
  rintro e w5 ⟨rfl, hb⟩
  have T5 := Lib.hid (T4.out.step hb)
  have A' := Lib.hid (A.out.step hb)
  clear A
  have A := Lib.hid A'.out
  clear A'
  clear hb
  clear cA0 cA1
  have T6 := Lib.hid (T5.out.alloc (.cells #[.int .i64 0, .int .i64 0] 25))
  have A' := Lib.hid (A.out.alloc (.cells #[.int .i64 0, .int .i64 0] 25))
  clear A
  have A := Lib.hid A'.out
  clear A'
  have B := Lib.hid (C2.new w5 (.int .i64 0) (.int .i64 0) 25)
  obtain ⟨cA0, cA1⟩ := A.out.cells
  obtain ⟨cB0, cB1⟩ := B.out.cells
  go_wp2_with fail
  generalize w5.alloc (.cells #[.int .i64 0, .int .i64 0] 25) = w6 at *
  generalize w5.heap.size = nB at *
  refine (HQ.out _ T6.out.tabs).mono ?_
  rintro e w7 ⟨rfl, hb⟩
  have T7 := Lib.hid (T6.out.step hb)
  have A' := Lib.hid (A.out.step hb)
  clear A
  have A := Lib.hid A'.out
  clear A'
  have B' := Lib.hid (B.out.step hb)
  clear B
  have B := Lib.hid B'.out
  clear B'
  clear hb
  clear cA0 cA1 cB0 cB1
  have T8 := Lib.hid (T7.out.alloc (.cells #[.int .i64 m, .int .i64 c] 25))
  have A' := Lib.hid (A.out.alloc (.cells #[.int .i64 m, .int .i64 c] 25))
  clear A
  have A := Lib.hid A'.out
  clear A'
  have B' := Lib.hid (B.out.alloc (.cells #[.int .i64 m, .int .i64 c] 25))
  clear B
  have B := Lib.hid B'.out
  clear B'
  have C := Lib.hid (C2.new w7 (.int .i64 m) (.int .i64 c) 25)
  obtain ⟨cA0, cA1⟩ := A.out.cells
  obtain ⟨cB0, cB1⟩ := B.out.cells
  obtain ⟨cC0, cC1⟩ := C.out.cells
  go_wp2_with fail
  generalize w7.alloc (.cells #[.int .i64 m, .int .i64 c] 25) = w8 at *
  generalize w7.heap.size = nC at *
  refine (HU.out _).mono ?_
  rintro e w9 ⟨rfl, hb⟩
  have T9 := Lib.hid (T8.out.step hb)
  have A' := Lib.hid (A.out.step hb)
  clear A
  have A := Lib.hid A'.out
  clear A'
  have B' := Lib.hid (B.out.step hb)
  clear B
  have B := Lib.hid B'.out
  clear B'
  have C' := Lib.hid (C.out.step hb)
  clear C
  have C := Lib.hid C'.out
  clear C'
  clear hb
  clear cA0 cA1 cB0 cB1 cC0 cC1
  obtain ⟨cA0, cA1⟩ := A.out.cells
  obtain ⟨cB0, cB1⟩ := B.out.cells
  obtain ⟨cC0, cC1⟩ := C.out.cells
  go_wp2_with fail
  refine (HY.out _ T9.out.tabs).mono ?_
  rintro e w10 ⟨rfl, hb⟩
  have T10 := Lib.hid (T9.out.step hb)
  have A' := Lib.hid (A.out.step hb)
  clear A
  have A := Lib.hid A'.out
  clear A'
  have B' := Lib.hid (B.out.step hb)
  clear B
  have B := Lib.hid B'.out
  clear B'
  have C' := Lib.hid (C.out.step hb)
  clear C
  have C := Lib.hid C'.out
  clear C'
  clear hb
  clear cA0 cA1 cB0 cB1 cC0 cC1
  obtain ⟨cA0, cA1⟩ := A.out.cells
  obtain ⟨cB0, cB1⟩ := B.out.cells
  obtain ⟨cC0, cC1⟩ := C.out.cells
  go_wp2_with fail
  go_ret
  exact ⟨rfl, T10.out.bel⟩
set_option maxHeartbeats 1000000 in
set_option maxRecDepth 100000 in
theorem texts_in (n d : Int) (t : ByteArray) (w : World) (hs : t.size ≤ 1000) (ht : Tabs w)
    (hV : ∀ w, Calls Tryd.prog 15 #[.agg #[.int .i64 n, .int .i64 d]] w fun e w' => e = .returned (.bool false) ∧ Below w.heap.size w w')
    (hX : ∀ w, Tabs w → Calls Tryd.prog 22 #[.agg #[.int .i64 n, .int .i64 d]] w fun e w' => e = .returned (.string ⟨#[]⟩) ∧ Below w.heap.size w w')
    (hP : ∀ w, Tabs w → Calls Tryd.prog 23 #[.string ⟨#[]⟩] w (Ret3 w 0 0 5))
    (hQ : ∀ w, Tabs w → Calls Tryd.prog 23 #[.string t] w (Ret3 w 0 0 5)) :
    Calls Tryd.prog 7 #[.agg #[.int .i64 n, .int .i64 d], .string t] w fun e w' => e = .returned (.bool true) ∧ Below w.heap.size w w' := by
  have hs' : (t.size : Int) ≤ 1000 := by omega
  clear hs
  have HV := Lib.hid hV
  clear hV
  have HX := Lib.hid hX
  clear hX
  have HP := Lib.hid hP
  clear hP
  have HQ := Lib.hid hQ
  clear hQ
  have T0 : Hid (Trk w w) := Lib.hid ⟨ht, Below.refl _ _⟩
  clear ht
  have T1 := Lib.hid (T0.out.alloc (.cells #[.int .i64 n, .int .i64 d] 25))
  have A := Lib.hid (C2.new (w) (.int .i64 n) (.int .i64 d) 25)
  go_enter Tryd.func7, Tryd.ntmps7
  go_wp2_with fail
  generalize (w).alloc (.cells #[.int .i64 n, .int .i64 d] 25) = w1 at *
  refine (head01 _ T1.out.tabs).mono ?_
  rintro e w2 ⟨rfl, hb⟩
  have T2 := Lib.hid (T1.out.step hb)
  have A' := Lib.hid (A.out.step hb)
  clear A
  have A := Lib.hid A'.out
  clear A'
  clear hb
  obtain ⟨cA0, cA1⟩ := A.out.cells
  go_wp2_with fail
  refine (HX.out _ T2.out.tabs).mono ?_
  rintro e w3 ⟨rfl, hb⟩
  have T3 := Lib.hid (T2.out.step hb)
  have A' := Lib.hid (A.out.step hb)
  clear A
  have A := Lib.hid A'.out
  clear A'
  clear hb
  clear cA0 cA1
  obtain ⟨cA0, cA1⟩ := A.out.cells
  go_wp2_with fail
  refine (HV.out _).mono ?_
  rintro e w4 ⟨rfl, hb⟩
  have T4 := Lib.hid (T3.out.step hb)
  have A' := Lib.hid (A.out.step hb)
  clear A
  have A := Lib.hid A'.out
  clear A'
  clear hb
  clear cA0 cA1
  obtain ⟨cA0, cA1⟩ := A.out.cells
  go_wp2_with fail
  refine (HP.out _ T4.out.tabs).mono ?_
  rintro e w5 ⟨rfl, hb⟩
  have T5 := Lib.hid (T4.out.step hb)
  have A' := Lib.hid (A.out.step hb)
  clear A
  have A := Lib.hid A'.out
  clear A'
  clear hb
  clear cA0 cA1
  have T6 := Lib.hid (T5.out.alloc (.cells #[.int .i64 0, .int .i64 0] 25))
  have A' := Lib.hid (A.out.alloc (.cells #[.int .i64 0, .int .i64 0] 25))
  clear A
  have A := Lib.hid A'.out
  clear A'
  have B := Lib.hid (C2.new w5 (.int .i64 0) (.int .i64 0) 25)
  obtain ⟨cA0, cA1⟩ := A.out.cells
  obtain ⟨cB0, cB1⟩ := B.out.cells
  go_wp2_with fail
  generalize w5.alloc (.cells #[.int .i64 0, .int .i64 0] 25) = w6 at *
  generalize w5.heap.size = nB at *
  refine (HQ.out _ T6.out.tabs).mono ?_
  rintro e w7 ⟨rfl, hb⟩
  have T7 := Lib.hid (T6.out.step hb)
  have A' := Lib.hid (A.out.step hb)
  clear A
  have A := Lib.hid A'.out
  clear A'
  have B' := Lib.hid (B.out.step hb)
  clear B
  have B := Lib.hid B'.out
  clear B'
  clear hb
  clear cA0 cA1 cB0 cB1
  have T8 := Lib.hid (T7.out.alloc (.cells #[.int .i64 0, .int .i64 0] 25))
  have A' := Lib.hid (A.out.alloc (.cells #[.int .i64 0, .int .i64 0] 25))
  clear A
  have A := Lib.hid A'.out
  clear A'
  have B' := Lib.hid (B.out.alloc (.cells #[.int .i64 0, .int .i64 0] 25))
  clear B
  have B := Lib.hid B'.out
  clear B'
  have C := Lib.hid (C2.new w7 (.int .i64 0) (.int .i64 0) 25)
  obtain ⟨cA0, cA1⟩ := A.out.cells
  obtain ⟨cB0, cB1⟩ := B.out.cells
  obtain ⟨cC0, cC1⟩ := C.out.cells
  go_wp2_with fail
  generalize w7.alloc (.cells #[.int .i64 0, .int .i64 0] 25) = w8 at *
  generalize w7.heap.size = nC at *
  go_ret
  exact ⟨rfl, T8.out.bel⟩

theorem toList_ne {s : ByteArray} (h : s.data.toList ≠ []) : s.toList.isEmpty = false := by
  obtain ⟨k, rfl⟩ : ∃ k : List UInt8, s = ⟨k.toArray⟩ := ⟨s.data.toList, by simp⟩
  have h2 : k ≠ [] := by simpa using h
  simpa using h2
theorem law_RatioTexts (n d : Int) (t : ByteArray) (w : World) (hn : (Lit.int .i64 n).wf = true) (hd : (Lit.int .i64 d).wf = true) (hm : t.size ≤ maxLen) (ht : Tabs w) :
    Calls Tryd.prog 7 #[.agg #[.int .i64 n, .int .i64 d], .string t] w fun e w' => e = .returned (.bool true) ∧ Below w.heap.size w w' := by
  have hn : I64 n := by simp only [Lit.wf, Bool.and_eq_true, decide_eq_true_eq] at hn; exact hn
  have hd : I64 d := by simp only [Lit.wf, Bool.and_eq_true, decide_eq_true_eq] at hd; exact hd
  by_cases hs : t.size ≤ 1000
  · by_cases hp : ∃ p, Rok p ∧ txt p = t
    · obtain ⟨p, hp, rfl⟩ := hp
      have hQ := fun w ht => Parse_txt p w hp ht
      rcases hv : vld n d with _ | _
      · exact texts_ip n d _ _ (txt p) w hs ht (V_no hn hd hv) (fun w _ => Text_no n d w (V_no hn hd hv)) (fun w ht => Parse_not ⟨#[]⟩ w (by decide) (fun q _ e => txt_ne q (by rw [e])) ht) hQ (V_ok hp) (fun w ht => Text_ok p w hp ht)
      · obtain ⟨q, rfl, rfl, hq⟩ := vld_q hv
        exact texts_vp _ _ _ _ (txt q) (txt p) w hs ht (V_ok hq) (fun w ht => Text_ok q w hq ht) (fun w ht => Parse_txt q w hq ht) hQ (V_ok hp) (fun w ht => Text_ok p w hp ht) (toList_ne (txt_ne q))
    · have hQ := fun w ht => Parse_not t w hs (fun q hq e => hp ⟨q, hq, e⟩) ht
      rcases hv : vld n d with _ | _
      · exact texts_in n d t w hs ht (V_no hn hd hv) (fun w _ => Text_no n d w (V_no hn hd hv)) (fun w ht => Parse_not ⟨#[]⟩ w (by decide) (fun q _ e => txt_ne q (by rw [e])) ht) hQ
      · obtain ⟨q, rfl, rfl, hq⟩ := vld_q hv
        exact texts_vn _ _ (txt q) t w hs ht (V_ok hq) (fun w ht => Text_ok q w hq ht) (fun w ht => Parse_txt q w hq ht) hQ (toList_ne (txt_ne q))
  · exact texts_big n d t w (by omega) hm ht
end Go.Proofs.YtfcdoifijgbjeaaDoor
