/- Layer 01: Parse's walk. -/
import Derived.Test.YtfcdoifijgbjeaaDoorEC
import Derived.Test.YtfcdoifijgbjeaaDoorItoa
namespace Go.Proofs.YtfcdoifijgbjeaaDoor
open Go.RowKit

set_option maxHeartbeats 1000000 in
theorem Parse_e1t (l s u : ByteArray) (w : World) (ht : Tabs w)
    (hCt : ∀ w, Tabs w → Calls Tryd.prog 46 #[.string l, .string ⟨#[47]⟩] w fun e w' => e = .returned (.tuple #[.string s, .string u, .bool true]) ∧ Below w.heap.size w w')
    (hP : ∀ w, Tabs w → Calls Tryd.prog 47 #[.string s, .int .i64 10, .int .i64 64] w fun e w' => (∃ v p, e = .returned (.tuple #[.int .i64 v, .iface 77 p])) ∧ Below w.heap.size w w') :
    Calls Tryd.prog 23 #[.string l] w fun e' w' => e' = .returned (.tuple #[.agg #[.int .i64 0, .int .i64 0], .int .i64 5]) ∧ Below w.heap.size w w' := by
  have HCt := Lib.hid hCt
  have HP := Lib.hid hP
  have HT := Lib.hid (ht.alloc (.cells #[.int .i64 0, .int .i64 0] 25))
  clear hCt hP ht
  have t := there_new w #[.int .i64 0, .int .i64 0] 25 2 (by simp)
  have hb := (Below.refl w.heap.size w).alloc (Nat.le_refl _) (.cells #[.int .i64 0, .int .i64 0] 25)
  have hz : (w.alloc (.cells #[.int .i64 0, .int .i64 0] 25)).heap.size = w.heap.size + 1 := by simp
  have HTh := Lib.hid t
  clear t
  go_enter Tryd.func23, Tryd.ntmps23
  go_wp2_with fail
  generalize w.alloc (.cells #[.int .i64 0, .int .i64 0] 25) = w0 at *
  refine (HCt.out _ HT.out).mono ?_
  rintro e w1 ⟨rfl, hb1⟩
  have hs1 := hb1.size
  have HB1 := Lib.hid (hb.trans (hb1.mono (by omega)))
  have HT1 := Lib.hid (HT.out.below hb1 (Nat.le_refl _))
  have HTh1 := Lib.hid (there_below HTh.out hb1 (by omega))
  have HZ1 : Hid (w.heap.size < w1.heap.size) := Lib.hid (by omega)
  clear hb1 hb hz hs1
  go_wp2_with fail
  refine (HP.out _ HT1.out).mono ?_
  rintro e w2 ⟨⟨v, p, rfl⟩, hb2⟩
  have HB2 := Lib.hid (HB1.out.trans (hb2.mono (Nat.le_of_lt HZ1.out)))
  have HT2 := Lib.hid (HT1.out.below hb2 (Nat.le_refl _))
  have HTh2 := Lib.hid (there_below HTh1.out hb2 HZ1.out)
  have HZ2 := Lib.hid (Nat.lt_of_lt_of_le HZ1.out hb2.size)
  clear hb2
  have HTx := Lib.hid (HT2.out.alloc (.cells #[.int .i64 v, .int .i64 1] 25))
  have HBx := Lib.hid (HB2.out.alloc (Nat.le_of_lt HZ2.out) (.cells #[.int .i64 v, .int .i64 1] 25))
  have HThx := Lib.hid (there_below (w' := w2.alloc (.cells #[.int .i64 v, .int .i64 1] 25)) HTh2.out ((Below.refl _ _).alloc (Nat.le_refl _) _) HZ2.out)
  have t := HThx.out
  have k0 := (t 0 (by omega)).2
  have k1 := (t 1 (by omega)).2
  have d0 := there_cell t 0 (by omega)
  have d1 := there_cell t 1 (by omega)
  rw [Nat.zero_add] at k0 k1 d0 d1
  have r : (w2.alloc (.cells #[.int .i64 v, .int .i64 1] 25)).rangeAt w.heap.size 0 [valAt (w2.alloc (.cells #[.int .i64 v, .int .i64 1] 25)) ⟨w.heap.size, 0, none⟩, valAt (w2.alloc (.cells #[.int .i64 v, .int .i64 1] 25)) ⟨w.heap.size, 1, none⟩] := fun j u hj => by
    match j, hj with
    | 0, hj => simp at hj; subst hj; simpa using d0
    | 1, hj => simp at hj; subst hj; simpa using d1
  have HR6 := Lib.hid (rangeAt_set (rangeAt_set r 0 (.int .i64 0)) 1 (.int .i64 0))
  have HB6 := Lib.hid ((HBx.out.setCell (p := ⟨w.heap.size, 0, none⟩) (Nat.le_refl _) (.int .i64 0)).setCell (p := ⟨w.heap.size, 1, none⟩) (Nat.le_refl _) (.int .i64 0))
  clear t r
  go_wp2_with fail
  exact bodyPost_ret (results_cell_tmp_mid Tryd.results23 _ _ w.heap.size 0 [.int .i64 0, .int .i64 0] _ rfl HR6.out Tryd.underlying25 rfl (by kernel_rfl)) rfl ⟨rfl, HB6.out⟩
set_option maxHeartbeats 1000000 in
theorem Parse_e1f (l s u : ByteArray) (w : World) (ht : Tabs w)
    (hCt : ∀ w, Tabs w → Calls Tryd.prog 46 #[.string l, .string ⟨#[47]⟩] w fun e w' => e = .returned (.tuple #[.string s, .string u, .bool false]) ∧ Below w.heap.size w w')
    (hP : ∀ w, Tabs w → Calls Tryd.prog 47 #[.string s, .int .i64 10, .int .i64 64] w fun e w' => (∃ v p, e = .returned (.tuple #[.int .i64 v, .iface 77 p])) ∧ Below w.heap.size w w') :
    Calls Tryd.prog 23 #[.string l] w fun e' w' => e' = .returned (.tuple #[.agg #[.int .i64 0, .int .i64 0], .int .i64 5]) ∧ Below w.heap.size w w' := by
  have HCt := Lib.hid hCt
  have HP := Lib.hid hP
  have HT := Lib.hid (ht.alloc (.cells #[.int .i64 0, .int .i64 0] 25))
  clear hCt hP ht
  have t := there_new w #[.int .i64 0, .int .i64 0] 25 2 (by simp)
  have hb := (Below.refl w.heap.size w).alloc (Nat.le_refl _) (.cells #[.int .i64 0, .int .i64 0] 25)
  have hz : (w.alloc (.cells #[.int .i64 0, .int .i64 0] 25)).heap.size = w.heap.size + 1 := by simp
  have HTh := Lib.hid t
  clear t
  go_enter Tryd.func23, Tryd.ntmps23
  go_wp2_with fail
  generalize w.alloc (.cells #[.int .i64 0, .int .i64 0] 25) = w0 at *
  refine (HCt.out _ HT.out).mono ?_
  rintro e w1 ⟨rfl, hb1⟩
  have hs1 := hb1.size
  have HB1 := Lib.hid (hb.trans (hb1.mono (by omega)))
  have HT1 := Lib.hid (HT.out.below hb1 (Nat.le_refl _))
  have HTh1 := Lib.hid (there_below HTh.out hb1 (by omega))
  have HZ1 : Hid (w.heap.size < w1.heap.size) := Lib.hid (by omega)
  clear hb1 hb hz hs1
  go_wp2_with fail
  refine (HP.out _ HT1.out).mono ?_
  rintro e w2 ⟨⟨v, p, rfl⟩, hb2⟩
  have HB2 := Lib.hid (HB1.out.trans (hb2.mono (Nat.le_of_lt HZ1.out)))
  have HT2 := Lib.hid (HT1.out.below hb2 (Nat.le_refl _))
  have HTh2 := Lib.hid (there_below HTh1.out hb2 HZ1.out)
  have HZ2 := Lib.hid (Nat.lt_of_lt_of_le HZ1.out hb2.size)
  clear hb2
  have HTx := Lib.hid (HT2.out.alloc (.cells #[.int .i64 v, .int .i64 1] 25))
  have HBx := Lib.hid (HB2.out.alloc (Nat.le_of_lt HZ2.out) (.cells #[.int .i64 v, .int .i64 1] 25))
  have HThx := Lib.hid (there_below (w' := w2.alloc (.cells #[.int .i64 v, .int .i64 1] 25)) HTh2.out ((Below.refl _ _).alloc (Nat.le_refl _) _) HZ2.out)
  have t := HThx.out
  have k0 := (t 0 (by omega)).2
  have k1 := (t 1 (by omega)).2
  have d0 := there_cell t 0 (by omega)
  have d1 := there_cell t 1 (by omega)
  rw [Nat.zero_add] at k0 k1 d0 d1
  have r : (w2.alloc (.cells #[.int .i64 v, .int .i64 1] 25)).rangeAt w.heap.size 0 [valAt (w2.alloc (.cells #[.int .i64 v, .int .i64 1] 25)) ⟨w.heap.size, 0, none⟩, valAt (w2.alloc (.cells #[.int .i64 v, .int .i64 1] 25)) ⟨w.heap.size, 1, none⟩] := fun j u hj => by
    match j, hj with
    | 0, hj => simp at hj; subst hj; simpa using d0
    | 1, hj => simp at hj; subst hj; simpa using d1
  have HR6 := Lib.hid (rangeAt_set (rangeAt_set r 0 (.int .i64 0)) 1 (.int .i64 0))
  have HB6 := Lib.hid ((HBx.out.setCell (p := ⟨w.heap.size, 0, none⟩) (Nat.le_refl _) (.int .i64 0)).setCell (p := ⟨w.heap.size, 1, none⟩) (Nat.le_refl _) (.int .i64 0))
  clear t r
  go_wp2_with fail
  exact bodyPost_ret (results_cell_tmp_mid Tryd.results23 _ _ w.heap.size 0 [.int .i64 0, .int .i64 0] _ rfl HR6.out Tryd.underlying25 rfl (by kernel_rfl)) rfl ⟨rfl, HB6.out⟩
set_option maxHeartbeats 1000000 in
theorem Parse_e2 (l s u : ByteArray) (n : Int) (w : World) (ht : Tabs w)
    (hCt : ∀ w, Tabs w → Calls Tryd.prog 46 #[.string l, .string ⟨#[47]⟩] w fun e w' => e = .returned (.tuple #[.string s, .string u, .bool true]) ∧ Below w.heap.size w w')
    (hP : ∀ w, Tabs w → Calls Tryd.prog 47 #[.string s, .int .i64 10, .int .i64 64] w fun e w' => e = .returned (.tuple #[.int .i64 n, .nilIface]) ∧ Below w.heap.size w w')
    (hQ : ∀ w, Tabs w → Calls Tryd.prog 47 #[.string u, .int .i64 10, .int .i64 64] w fun e w' => (∃ v p, e = .returned (.tuple #[.int .i64 v, .iface 77 p])) ∧ Below w.heap.size w w') :
    Calls Tryd.prog 23 #[.string l] w fun e' w' => e' = .returned (.tuple #[.agg #[.int .i64 0, .int .i64 0], .int .i64 5]) ∧ Below w.heap.size w w' := by
  have HQ := Lib.hid hQ
  clear hQ
  have HCt := Lib.hid hCt
  have HP := Lib.hid hP
  have HT := Lib.hid (ht.alloc (.cells #[.int .i64 0, .int .i64 0] 25))
  clear hCt hP ht
  have t := there_new w #[.int .i64 0, .int .i64 0] 25 2 (by simp)
  have hb := (Below.refl w.heap.size w).alloc (Nat.le_refl _) (.cells #[.int .i64 0, .int .i64 0] 25)
  have hz : (w.alloc (.cells #[.int .i64 0, .int .i64 0] 25)).heap.size = w.heap.size + 1 := by simp
  have HTh := Lib.hid t
  clear t
  go_enter Tryd.func23, Tryd.ntmps23
  go_wp2_with fail
  generalize w.alloc (.cells #[.int .i64 0, .int .i64 0] 25) = w0 at *
  refine (HCt.out _ HT.out).mono ?_
  rintro e w1 ⟨rfl, hb1⟩
  have hs1 := hb1.size
  have HB1 := Lib.hid (hb.trans (hb1.mono (by omega)))
  have HT1 := Lib.hid (HT.out.below hb1 (Nat.le_refl _))
  have HTh1 := Lib.hid (there_below HTh.out hb1 (by omega))
  have HZ1 : Hid (w.heap.size < w1.heap.size) := Lib.hid (by omega)
  clear hb1 hb hz hs1
  go_wp2_with fail
  refine (HP.out _ HT1.out).mono ?_
  rintro e w2 ⟨rfl, hb2⟩
  have HB2 := Lib.hid (HB1.out.trans (hb2.mono (Nat.le_of_lt HZ1.out)))
  have HT2 := Lib.hid (HT1.out.below hb2 (Nat.le_refl _))
  have HTh2 := Lib.hid (there_below HTh1.out hb2 HZ1.out)
  have HZ2 := Lib.hid (Nat.lt_of_lt_of_le HZ1.out hb2.size)
  clear hb2
  go_wp2_with fail
  refine (HQ.out _ HT2.out).mono ?_
  rintro e w3 ⟨⟨v, p, rfl⟩, hb3⟩
  have HB3 := Lib.hid (HB2.out.trans (hb3.mono (Nat.le_of_lt HZ2.out)))
  have HT3 := Lib.hid (HT2.out.below hb3 (Nat.le_refl _))
  have HTh3 := Lib.hid (there_below HTh2.out hb3 HZ2.out)
  have HZ3 := Lib.hid (Nat.lt_of_lt_of_le HZ2.out hb3.size)
  clear hb3
  have HBx := Lib.hid (HB3.out.alloc (Nat.le_of_lt HZ3.out) (.cells #[.int .i64 n, .int .i64 v] 25))
  have HThx := Lib.hid (there_below (w' := w3.alloc (.cells #[.int .i64 n, .int .i64 v] 25)) HTh3.out ((Below.refl _ _).alloc (Nat.le_refl _) _) HZ3.out)
  have t := HThx.out
  have k0 := (t 0 (by omega)).2
  have k1 := (t 1 (by omega)).2
  have d0 := there_cell t 0 (by omega)
  have d1 := there_cell t 1 (by omega)
  rw [Nat.zero_add] at k0 k1 d0 d1
  have r : (w3.alloc (.cells #[.int .i64 n, .int .i64 v] 25)).rangeAt w.heap.size 0 [valAt (w3.alloc (.cells #[.int .i64 n, .int .i64 v] 25)) ⟨w.heap.size, 0, none⟩, valAt (w3.alloc (.cells #[.int .i64 n, .int .i64 v] 25)) ⟨w.heap.size, 1, none⟩] := fun j u hj => by
    match j, hj with
    | 0, hj => simp at hj; subst hj; simpa using d0
    | 1, hj => simp at hj; subst hj; simpa using d1
  have HR6 := Lib.hid (rangeAt_set (rangeAt_set r 0 (.int .i64 0)) 1 (.int .i64 0))
  have HB6 := Lib.hid ((HBx.out.setCell (p := ⟨w.heap.size, 0, none⟩) (Nat.le_refl _) (.int .i64 0)).setCell (p := ⟨w.heap.size, 1, none⟩) (Nat.le_refl _) (.int .i64 0))
  clear t r
  go_wp2_with fail
  exact bodyPost_ret (results_cell_tmp_mid Tryd.results23 _ _ w.heap.size 0 [.int .i64 0, .int .i64 0] _ rfl HR6.out Tryd.underlying25 rfl (by kernel_rfl)) rfl ⟨rfl, HB6.out⟩
set_option maxHeartbeats 1000000 in
theorem Parse_ok2 (l s u : ByteArray) (n d : Int) (w : World) (ht : Tabs w)
    (hCt : ∀ w, Tabs w → Calls Tryd.prog 46 #[.string l, .string ⟨#[47]⟩] w fun e w' => e = .returned (.tuple #[.string s, .string u, .bool true]) ∧ Below w.heap.size w w')
    (hP : ∀ w, Tabs w → Calls Tryd.prog 47 #[.string s, .int .i64 10, .int .i64 64] w fun e w' => e = .returned (.tuple #[.int .i64 n, .nilIface]) ∧ Below w.heap.size w w')
    (hQ : ∀ w, Tabs w → Calls Tryd.prog 47 #[.string u, .int .i64 10, .int .i64 64] w fun e w' => e = .returned (.tuple #[.int .i64 d, .nilIface]) ∧ Below w.heap.size w w')
    (hX : ∀ w, Tabs w → Calls Tryd.prog 22 #[.agg #[.int .i64 n, .int .i64 d]] w fun e w' => e = .returned (.string l) ∧ Below w.heap.size w w') :
    Calls Tryd.prog 23 #[.string l] w fun e' w' => e' = .returned (.tuple #[.agg #[.int .i64 n, .int .i64 d], .int .i64 0]) ∧ Below w.heap.size w w' := by
  have HX := Lib.hid hX
  clear hX
  have HQ := Lib.hid hQ
  clear hQ
  have HCt := Lib.hid hCt
  have HP := Lib.hid hP
  have HT := Lib.hid (ht.alloc (.cells #[.int .i64 0, .int .i64 0] 25))
  clear hCt hP ht
  have t := there_new w #[.int .i64 0, .int .i64 0] 25 2 (by simp)
  have hb := (Below.refl w.heap.size w).alloc (Nat.le_refl _) (.cells #[.int .i64 0, .int .i64 0] 25)
  have hz : (w.alloc (.cells #[.int .i64 0, .int .i64 0] 25)).heap.size = w.heap.size + 1 := by simp
  have HTh := Lib.hid t
  clear t
  go_enter Tryd.func23, Tryd.ntmps23
  go_wp2_with fail
  generalize w.alloc (.cells #[.int .i64 0, .int .i64 0] 25) = w0 at *
  refine (HCt.out _ HT.out).mono ?_
  rintro e w1 ⟨rfl, hb1⟩
  have hs1 := hb1.size
  have HB1 := Lib.hid (hb.trans (hb1.mono (by omega)))
  have HT1 := Lib.hid (HT.out.below hb1 (Nat.le_refl _))
  have HTh1 := Lib.hid (there_below HTh.out hb1 (by omega))
  have HZ1 : Hid (w.heap.size < w1.heap.size) := Lib.hid (by omega)
  clear hb1 hb hz hs1
  go_wp2_with fail
  refine (HP.out _ HT1.out).mono ?_
  rintro e w2 ⟨rfl, hb2⟩
  have HB2 := Lib.hid (HB1.out.trans (hb2.mono (Nat.le_of_lt HZ1.out)))
  have HT2 := Lib.hid (HT1.out.below hb2 (Nat.le_refl _))
  have HTh2 := Lib.hid (there_below HTh1.out hb2 HZ1.out)
  have HZ2 := Lib.hid (Nat.lt_of_lt_of_le HZ1.out hb2.size)
  clear hb2
  go_wp2_with fail
  refine (HQ.out _ HT2.out).mono ?_
  rintro e w3 ⟨rfl, hb3⟩
  have HB3 := Lib.hid (HB2.out.trans (hb3.mono (Nat.le_of_lt HZ2.out)))
  have HT3 := Lib.hid (HT2.out.below hb3 (Nat.le_refl _))
  have HTh3 := Lib.hid (there_below HTh2.out hb3 HZ2.out)
  have HZ3 := Lib.hid (Nat.lt_of_lt_of_le HZ2.out hb3.size)
  clear hb3
  have hbx := box_facts w3 n d
  have HTx := Lib.hid (HT3.out.alloc (.cells #[.int .i64 n, .int .i64 d] 25))
  have HBx := Lib.hid (HB3.out.alloc (Nat.le_of_lt HZ3.out) (.cells #[.int .i64 n, .int .i64 d] 25))
  have HThx := Lib.hid (there_below (w' := w3.alloc (.cells #[.int .i64 n, .int .i64 d] 25)) HTh3.out ((Below.refl _ _).alloc (Nat.le_refl _) _) HZ3.out)
  obtain ⟨hc, _, hzx⟩ := hbx
  have HCx := Lib.hid hc
  have HZx : Hid (w.heap.size < (w3.alloc (.cells #[.int .i64 n, .int .i64 d] 25)).heap.size ∧ w3.heap.size < (w3.alloc (.cells #[.int .i64 n, .int .i64 d] 25)).heap.size) := Lib.hid (by have := HZ3.out; omega)
  obtain ⟨c0, c1⟩ := hc
  clear hzx
  go_wp2_with fail
  generalize w3.alloc (.cells #[.int .i64 n, .int .i64 d] 25) = w4 at *
  refine (HX.out _ HTx.out).mono ?_
  rintro e w5 ⟨rfl, hb5⟩
  have HB5 := Lib.hid (HBx.out.trans (hb5.mono (Nat.le_of_lt HZx.out.1)))
  have HTh5 := Lib.hid (there_below HThx.out hb5 HZx.out.1)
  have hne : w3.heap.size ≠ w.heap.size := by have := HZ3.out; omega
  clear c0 c1
  obtain ⟨c0, c1⟩ := cells2_below HCx.out hb5 HZx.out.2
  clear hb5
  have t := HTh5.out
  have k0 := (t 0 (by omega)).2
  have k1 := (t 1 (by omega)).2
  have d0 := there_cell t 0 (by omega)
  have d1 := there_cell t 1 (by omega)
  rw [Nat.zero_add] at k0 k1 d0 d1
  have r : w5.rangeAt w.heap.size 0 [valAt w5 ⟨w.heap.size, 0, none⟩, valAt w5 ⟨w.heap.size, 1, none⟩] := fun j u hj => by
    match j, hj with
    | 0, hj => simp at hj; subst hj; simpa using d0
    | 1, hj => simp at hj; subst hj; simpa using d1
  have HR6 := Lib.hid (rangeAt_set (rangeAt_set r 0 (.int .i64 n)) 1 (.int .i64 d))
  have HB6 := Lib.hid ((HB5.out.setCell (p := ⟨w.heap.size, 0, none⟩) (Nat.le_refl _) (.int .i64 n)).setCell (p := ⟨w.heap.size, 1, none⟩) (Nat.le_refl _) (.int .i64 d))
  clear t r
  go_wp2_with fail
  exact bodyPost_ret (results_cell_tmp_mid Tryd.results23 _ _ w.heap.size 0 [.int .i64 n, .int .i64 d] _ rfl HR6.out Tryd.underlying25 rfl (by kernel_rfl)) rfl ⟨rfl, HB6.out⟩
set_option maxHeartbeats 1000000 in
theorem Parse_no2 (l s u : ByteArray) (n d : Int) (x : ByteArray) (w : World) (ht : Tabs w)
    (hCt : ∀ w, Tabs w → Calls Tryd.prog 46 #[.string l, .string ⟨#[47]⟩] w fun e w' => e = .returned (.tuple #[.string s, .string u, .bool true]) ∧ Below w.heap.size w w')
    (hP : ∀ w, Tabs w → Calls Tryd.prog 47 #[.string s, .int .i64 10, .int .i64 64] w fun e w' => e = .returned (.tuple #[.int .i64 n, .nilIface]) ∧ Below w.heap.size w w')
    (hQ : ∀ w, Tabs w → Calls Tryd.prog 47 #[.string u, .int .i64 10, .int .i64 64] w fun e w' => e = .returned (.tuple #[.int .i64 d, .nilIface]) ∧ Below w.heap.size w w')
    (hX : ∀ w, Tabs w → Calls Tryd.prog 22 #[.agg #[.int .i64 n, .int .i64 d]] w fun e w' => e = .returned (.string x) ∧ Below w.heap.size w w') (hne0 : (!x.toList == l.toList) = true) :
    Calls Tryd.prog 23 #[.string l] w fun e' w' => e' = .returned (.tuple #[.agg #[.int .i64 0, .int .i64 0], .int .i64 5]) ∧ Below w.heap.size w w' := by
  have HX := Lib.hid hX
  clear hX
  have HQ := Lib.hid hQ
  clear hQ
  have HCt := Lib.hid hCt
  have HP := Lib.hid hP
  have HT := Lib.hid (ht.alloc (.cells #[.int .i64 0, .int .i64 0] 25))
  clear hCt hP ht
  have t := there_new w #[.int .i64 0, .int .i64 0] 25 2 (by simp)
  have hb := (Below.refl w.heap.size w).alloc (Nat.le_refl _) (.cells #[.int .i64 0, .int .i64 0] 25)
  have hz : (w.alloc (.cells #[.int .i64 0, .int .i64 0] 25)).heap.size = w.heap.size + 1 := by simp
  have HTh := Lib.hid t
  clear t
  go_enter Tryd.func23, Tryd.ntmps23
  go_wp2_with fail
  generalize w.alloc (.cells #[.int .i64 0, .int .i64 0] 25) = w0 at *
  refine (HCt.out _ HT.out).mono ?_
  rintro e w1 ⟨rfl, hb1⟩
  have hs1 := hb1.size
  have HB1 := Lib.hid (hb.trans (hb1.mono (by omega)))
  have HT1 := Lib.hid (HT.out.below hb1 (Nat.le_refl _))
  have HTh1 := Lib.hid (there_below HTh.out hb1 (by omega))
  have HZ1 : Hid (w.heap.size < w1.heap.size) := Lib.hid (by omega)
  clear hb1 hb hz hs1
  go_wp2_with fail
  refine (HP.out _ HT1.out).mono ?_
  rintro e w2 ⟨rfl, hb2⟩
  have HB2 := Lib.hid (HB1.out.trans (hb2.mono (Nat.le_of_lt HZ1.out)))
  have HT2 := Lib.hid (HT1.out.below hb2 (Nat.le_refl _))
  have HTh2 := Lib.hid (there_below HTh1.out hb2 HZ1.out)
  have HZ2 := Lib.hid (Nat.lt_of_lt_of_le HZ1.out hb2.size)
  clear hb2
  go_wp2_with fail
  refine (HQ.out _ HT2.out).mono ?_
  rintro e w3 ⟨rfl, hb3⟩
  have HB3 := Lib.hid (HB2.out.trans (hb3.mono (Nat.le_of_lt HZ2.out)))
  have HT3 := Lib.hid (HT2.out.below hb3 (Nat.le_refl _))
  have HTh3 := Lib.hid (there_below HTh2.out hb3 HZ2.out)
  have HZ3 := Lib.hid (Nat.lt_of_lt_of_le HZ2.out hb3.size)
  clear hb3
  have hbx := box_facts w3 n d
  have HTx := Lib.hid (HT3.out.alloc (.cells #[.int .i64 n, .int .i64 d] 25))
  have HBx := Lib.hid (HB3.out.alloc (Nat.le_of_lt HZ3.out) (.cells #[.int .i64 n, .int .i64 d] 25))
  have HThx := Lib.hid (there_below (w' := w3.alloc (.cells #[.int .i64 n, .int .i64 d] 25)) HTh3.out ((Below.refl _ _).alloc (Nat.le_refl _) _) HZ3.out)
  obtain ⟨hc, _, hzx⟩ := hbx
  have HCx := Lib.hid hc
  have HZx : Hid (w.heap.size < (w3.alloc (.cells #[.int .i64 n, .int .i64 d] 25)).heap.size ∧ w3.heap.size < (w3.alloc (.cells #[.int .i64 n, .int .i64 d] 25)).heap.size) := Lib.hid (by have := HZ3.out; omega)
  obtain ⟨c0, c1⟩ := hc
  clear hzx
  go_wp2_with fail
  generalize w3.alloc (.cells #[.int .i64 n, .int .i64 d] 25) = w4 at *
  refine (HX.out _ HTx.out).mono ?_
  rintro e w5 ⟨rfl, hb5⟩
  have HB5 := Lib.hid (HBx.out.trans (hb5.mono (Nat.le_of_lt HZx.out.1)))
  have HTh5 := Lib.hid (there_below HThx.out hb5 HZx.out.1)
  have hne : w3.heap.size ≠ w.heap.size := by have := HZ3.out; omega
  clear c0 c1
  obtain ⟨c0, c1⟩ := cells2_below HCx.out hb5 HZx.out.2
  clear hb5
  have t := HTh5.out
  have k0 := (t 0 (by omega)).2
  have k1 := (t 1 (by omega)).2
  have d0 := there_cell t 0 (by omega)
  have d1 := there_cell t 1 (by omega)
  rw [Nat.zero_add] at k0 k1 d0 d1
  have r : w5.rangeAt w.heap.size 0 [valAt w5 ⟨w.heap.size, 0, none⟩, valAt w5 ⟨w.heap.size, 1, none⟩] := fun j u hj => by
    match j, hj with
    | 0, hj => simp at hj; subst hj; simpa using d0
    | 1, hj => simp at hj; subst hj; simpa using d1
  have HR6 := Lib.hid (rangeAt_set (rangeAt_set r 0 (.int .i64 0)) 1 (.int .i64 0))
  have HB6 := Lib.hid ((HB5.out.setCell (p := ⟨w.heap.size, 0, none⟩) (Nat.le_refl _) (.int .i64 0)).setCell (p := ⟨w.heap.size, 1, none⟩) (Nat.le_refl _) (.int .i64 0))
  clear t r
  go_wp2_with fail
  exact bodyPost_ret (results_cell_tmp_mid Tryd.results23 _ _ w.heap.size 0 [.int .i64 0, .int .i64 0] _ rfl HR6.out Tryd.underlying25 rfl (by kernel_rfl)) rfl ⟨rfl, HB6.out⟩
set_option maxHeartbeats 1000000 in
theorem Parse_ok1 (l s u : ByteArray) (n : Int) (w : World) (ht : Tabs w)
    (hCt : ∀ w, Tabs w → Calls Tryd.prog 46 #[.string l, .string ⟨#[47]⟩] w fun e w' => e = .returned (.tuple #[.string s, .string u, .bool false]) ∧ Below w.heap.size w w')
    (hP : ∀ w, Tabs w → Calls Tryd.prog 47 #[.string s, .int .i64 10, .int .i64 64] w fun e w' => e = .returned (.tuple #[.int .i64 n, .nilIface]) ∧ Below w.heap.size w w')
    (hX : ∀ w, Tabs w → Calls Tryd.prog 22 #[.agg #[.int .i64 n, .int .i64 1]] w fun e w' => e = .returned (.string l) ∧ Below w.heap.size w w') :
    Calls Tryd.prog 23 #[.string l] w fun e' w' => e' = .returned (.tuple #[.agg #[.int .i64 n, .int .i64 1], .int .i64 0]) ∧ Below w.heap.size w w' := by
  have HX := Lib.hid hX
  clear hX
  have HCt := Lib.hid hCt
  have HP := Lib.hid hP
  have HT := Lib.hid (ht.alloc (.cells #[.int .i64 0, .int .i64 0] 25))
  clear hCt hP ht
  have t := there_new w #[.int .i64 0, .int .i64 0] 25 2 (by simp)
  have hb := (Below.refl w.heap.size w).alloc (Nat.le_refl _) (.cells #[.int .i64 0, .int .i64 0] 25)
  have hz : (w.alloc (.cells #[.int .i64 0, .int .i64 0] 25)).heap.size = w.heap.size + 1 := by simp
  have HTh := Lib.hid t
  clear t
  go_enter Tryd.func23, Tryd.ntmps23
  go_wp2_with fail
  generalize w.alloc (.cells #[.int .i64 0, .int .i64 0] 25) = w0 at *
  refine (HCt.out _ HT.out).mono ?_
  rintro e w1 ⟨rfl, hb1⟩
  have hs1 := hb1.size
  have HB1 := Lib.hid (hb.trans (hb1.mono (by omega)))
  have HT1 := Lib.hid (HT.out.below hb1 (Nat.le_refl _))
  have HTh1 := Lib.hid (there_below HTh.out hb1 (by omega))
  have HZ1 : Hid (w.heap.size < w1.heap.size) := Lib.hid (by omega)
  clear hb1 hb hz hs1
  go_wp2_with fail
  refine (HP.out _ HT1.out).mono ?_
  rintro e w2 ⟨rfl, hb2⟩
  have HB2 := Lib.hid (HB1.out.trans (hb2.mono (Nat.le_of_lt HZ1.out)))
  have HT2 := Lib.hid (HT1.out.below hb2 (Nat.le_refl _))
  have HTh2 := Lib.hid (there_below HTh1.out hb2 HZ1.out)
  have HZ2 := Lib.hid (Nat.lt_of_lt_of_le HZ1.out hb2.size)
  clear hb2
  have hbx := box_facts w2 n 1
  have HTx := Lib.hid (HT2.out.alloc (.cells #[.int .i64 n, .int .i64 1] 25))
  have HBx := Lib.hid (HB2.out.alloc (Nat.le_of_lt HZ2.out) (.cells #[.int .i64 n, .int .i64 1] 25))
  have HThx := Lib.hid (there_below (w' := w2.alloc (.cells #[.int .i64 n, .int .i64 1] 25)) HTh2.out ((Below.refl _ _).alloc (Nat.le_refl _) _) HZ2.out)
  obtain ⟨hc, _, hzx⟩ := hbx
  have HCx := Lib.hid hc
  have HZx : Hid (w.heap.size < (w2.alloc (.cells #[.int .i64 n, .int .i64 1] 25)).heap.size ∧ w2.heap.size < (w2.alloc (.cells #[.int .i64 n, .int .i64 1] 25)).heap.size) := Lib.hid (by have := HZ2.out; omega)
  obtain ⟨c0, c1⟩ := hc
  clear hzx
  go_wp2_with fail
  generalize w2.alloc (.cells #[.int .i64 n, .int .i64 1] 25) = w3 at *
  refine (HX.out _ HTx.out).mono ?_
  rintro e w4 ⟨rfl, hb4⟩
  have HB4 := Lib.hid (HBx.out.trans (hb4.mono (Nat.le_of_lt HZx.out.1)))
  have HTh4 := Lib.hid (there_below HThx.out hb4 HZx.out.1)
  have hne : w2.heap.size ≠ w.heap.size := by have := HZ2.out; omega
  clear c0 c1
  obtain ⟨c0, c1⟩ := cells2_below HCx.out hb4 HZx.out.2
  clear hb4
  have t := HTh4.out
  have k0 := (t 0 (by omega)).2
  have k1 := (t 1 (by omega)).2
  have d0 := there_cell t 0 (by omega)
  have d1 := there_cell t 1 (by omega)
  rw [Nat.zero_add] at k0 k1 d0 d1
  have r : w4.rangeAt w.heap.size 0 [valAt w4 ⟨w.heap.size, 0, none⟩, valAt w4 ⟨w.heap.size, 1, none⟩] := fun j u hj => by
    match j, hj with
    | 0, hj => simp at hj; subst hj; simpa using d0
    | 1, hj => simp at hj; subst hj; simpa using d1
  have HR6 := Lib.hid (rangeAt_set (rangeAt_set r 0 (.int .i64 n)) 1 (.int .i64 1))
  have HB6 := Lib.hid ((HB4.out.setCell (p := ⟨w.heap.size, 0, none⟩) (Nat.le_refl _) (.int .i64 n)).setCell (p := ⟨w.heap.size, 1, none⟩) (Nat.le_refl _) (.int .i64 1))
  clear t r
  go_wp2_with fail
  exact bodyPost_ret (results_cell_tmp_mid Tryd.results23 _ _ w.heap.size 0 [.int .i64 n, .int .i64 1] _ rfl HR6.out Tryd.underlying25 rfl (by kernel_rfl)) rfl ⟨rfl, HB6.out⟩
set_option maxHeartbeats 1000000 in
theorem Parse_no1 (l s u : ByteArray) (n : Int) (x : ByteArray) (w : World) (ht : Tabs w)
    (hCt : ∀ w, Tabs w → Calls Tryd.prog 46 #[.string l, .string ⟨#[47]⟩] w fun e w' => e = .returned (.tuple #[.string s, .string u, .bool false]) ∧ Below w.heap.size w w')
    (hP : ∀ w, Tabs w → Calls Tryd.prog 47 #[.string s, .int .i64 10, .int .i64 64] w fun e w' => e = .returned (.tuple #[.int .i64 n, .nilIface]) ∧ Below w.heap.size w w')
    (hX : ∀ w, Tabs w → Calls Tryd.prog 22 #[.agg #[.int .i64 n, .int .i64 1]] w fun e w' => e = .returned (.string x) ∧ Below w.heap.size w w') (hne0 : (!x.toList == l.toList) = true) :
    Calls Tryd.prog 23 #[.string l] w fun e' w' => e' = .returned (.tuple #[.agg #[.int .i64 0, .int .i64 0], .int .i64 5]) ∧ Below w.heap.size w w' := by
  have HX := Lib.hid hX
  clear hX
  have HCt := Lib.hid hCt
  have HP := Lib.hid hP
  have HT := Lib.hid (ht.alloc (.cells #[.int .i64 0, .int .i64 0] 25))
  clear hCt hP ht
  have t := there_new w #[.int .i64 0, .int .i64 0] 25 2 (by simp)
  have hb := (Below.refl w.heap.size w).alloc (Nat.le_refl _) (.cells #[.int .i64 0, .int .i64 0] 25)
  have hz : (w.alloc (.cells #[.int .i64 0, .int .i64 0] 25)).heap.size = w.heap.size + 1 := by simp
  have HTh := Lib.hid t
  clear t
  go_enter Tryd.func23, Tryd.ntmps23
  go_wp2_with fail
  generalize w.alloc (.cells #[.int .i64 0, .int .i64 0] 25) = w0 at *
  refine (HCt.out _ HT.out).mono ?_
  rintro e w1 ⟨rfl, hb1⟩
  have hs1 := hb1.size
  have HB1 := Lib.hid (hb.trans (hb1.mono (by omega)))
  have HT1 := Lib.hid (HT.out.below hb1 (Nat.le_refl _))
  have HTh1 := Lib.hid (there_below HTh.out hb1 (by omega))
  have HZ1 : Hid (w.heap.size < w1.heap.size) := Lib.hid (by omega)
  clear hb1 hb hz hs1
  go_wp2_with fail
  refine (HP.out _ HT1.out).mono ?_
  rintro e w2 ⟨rfl, hb2⟩
  have HB2 := Lib.hid (HB1.out.trans (hb2.mono (Nat.le_of_lt HZ1.out)))
  have HT2 := Lib.hid (HT1.out.below hb2 (Nat.le_refl _))
  have HTh2 := Lib.hid (there_below HTh1.out hb2 HZ1.out)
  have HZ2 := Lib.hid (Nat.lt_of_lt_of_le HZ1.out hb2.size)
  clear hb2
  have hbx := box_facts w2 n 1
  have HTx := Lib.hid (HT2.out.alloc (.cells #[.int .i64 n, .int .i64 1] 25))
  have HBx := Lib.hid (HB2.out.alloc (Nat.le_of_lt HZ2.out) (.cells #[.int .i64 n, .int .i64 1] 25))
  have HThx := Lib.hid (there_below (w' := w2.alloc (.cells #[.int .i64 n, .int .i64 1] 25)) HTh2.out ((Below.refl _ _).alloc (Nat.le_refl _) _) HZ2.out)
  obtain ⟨hc, _, hzx⟩ := hbx
  have HCx := Lib.hid hc
  have HZx : Hid (w.heap.size < (w2.alloc (.cells #[.int .i64 n, .int .i64 1] 25)).heap.size ∧ w2.heap.size < (w2.alloc (.cells #[.int .i64 n, .int .i64 1] 25)).heap.size) := Lib.hid (by have := HZ2.out; omega)
  obtain ⟨c0, c1⟩ := hc
  clear hzx
  go_wp2_with fail
  generalize w2.alloc (.cells #[.int .i64 n, .int .i64 1] 25) = w3 at *
  refine (HX.out _ HTx.out).mono ?_
  rintro e w4 ⟨rfl, hb4⟩
  have HB4 := Lib.hid (HBx.out.trans (hb4.mono (Nat.le_of_lt HZx.out.1)))
  have HTh4 := Lib.hid (there_below HThx.out hb4 HZx.out.1)
  have hne : w2.heap.size ≠ w.heap.size := by have := HZ2.out; omega
  clear c0 c1
  obtain ⟨c0, c1⟩ := cells2_below HCx.out hb4 HZx.out.2
  clear hb4
  have t := HTh4.out
  have k0 := (t 0 (by omega)).2
  have k1 := (t 1 (by omega)).2
  have d0 := there_cell t 0 (by omega)
  have d1 := there_cell t 1 (by omega)
  rw [Nat.zero_add] at k0 k1 d0 d1
  have r : w4.rangeAt w.heap.size 0 [valAt w4 ⟨w.heap.size, 0, none⟩, valAt w4 ⟨w.heap.size, 1, none⟩] := fun j u hj => by
    match j, hj with
    | 0, hj => simp at hj; subst hj; simpa using d0
    | 1, hj => simp at hj; subst hj; simpa using d1
  have HR6 := Lib.hid (rangeAt_set (rangeAt_set r 0 (.int .i64 0)) 1 (.int .i64 0))
  have HB6 := Lib.hid ((HB4.out.setCell (p := ⟨w.heap.size, 0, none⟩) (Nat.le_refl _) (.int .i64 0)).setCell (p := ⟨w.heap.size, 1, none⟩) (Nat.le_refl _) (.int .i64 0))
  clear t r
  go_wp2_with fail
  exact bodyPost_ret (results_cell_tmp_mid Tryd.results23 _ _ w.heap.size 0 [.int .i64 0, .int .i64 0] _ rfl HR6.out Tryd.underlying25 rfl (by kernel_rfl)) rfl ⟨rfl, HB6.out⟩
end Go.Proofs.YtfcdoifijgbjeaaDoor
