/- ChainBeginnings: the walk and the law. -/
import Derived.Test.YtpdbcahiipbhnaaDoorMV
import Derived.Deep.QuietTactic
namespace Go.Proofs.YtpdbcahiipbhnaaDoor
open Go.RowKit

set_option maxHeartbeats 2000000 in
set_option maxRecDepth 100000 in
theorem begins_few (l : List Ent) (ao : Option Addr) (lb lo c : Nat) (ho y : Int) (r : Nat) (w : World) (hl : EntsAt w ao lb lo l) (ht : Tabs w) (nl : l.length ≤ 9223372036854775807) (f1 : fewE l 14 = false) :
    Calls Tryd.prog 12 #[.slice ao l.length c, .int .i64 ho, .int .i64 y, .int .u8 (r : Nat)] w fun e w' => e = .returned (.bool true) ∧ Below w.heap.size w w' := by
  have HL := Lib.hid hl
  have T0 := Lib.hid (Trk.start ht)
  clear hl ht
  go_enter Tryd.func12, Tryd.ntmps12
  go_wp2_with fail
  refine (head31 _ T0.out.tabs).mono ?_
  rintro e v1 ⟨rfl, hb⟩
  have T1 := Lib.hid (T0.out.step hb)
  replace HL := Lib.hid (HL.out.step hb)
  clear hb
  go_wp2_with fail
  have hx := Few_any l ao lb lo c 14 v1 nl HL.out
  rw [f1] at hx
  refine hx.mono ?_
  rintro e wx ⟨rfl, rfl⟩
  clear hx
  go_wp2_with fail
  go_ret
  exact ⟨rfl, T1.out.bel⟩
set_option maxHeartbeats 2000000 in
set_option maxRecDepth 100000 in
theorem begins_arg (l : List Ent) (ao : Option Addr) (lb lo c : Nat) (ho y : Int) (r : Nat) (w : World) (hl : EntsAt w ao lb lo l) (ht : Tabs w) (nl : l.length ≤ 9223372036854775807) (f1 : fewE l 14 = true) (_ : l.length ≤ c) (l14 : l.length ≤ 14) (hr : r < 256) (hCL : ∀ w, EntsAt w ao lb lo l → Tabs w → Calls Tryd.prog 38 #[.slice ao l.length c, .int .i64 ho, .int .i64 y] w fun e w' => e = .returned (.tuple #[.int .i64 1, .int .i64 (-1)]) ∧ Below w.heap.size w w') :
    Calls Tryd.prog 12 #[.slice ao l.length c, .int .i64 ho, .int .i64 y, .int .u8 (r : Nat)] w fun e w' => e = .returned (.bool true) ∧ Below w.heap.size w w' := by
  have CL := Lib.hid hCL
  clear hCL
  have HL := Lib.hid hl
  have T0 := Lib.hid (Trk.start ht)
  clear hl ht
  go_enter Tryd.func12, Tryd.ntmps12
  go_wp2_with fail
  refine (head31 _ T0.out.tabs).mono ?_
  rintro e v1 ⟨rfl, hb⟩
  have T1 := Lib.hid (T0.out.step hb)
  replace HL := Lib.hid (HL.out.step hb)
  clear hb
  go_wp2_with fail
  have hx := Few_any l ao lb lo c 14 v1 nl HL.out
  rw [f1] at hx
  refine hx.mono ?_
  rintro e wx ⟨rfl, rfl⟩
  clear hx
  go_wp2_with fail
  refine (CL.out _ HL.out T1.out.tabs).mono ?_
  rintro e v2 ⟨rfl, hb⟩
  have T2 := Lib.hid (T1.out.step hb)
  replace HL := Lib.hid (HL.out.step hb)
  clear hb
  have hrem : Int.tmod (r : Int) ((l.length : Int) + 1) = ((r % (l.length + 1) : Nat) : Int) := (Int.ofNat_tmod r (l.length + 1)).symm
  have hnz : ((l.length : Int) + 1 == 0) = false := by have : ¬ (l.length : Int) + 1 = 0 := by omega
                                                       simpa using this
  have hl14 : (l.length : Int) + 1 ≤ 15 := by omega
  have hl1 : l.length ≤ 14 := by omega
  generalize hnn : r % (l.length + 1) = n at *
  have hn : n ≤ l.length := by rw [← hnn]; exact Nat.le_of_lt_succ (Nat.mod_lt _ (by omega))
  clear hnn
  go_wp2_with fail
  go_ret
  exact ⟨rfl, T2.out.bel⟩
set_option maxHeartbeats 2000000 in
set_option maxRecDepth 100000 in
theorem begins_bad (l : List Ent) (ao : Option Addr) (lb lo c : Nat) (ho y : Int) (r : Nat) (w : World) (hl : EntsAt w ao lb lo l) (ht : Tabs w) (nl : l.length ≤ 9223372036854775807) (f1 : fewE l 14 = true) (hc : l.length ≤ c) (l14 : l.length ≤ 14) (hr : r < 256) (x : Int) (j : Nat) (hj : j < l.length) (e1 : (x == 0) = false) (hCL : ∀ w, EntsAt w ao lb lo l → Tabs w → Calls Tryd.prog 38 #[.slice ao l.length c, .int .i64 ho, .int .i64 y] w fun e w' => e = .returned (.tuple #[.int .i64 x, .int .i64 (j : Nat)]) ∧ Below w.heap.size w w') (hC1 : ∀ w, EntsAt w ao lb lo l → Tabs w → Calls Tryd.prog 38 #[.slice ao j c, .int .i64 ho, .int .i64 y] w fun e w' => e = .returned (.tuple #[.int .i64 0, .int .i64 (-1)]) ∧ Below w.heap.size w w') (hC2 : ∀ w, EntsAt w ao lb lo l → Tabs w → Calls Tryd.prog 38 #[.slice ao (j + 1) c, .int .i64 ho, .int .i64 y] w fun e w' => e = .returned (.tuple #[.int .i64 x, .int .i64 (j : Nat)]) ∧ Below w.heap.size w w') :
    Calls Tryd.prog 12 #[.slice ao l.length c, .int .i64 ho, .int .i64 y, .int .u8 (r : Nat)] w fun e w' => e = .returned (.bool true) ∧ Below w.heap.size w w' := by
  have CL := Lib.hid hCL
  clear hCL
  have C1 := Lib.hid hC1
  have C2 := Lib.hid hC2
  clear hC1 hC2
  have e1' : (x != 0) = true := by simp only [bne, e1]; rfl
  have j0 : (0 : Int) ≤ (j : Int) := by omega
  have j1 : ¬ (j : Int) < 0 := by omega
  have j2 : ¬ (l.length : Int) ≤ (j : Int) := by omega
  have j3 : (j : Int) ≤ (c : Int) := by omega
  have j4 : (j : Int) + 1 ≤ (c : Int) := by omega
  have j5 : (0 : Int) ≤ (j : Int) + 1 := by omega
  have j6 : (j : Int) ≤ 13 := by omega
  have HL := Lib.hid hl
  have T0 := Lib.hid (Trk.start ht)
  clear hl ht
  go_enter Tryd.func12, Tryd.ntmps12
  go_wp2_with fail
  refine (head31 _ T0.out.tabs).mono ?_
  rintro e v1 ⟨rfl, hb⟩
  have T1 := Lib.hid (T0.out.step hb)
  replace HL := Lib.hid (HL.out.step hb)
  clear hb
  go_wp2_with fail
  have hx := Few_any l ao lb lo c 14 v1 nl HL.out
  rw [f1] at hx
  refine hx.mono ?_
  rintro e wx ⟨rfl, rfl⟩
  clear hx
  go_wp2_with fail
  refine (CL.out _ HL.out T1.out.tabs).mono ?_
  rintro e v2 ⟨rfl, hb⟩
  have T2 := Lib.hid (T1.out.step hb)
  replace HL := Lib.hid (HL.out.step hb)
  clear hb
  have hrem : Int.tmod (r : Int) ((l.length : Int) + 1) = ((r % (l.length + 1) : Nat) : Int) := (Int.ofNat_tmod r (l.length + 1)).symm
  have hnz : ((l.length : Int) + 1 == 0) = false := by have : ¬ (l.length : Int) + 1 = 0 := by omega
                                                       simpa using this
  have hl14 : (l.length : Int) + 1 ≤ 15 := by omega
  have hl1 : l.length ≤ 14 := by omega
  generalize hnn : r % (l.length + 1) = n at *
  have hn : n ≤ l.length := by rw [← hnn]; exact Nat.le_of_lt_succ (Nat.mod_lt _ (by omega))
  clear hnn
  go_wp2_with fail
  refine (C1.out _ HL.out T2.out.tabs).mono ?_
  rintro e v3 ⟨rfl, hb⟩
  have T3 := Lib.hid (T2.out.step hb)
  replace HL := Lib.hid (HL.out.step hb)
  clear hb
  go_wp2_with fail
  refine (C2.out _ HL.out T3.out.tabs).mono ?_
  rintro e v4 ⟨rfl, hb⟩
  have T4 := Lib.hid (T3.out.step hb)
  replace HL := Lib.hid (HL.out.step hb)
  clear hb
  go_wp2_with fail
  go_ret
  exact ⟨rfl, T4.out.bel⟩
set_option maxHeartbeats 2000000 in
set_option maxRecDepth 100000 in
theorem begins_main (l : List Ent) (ao : Option Addr) (lb lo c : Nat) (ho y : Int) (r : Nat) (w : World) (hl : EntsAt w ao lb lo l) (ht : Tabs w) (nl : l.length ≤ 9223372036854775807) (f1 : fewE l 14 = true) (hc : l.length ≤ c) (l14 : l.length ≤ 14) (hr : r < 256) (hCL : ∀ w, EntsAt w ao lb lo l → Tabs w → Calls Tryd.prog 38 #[.slice ao l.length c, .int .i64 ho, .int .i64 y] w fun e w' => e = .returned (.tuple #[.int .i64 0, .int .i64 (-1)]) ∧ Below w.heap.size w w') (hC1 : ∀ n, n ≤ l.length → ∀ w, EntsAt w ao lb lo l → Tabs w → Calls Tryd.prog 38 #[.slice ao n c, .int .i64 ho, .int .i64 y] w fun e w' => e = .returned (.tuple #[.int .i64 0, .int .i64 (-1)]) ∧ Below w.heap.size w w') (hD : ∀ (j : Nat) a b, l[j]? = some a → l[j + 1]? = some b → a.day ≤ b.day) :
    Calls Tryd.prog 12 #[.slice ao l.length c, .int .i64 ho, .int .i64 y, .int .u8 (r : Nat)] w fun e w' => e = .returned (.bool true) ∧ Below w.heap.size w w' := by
  have CL := Lib.hid hCL
  clear hCL
  have HC1 := Lib.hid hC1
  have HD := Lib.hid hD
  clear hC1 hD
  have HL := Lib.hid hl
  have T0 := Lib.hid (Trk.start ht)
  clear hl ht
  go_enter Tryd.func12, Tryd.ntmps12
  go_wp2_with fail
  refine (head31 _ T0.out.tabs).mono ?_
  rintro e v1 ⟨rfl, hb⟩
  have T1 := Lib.hid (T0.out.step hb)
  replace HL := Lib.hid (HL.out.step hb)
  clear hb
  go_wp2_with fail
  have hx := Few_any l ao lb lo c 14 v1 nl HL.out
  rw [f1] at hx
  refine hx.mono ?_
  rintro e wx ⟨rfl, rfl⟩
  clear hx
  go_wp2_with fail
  refine (CL.out _ HL.out T1.out.tabs).mono ?_
  rintro e v2 ⟨rfl, hb⟩
  have T2 := Lib.hid (T1.out.step hb)
  replace HL := Lib.hid (HL.out.step hb)
  clear hb
  have hrem : Int.tmod (r : Int) ((l.length : Int) + 1) = ((r % (l.length + 1) : Nat) : Int) := (Int.ofNat_tmod r (l.length + 1)).symm
  have hnz : ((l.length : Int) + 1 == 0) = false := by have : ¬ (l.length : Int) + 1 = 0 := by omega
                                                       simpa using this
  have hl14 : (l.length : Int) + 1 ≤ 15 := by omega
  have hl1 : l.length ≤ 14 := by omega
  generalize hnn : r % (l.length + 1) = n at *
  have hn : n ≤ l.length := by rw [← hnn]; exact Nat.le_of_lt_succ (Nat.mod_lt _ (by omega))
  clear hnn
  have C1 := Lib.hid (HC1.out n hn)
  have n0 : (0 : Int) ≤ (n : Int) := by omega
  have n3 : (n : Int) ≤ (c : Int) := by omega
  go_wp2_with fail
  refine (C1.out _ HL.out T2.out.tabs).mono ?_
  rintro e v3 ⟨rfl, hb⟩
  have T3 := Lib.hid (T2.out.step hb)
  replace HL := Lib.hid (HL.out.step hb)
  clear hb
  go_wp2_with fail
  go_loopg [19] l.length (fun gk i wr => ∃ k, k + gk = l.length ∧ i = .int .i64 ((k : Nat) + 1 : Int) ∧ Trk w wr ∧ Below v3.heap.size v3 wr)
  case atStart => exact ⟨0, by omega, rfl, T3.out, Below.refl _ _⟩
  case round =>
    obtain ⟨k, hk, rfl, tr, br⟩ := hrel
    have T4 := Lib.hid tr
    have L4 := Lib.hid (HL.out.step br)
    have B4 := Lib.hid br
    clear tr br
    by_cases hlt : k + 1 < l.length
    · obtain ⟨a, ha⟩ : ∃ a, l[k]? = some a := ⟨_, List.getElem?_eq_getElem (by omega)⟩
      obtain ⟨b, hb⟩ : ∃ b, l[k + 1]? = some b := ⟨_, List.getElem?_eq_getElem (by omega)⟩
      obtain ⟨rfl, la⟩ := L4.out.ao (by omega)
      have A4 := Lib.hid (L4.out.at_ k a ha)
      have C4 := Lib.hid (L4.out.at_ (k + 1) b hb)
      have hd : ¬ b.day < a.day := by have := HD.out k a b ha hb; omega
      have i1 : (0 : Int) ≤ (k : Int) := by omega
      have i2 : (k : Int) < (l.length : Int) := by omega
      have i3 : (0 : Int) ≤ (k : Int) + 1 := by omega
      have i4 : (k : Int) + 1 < (l.length : Int) := by omega
      have i5 : k < l.length := by omega
      have i6 : max ((k : Int)) 0 = (k : Int) := by omega
      have i7 : (k : Int) + 1 - 1 = (k : Int) := by omega
      have i8 : (k : Int) ≤ 13 := by omega
      clear ha hb
      obtain ⟨a0, a1, a2, a3, a4, a5, a6⟩ := A4.out
      obtain ⟨b0, b1, b2, b3, b4, b5, b6⟩ := C4.out
      clear a0 a1 a3 a4 a5 a6 b0 b1 b3 b4 b5 b6
      go_wp2_with fail
      go_quiet (fail)
      go_wp2_with fail
      go_roundg (gk - 1)
      case measure => omega
      case rel => exact ⟨k + 1, by omega, by go_num, T4.out.step (drewN_below wr nq), B4.out.trans ((drewN_below wr nq).mono B4.out.size)⟩
    · have i4 : ¬ (k : Int) + 1 < (l.length : Int) := by omega
      go_wp2_with fail
      go_ret
      exact ⟨rfl, T4.out.bel⟩
theorem law_ChainBeginnings (l : List Ent) (ao : Option Addr) (lb lo c : Nat) (ho y r : Int) (w : World) (hl : EntsAt w ao lb lo l) (il : ∀ e ∈ l, e.I) (nl : l.length ≤ 9223372036854775807) (hc : l.length ≤ c) (_ : (Lit.int .i64 ho).wf = true) (_ : (Lit.int .i64 y).wf = true) (wr : (Lit.int .u8 r).wf = true) (ht : Tabs w) :
    Calls Tryd.prog 12 #[.slice ao l.length c, .int .i64 ho, .int .i64 y, .int .u8 r] w fun e w' => e = .returned (.bool true) ∧ Below w.heap.size w w' := by
  have wr' : 0 ≤ r ∧ r ≤ 255 := by simp only [Lit.wf, Bool.and_eq_true, decide_eq_true_eq] at wr; exact wr
  obtain ⟨r, rfl⟩ := Int.eq_ofNat_of_zero_le wr'.1
  rcases f1 : fewE l 14 with _ | _
  · exact begins_few l ao lb lo c ho y r w hl ht nl f1
  have l1 := few_len f1
  have ol := few_ok f1 il
  have hC := fun n (hn : n ≤ l.length) w (h : EntsAt w ao lb lo l) ht => Check_any ho y (l.take n) ao lb lo c w (by rw [List.length_take]; omega) (fun e he => ol e (List.mem_of_mem_take he)) (h.take n) ht
  have hl' : ∀ n, n ≤ l.length → (l.take n).length = n := fun n hn => by rw [List.length_take]; omega
  have hCL := fun w h ht => Check_any ho y l ao lb lo c w (by omega) ol h ht
  by_cases g1 : (chkE ho y l).1 = 0
  · have k1 := chkE_good g1
    rw [chkE_of k1.1 k1.2] at hCL
    refine begins_main l ao lb lo c ho y r w hl ht nl f1 hc (by omega) (by omega) hCL (fun n hn w h ht => ?_) (fun j a b ha hb => begin_days g1 ha hb)
    have := hC n hn w h ht
    rw [hl' n hn, begin_good g1 n] at this
    exact this
  · by_cases g2 : (chkE ho y l).2 < 0
    · rw [begin_arg g1 g2] at hCL
      exact begins_arg l ao lb lo c ho y r w hl ht nl f1 hc (by omega) (by omega) hCL
    · obtain ⟨j, hj, h2, h3, h4⟩ := begin_bad g1 (by omega)
      refine begins_bad l ao lb lo c ho y r w hl ht nl f1 hc (by omega) (by omega) (chkE ho y l).1 j hj (by simpa using g1) (fun w h ht => ?_) (fun w h ht => ?_) (fun w h ht => ?_)
      · have := hCL w h ht; rw [h2] at this; exact this
      · have := hC j (by omega) w h ht; rw [hl' j (by omega), h3] at this; exact this
      · have := hC (j + 1) (by omega) w h ht; rw [hl' (j + 1) (by omega), h4, h2] at this; exact this
end Go.Proofs.YtpdbcahiipbhnaaDoor
